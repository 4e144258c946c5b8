/- The specification's copied. The specification's changed orders. The specification's piece, More, Save, Need. The specification's Save, Need. The specification's comparison of orders. OrderCopies. For every input, in whatever memory: OrderCopies returns true, and its arguments read as before. No condition. -/
import Derived.Test.YtnfagcccgmakdaaGreatP1
import Derived.Test.YtnfagcccgmakdaaGreatP8
import Derived.Test.YtnfagcccgmakdaaGreatP6
import Derived.Test.YtnfagcccgmakdaaGreatRows
import Derived.ProofKit
import Derived.JoinedOf
import Derived.OpenShut
set_option linter.all false
namespace Go.Wk
open Go.RowKit
set_option linter.unusedVariables false

/-! ## Worlds by names: a new block, cells written, a list grown; and what all else keeps -/
/-- blocks of w that are not in L lie in V as in w -/
structure Chg (L : List Nat) (w V : World) : Prop where
  os : V.os = w.os
  tape : V.tape = w.tape
  output : V.output = w.output
  size : w.heap.size ≤ V.heap.size
  block : ∀ k, k < w.heap.size → k ∉ L → V.heap[k]? = w.heap[k]?
theorem Chg.refl (L : List Nat) (w : World) : Chg L w w := ⟨rfl, rfl, rfl, Nat.le_refl _, fun _ _ _ => rfl⟩
theorem Chg.ext {L : List Nat} {w V V' : World} (h : Chg L w V) (hE : Ext V V') : Chg L w V' :=
  ⟨hE.os.trans h.os, hE.tape.trans h.tape, hE.output.trans h.output, Nat.le_trans h.size hE.size, fun k hk hn => (hE.block k (Nat.lt_of_lt_of_le hk h.size)).trans (h.block k hk hn)⟩
theorem Chg.drew {L : List Nat} {w V : World} (h : Chg L w V) : Chg L w V.drew := h.ext (Ext.refl V).drew
theorem Chg.alloc {L : List Nat} {w V : World} (h : Chg L w V) (o : Obj) : Chg L w (V.alloc o) := h.ext ((Ext.refl V).alloc o)
theorem Chg.setC {L : List Nat} {w V : World} (h : Chg L w V) {b k : Nat} {v : Value} (hb : b ∈ L) : Chg L w (V.setCell ⟨b, k, Option.none⟩ v) :=
  ⟨h.os, h.tape, h.output, by simpa using h.size, fun i hi hn => (Below.heap_setCell _ _ _ _ (fun e => hn (by rw [e]; exact hb))).trans (h.block i hi hn)⟩
theorem Chg.lt {w : World} {a : Addr} {v : Value} (h : w.cell? a = some v) : a.block < w.heap.size := cell_lt h
theorem Chg.cell {L : List Nat} {w V : World} (h : Chg L w V) {b i : Nat} {v : Value} (c : w.cell? ⟨b, i, none⟩ = some v) (hb : b ∉ L) : V.cell? ⟨b, i, none⟩ = some v :=
  (World.cell?_of_block (a := ⟨b, i, none⟩) (h.block b (cell_lt c) hb)).trans c
theorem Chg.fz {L : List Nat} {w V : World} (h : Chg L w V) {b i : Nat} {v : Value} (c : w.cell? ⟨b, i, none⟩ = some v) (f : ∀ k, w.frozen? ⟨b, k, none⟩ = false) (hb : b ∉ L) : ∀ k, V.frozen? ⟨b, k, none⟩ = false := fun k =>
  (World.frozen?_of_block (a := ⟨b, k, none⟩) (h.block b (cell_lt c) hb)).trans (f k)
theorem Chg.to {L : List Nat} {X w V : World} (x : Ext X w) (h : Chg L w V) (hL : ∀ b ∈ L, X.heap.size ≤ b) : Ext X V :=
  ⟨h.os.trans x.os, h.tape.trans x.tape, h.output.trans x.output, Nat.le_trans x.size h.size, fun k hk => (h.block k (Nat.lt_of_lt_of_le hk x.size) (fun hm => by have := hL k hm; omega)).trans (x.block k hk)⟩
theorem Chg.more {L L' : List Nat} {X w V : World} (x : Chg L' X w) (h : Chg L w V) (hL : ∀ b ∈ L, X.heap.size ≤ b ∨ b ∈ L') : Chg L' X V :=
  ⟨h.os.trans x.os, h.tape.trans x.tape, h.output.trans x.output, Nat.le_trans x.size h.size, fun k hk hn => (h.block k (Nat.lt_of_lt_of_le hk x.size) (fun hm => by rcases hL k hm with h1 | h1; omega; exact hn h1)).trans (x.block k hk hn)⟩
theorem Ext.fz {w V : World} (h : Ext w V) {b i : Nat} {v : Value} (c : w.cell? ⟨b, i, none⟩ = some v) (f : ∀ k, w.frozen? ⟨b, k, none⟩ = false) : ∀ k, V.frozen? ⟨b, k, none⟩ = false := fun k =>
  (World.frozen?_of_block (a := ⟨b, k, none⟩) (Below.block h b (cell_lt c))).trans (f k)
/-- the i-th of a list (so that rfl gives it) -/
def nthV : List Value → Nat → Option Value
  | [], _ => none
  | v :: _, 0 => some v
  | _ :: l, i + 1 => nthV l i
theorem nthV_eq : ∀ (l : List Value) (i : Nat), nthV l i = l[i]?
  | [], i => by simp [nthV]
  | v :: l, 0 => rfl
  | v :: l, i + 1 => by rw [nthV, nthV_eq l i]; simp
theorem _root_.Go.World.ownsRow.ext {w w' : World} {base e size n : Nat} {v : Value} {xs : List Value} (h : w.ownsRow base e size v n xs) (hE : Ext w w') : w'.ownsRow base e size v n xs := by
  refine ⟨h.1, ?_⟩
  rcases h.2 with hn | ⟨g, cap, cur, rfl, hb, hg, rest⟩
  · exact .inl hn
  · exact .inr ⟨g, cap, cur, rfl, hb, (Below.block hE g (Array.getElem?_eq_some_iff.1 hg).1).trans hg, rest⟩
/-- block b holds the cells cs, each of a row of e's -/
def RowC (w : World) (b : Nat) (e : TypeId) (cs : List Value) : Prop := w.heap[b]? = some (.cells cs.toArray e (0, 0))
theorem RowC.lt {w : World} {b : Nat} {e : TypeId} {cs : List Value} (h : RowC w b e cs) : b < w.heap.size := (Array.getElem?_eq_some_iff.1 h).1
theorem RowC.ext {w w' : World} {b : Nat} {e : TypeId} {cs : List Value} (h : RowC w b e cs) (hE : Ext w w') : RowC w' b e cs := (Below.block hE b h.lt).trans h
theorem RowC.cell {w : World} {b : Nat} {e : TypeId} {cs : List Value} (h : RowC w b e cs) (j : Nat) : w.cell? ⟨b, j, none⟩ = cs[j]? := by
  have := cell_of_row w b j cs.toArray e (0, 0) h
  simpa using this
theorem RowC.frozen {w : World} {b : Nat} {e : TypeId} {cs : List Value} (h : RowC w b e cs) (j : Nat) : w.frozen? ⟨b, j, none⟩ = false := by
  unfold World.frozen?; rw [h]; simp
theorem RowC.own {w : World} {b : Nat} {e : TypeId} {cs : List Value} (h : RowC w b e cs) {base size k c : Nat} (hb : base ≤ b) (hk : k ≤ c) (hc : c ≤ maxLen) (hl : cs.length = c * size) :
    w.ownsRow base e size (.slice (some ⟨b, 0, none⟩) k c) k (cs.take (k * size)) :=
  ⟨by have := Nat.mul_le_mul_right size hk; rw [List.length_take]; omega, .inr ⟨b, c, cs.toArray, rfl, hb, h, hk, hc, by simpa using hl, by simp⟩⟩
/-- cells i, i + 1, .. of block b are written -/
def setL (w : World) (b i : Nat) : List Value → World
  | [] => w
  | v :: vs => setL (w.setCell ⟨b, i, none⟩ v) b (i + 1) vs
theorem setL_size (b : Nat) : ∀ (vs : List Value) (w : World) (i : Nat), (setL w b i vs).heap.size = w.heap.size
  | [], _, _ => rfl
  | v :: vs, w, i => by rw [setL, setL_size b vs]; simp
theorem setL_heap (b : Nat) : ∀ (vs : List Value) (w : World) (i k : Nat), k ≠ b → (setL w b i vs).heap[k]? = w.heap[k]?
  | [], _, _, _, _ => rfl
  | v :: vs, w, i, k, h => by rw [setL, setL_heap b vs _ _ k h]; exact Below.heap_setCell _ _ _ _ h
theorem setL_frozen (b : Nat) : ∀ (vs : List Value) (w : World) (i : Nat) (a : Addr), (setL w b i vs).frozen? a = w.frozen? a
  | [], _, _, _ => rfl
  | v :: vs, w, i, a => by rw [setL, setL_frozen b vs]; exact World.frozen?_setCell ..
theorem setL_off (b : Nat) : ∀ (vs : List Value) (w : World) (i j : Nat), j < i ∨ i + vs.length ≤ j → (setL w b i vs).cell? ⟨b, j, none⟩ = w.cell? ⟨b, j, none⟩
  | [], _, _, _, _ => rfl
  | v :: vs, w, i, j, h => by
    rw [setL, setL_off b vs _ _ _ (by simp at h; omega)]
    exact World.cell?_setCell_other _ _ _ _ (by intro e; injection e with _ e; simp at h; omega)
theorem setL_on (b : Nat) : ∀ (vs : List Value) (w : World) (i : Nat), (∀ j, j < vs.length → (w.cell? ⟨b, i + j, none⟩).isSome = true) → ∀ j v, vs[j]? = some v → (setL w b i vs).cell? ⟨b, i + j, none⟩ = some v
  | [], _, _, _, j, v, h => by simp at h
  | u :: vs, w, i, hs, j, v, h => by
    have h0 := hs 0 (by simp)
    rw [setL]
    cases j with
    | zero =>
      simp at h; subst h
      rw [Nat.add_zero, setL_off b vs _ _ _ (by omega)]
      exact World.cell?_setCell_same' _ _ _ (by simpa using h0)
    | succ j =>
      have := setL_on b vs (w.setCell ⟨b, i, none⟩ u) (i + 1) (fun k hk => ?_) j v (by simpa using h)
      · rw [show i + (j + 1) = i + 1 + j by omega]; exact this
      · rw [World.cell?_setCell_other _ _ _ _ (by intro e; injection e with _ e; omega)]
        have := hs (k + 1) (by simp; omega)
        rw [show i + 1 + k = i + (k + 1) by omega]; exact this
theorem setL_row (b : Nat) : ∀ (vs : List Value) (w : World) (i : Nat) (cs : Array Value) (t : TypeId), w.heap[b]? = some (.cells cs t (0, 0)) → ∃ cs', (setL w b i vs).heap[b]? = some (.cells cs' t (0, 0)) ∧ cs'.size = cs.size
  | [], _, _, cs, _, h => ⟨cs, h, rfl⟩
  | v :: vs, w, i, cs, t, h => by
    have h1 : ∃ cs1, (w.setCell ⟨b, i, none⟩ v).heap[b]? = some (.cells cs1 t (0, 0)) ∧ cs1.size = cs.size := ⟨_, heap_setCell_same w b i cs t v h, by simp⟩
    obtain ⟨cs1, h1, e1⟩ := h1
    obtain ⟨cs', h2, e2⟩ := setL_row b vs _ (i + 1) cs1 t h1
    exact ⟨cs', h2, e2.trans e1⟩
/-- V is w with cells i.. of block b written -/
structure Put (w V : World) (b i : Nat) (vs : List Value) : Prop where
  chg : Chg [b] w V
  same : V.heap.size ≤ w.heap.size ∧ w.heap.size ≤ V.heap.size
  new : ∀ j v, nthV vs j = some v → V.cell? ⟨b, i + j, none⟩ = some v
  old : ∀ j, j < i ∨ i + vs.length ≤ j → V.cell? ⟨b, j, none⟩ = w.cell? ⟨b, j, none⟩
  fz : ∀ a, V.frozen? a = w.frozen? a
  row : ∀ cs t, w.heap[b]? = some (.cells cs t (0, 0)) → ∃ cs', V.heap[b]? = some (.cells cs' t (0, 0)) ∧ cs'.size = cs.size
  eq : V = setL w b i vs
theorem setL_put {w : World} {b i : Nat} {vs : List Value} (hs : ∀ j, j < vs.length → (w.cell? ⟨b, i + j, none⟩).isSome = true) : Put w (setL w b i vs) b i vs := by
  have hos : ∀ (vs : List Value) (w : World) (i : Nat), (setL w b i vs).os = w.os ∧ (setL w b i vs).tape = w.tape ∧ (setL w b i vs).output = w.output := by
    intro vs
    induction vs with
    | nil => exact fun _ _ => ⟨rfl, rfl, rfl⟩
    | cons v vs ih => exact fun w i => ih _ _
  exact ⟨⟨(hos vs w i).1, (hos vs w i).2.1, (hos vs w i).2.2, by rw [setL_size]; exact Nat.le_refl _, fun k _ hk => setL_heap b vs w i k (by simpa using hk)⟩, ⟨by rw [setL_size]; exact Nat.le_refl _, by rw [setL_size]; exact Nat.le_refl _⟩, fun j v h => setL_on b vs w i hs j v (by rw [← nthV_eq]; exact h), fun j hj => setL_off b vs w i j hj, fun a => setL_frozen b vs w i a, fun cs t h => setL_row b vs w i cs t h, rfl⟩
theorem Put.cell {w V : World} {b i : Nat} {vs : List Value} (h : Put w V b i vs) {k j : Nat} {v : Value} (c : w.cell? ⟨k, j, none⟩ = some v) (hk : k ≠ b) : V.cell? ⟨k, j, none⟩ = some v := h.chg.cell c (by simpa using hk)
theorem Put.cellOff {w V : World} {b i : Nat} {vs : List Value} (h : Put w V b i vs) {j : Nat} {v : Value} (c : w.cell? ⟨b, j, none⟩ = some v) (hk : j < i ∨ i + vs.length ≤ j) : V.cell? ⟨b, j, none⟩ = some v := (h.old j hk).trans c
theorem Put.frz {w V : World} {b i : Nat} {vs : List Value} (h : Put w V b i vs) {k : Nat} (f : ∀ j, w.frozen? ⟨k, j, none⟩ = false) : ∀ j, V.frozen? ⟨k, j, none⟩ = false := fun j => (h.fz _).trans (f j)
theorem Put.to {X w V : World} {b i : Nat} {vs : List Value} (x : Ext X w) (h : Put w V b i vs) (hb : X.heap.size ≤ b) : Ext X V := Chg.to x h.chg (by simpa using hb)
theorem Put.more {L : List Nat} {X w V : World} {b i : Nat} {vs : List Value} (x : Chg L X w) (h : Put w V b i vs) (hb : X.heap.size ≤ b ∨ b ∈ L) : Chg L X V := Chg.more x h.chg (by simpa using hb)
/-- V is w with a new block n -/
structure New (w V : World) (n : Nat) (cs : Array Value) : Prop where
  at_ : w.heap.size = n
  ext : Ext w V
  size : V.heap.size ≤ n + 1 ∧ n + 1 ≤ V.heap.size
  cell : ∀ i v, nthV cs.toList i = some v → V.cell? ⟨n, i, none⟩ = some v
  fz : ∀ i, V.frozen? ⟨n, i, none⟩ = false
  row : ∃ t, V.heap[n]? = some (.cells cs t (0, 0))
theorem new_alloc (w : World) (cs : Array Value) (t : TypeId) : New w (w.alloc (.cells cs t)) w.heap.size cs :=
  ⟨rfl, (Ext.refl _).alloc _, ⟨by simp, by simp⟩, fun i v h => by rw [cell_nw]; rw [nthV_eq] at h; simpa using h, fun i => frozen_nw .., t, World.alloc_heap_new w _⟩
theorem Put.some_off {w V : World} {b i k n : Nat} {vs : List Value} (p : Put w V b i vs) (h : ∀ j, j < n → (w.cell? ⟨b, k + j, none⟩).isSome = true) (ho : k + n ≤ i ∨ i + vs.length ≤ k) : ∀ j, j < n → (V.cell? ⟨b, k + j, none⟩).isSome = true := fun j hj => by
  rw [p.old _ (by omega)]; exact h j hj
theorem _root_.Go.World.ownsRow.put {w V : World} {base e size n b i : Nat} {v : Value} {xs vs : List Value} (h : w.ownsRow base e size v n xs) (p : Put w V b i vs) (hb : b < base) : V.ownsRow base e size v n xs := by
  refine ⟨h.1, ?_⟩
  rcases h.2 with hn | ⟨g, cap, cur, rfl, hg0, hg, rest⟩
  · exact .inl hn
  · exact .inr ⟨g, cap, cur, rfl, hg0, (p.chg.block g (Array.getElem?_eq_some_iff.1 hg).1 (by simp; omega)).trans hg, rest⟩
section
variable {F : Fence} {P : Program} {N : Nat} {gd : Nat → Option Nat} {K : (Nat → Value) → World → Prop} {ρ : Nat → Value} {w : World}
theorem Wops.absA {L : List Oper} {cs : Array Value} {t : TypeId} (h : ∀ V n, New w V n cs → Wops F P N gd K L ρ V) : Wops F P N gd K L ρ (w.alloc (.cells cs t)) := h _ _ (new_alloc w cs t)
theorem Mops.absA {S : List (List Oper × Option (Oper × Bool))} {cs : Array Value} {t : TypeId} (h : ∀ V n, New w V n cs → Mops F P N gd K S ρ V) : Mops F P N gd K S ρ (w.alloc (.cells cs t)) := h _ _ (new_alloc w cs t)
theorem Mops.absD {S : List (List Oper × Option (Oper × Bool))} (h : ∀ V, Ext w V → (V.heap.size ≤ w.heap.size ∧ w.heap.size ≤ V.heap.size) → Mops F P N gd K S ρ V) : Mops F P N gd K S ρ w.drew := h _ (Ext.refl w).drew ⟨Nat.le_refl _, Nat.le_refl _⟩
theorem Wops.absS {L : List Oper} {b i : Nat} (vs : List Value) (hs : ∀ j, j < vs.length → (w.cell? ⟨b, i + j, none⟩).isSome = true) (h : ∀ V, Put w V b i vs → Wops F P N gd K L ρ V) : Wops F P N gd K L ρ (setL w b i vs) := h _ (setL_put hs)
theorem Mops.absS {S : List (List Oper × Option (Oper × Bool))} {b i : Nat} (vs : List Value) (hs : ∀ j, j < vs.length → (w.cell? ⟨b, i + j, Option.none⟩).isSome = true) (h : ∀ V, Put w V b i vs → Mops F P N gd K S ρ V) : Mops F P N gd K S ρ (setL w b i vs) := h _ (setL_put hs)
theorem Wp.absS {c : Code} {ds : List Deferred} {Q : Post} {b i : Nat} (vs : List Value) (hs : ∀ j, j < vs.length → (w.cell? ⟨b, i + j, none⟩).isSome = true) (h : ∀ V, Put w V b i vs → Wp F P N c Q ρ ds V) : Wp F P N c Q ρ ds (setL w b i vs) := h _ (setL_put hs)
end
theorem some1 {w : World} {b i : Nat} {v0 : Value} (h0 : w.cell? ⟨b, i, none⟩ = some v0) {x0 : Value} : ∀ j, j < [x0].length → (w.cell? ⟨b, i + j, none⟩).isSome = true := by
  intro j hj; match j, hj with | 0, _ => simp [h0]
theorem some2 {w : World} {b i : Nat} {v0 v1 : Value} (h0 : w.cell? ⟨b, i, none⟩ = some v0) (h1 : w.cell? ⟨b, i + 1, none⟩ = some v1) {x0 x1 : Value} : ∀ j, j < [x0, x1].length → (w.cell? ⟨b, i + j, none⟩).isSome = true := by
  intro j hj; match j, hj with | 0, _ => simp [h0] | 1, _ => simp [h1]
theorem somes {w : World} {b i : Nat} {vs : List Value} (l : List Value) (hl : vs.length ≤ l.length) (h : ∀ j v, l[j]? = some v → w.cell? ⟨b, i + j, none⟩ = some v) : ∀ j, j < vs.length → (w.cell? ⟨b, i + j, none⟩).isSome = true := fun j hj => by
  rw [h j (l[j]'(by omega)) (List.getElem?_eq_getElem _)]; rfl
@[reducible] def cellVal {w : World} {a : Addr} {v : Value} (_ : w.cell? a = some v) : Value := v
theorem grown_chg {w w' : World} {row : Option Nat} (h : w.grownBy w' row) : Chg row.toList w w' :=
  ⟨h.os, h.tape, h.output, h.size, fun k hk hn => h.block k hk (fun e => hn (by rw [← e]; simp))⟩
theorem lt_off {row : Option Nat} {S T b : Nat} (LT : ∀ k, row = some k → S ≤ k ∧ k < T) (h : b < S ∨ T ≤ b) : b ∉ row.toList := fun hm => by
  have := LT b (by simpa using hm); omega
theorem lt_ge {row : Option Nat} {S T X : Nat} (LT : ∀ k, row = some k → S ≤ k ∧ k < T) (h : X ≤ S) : ∀ b ∈ row.toList, X ≤ b := fun b hm => by
  have := LT b (by simpa using hm); omega
theorem lt_gm {row : Option Nat} {S T X : Nat} {L : List Nat} (LT : ∀ k, row = some k → S ≤ k ∧ k < T) (h : X ≤ S) : ∀ b ∈ row.toList, X ≤ b ∨ b ∈ L := fun b hm => .inl (lt_ge LT h b hm)
end Go.Wk
namespace Go.Proofs.YtnfagcccgmakdaaGreat
open Go.RowKit Go.Wk Go.Proofs
attribute [local irreducible] Go.Wk.Wops Go.Wk.Wp Go.Wk.Mtree Go.Wk.Mops
set_option maxHeartbeats 4000000

/-- a copied order in blocks of its own, its lists with room behind them -/
structure CopyG (w : World) (base : Nat) (a : OA) (o : Ord) : Prop where
  ord : OrdF w w.heap.size a o
  rC : RowB w a.cb 3 a.cc
  rR : 0 < o.n → RowB w a.rb 103 (a.rc * 3)
  rT : ∀ i, i < o.n → RowB w (a.tb i) 3 (a.tc i)
  zC : a.co = 0
  zR : a.ro = 0
  zT : ∀ i, i < o.n → a.to_ i = 0
  gC : base ≤ a.cb
  gR : 0 < o.n → base ≤ a.rb
  gT : ∀ i, i < o.n → base ≤ a.tb i
  ne : ∀ i, i < o.n → a.tb i ≠ a.cb
  inj : ∀ i j, i < o.n → j < o.n → a.tb i = a.tb j → i = j
def cOA (tb tc : Nat → Nat) : OA := ⟨0, 0, 0, none, 0, 0, 0, tb, fun _ => 0, tc⟩
/-- what the loop keeps -/
structure CopJ (w wk : World) (S : Nat) (o : Ord) (b3 cb cc : Nat) (tb tc : Nat → Nat) (v : Value) (k : Nat) : Prop where
  ext : Ext w wk
  size : S ≤ wk.heap.size
  q2 : wk.cell? ⟨w.heap.size + 1, 0, none⟩ = some (.slice none 0 0) ∧ wk.cell? ⟨w.heap.size + 1, 1, none⟩ = some (.slice none 0 0) ∧ ∀ k, wk.frozen? ⟨w.heap.size + 1, k, none⟩ = false
  c0 : wk.cell? ⟨b3, 0, none⟩ = some (.slice (some ⟨cb, 0, none⟩) o.m cc)
  c1 : wk.cell? ⟨b3, 1, none⟩ = some v
  fz : ∀ k, wk.frozen? ⟨b3, k, none⟩ = false
  rC : RowB wk cb 3 cc
  cC : ∀ j, j < o.m → wk.cell? ⟨cb, j, none⟩ = some (.int .i64 (o.C j))
  own : wk.ownsRow S 103 3 v k (rcL (cOA tb tc) o id k)
  rT : ∀ i, i < k → RowB wk (tb i) 3 (tc i)
  cTT : ∀ i j, i < k → j < o.m → wk.cell? ⟨tb i, j, none⟩ = some (.int .i64 (o.T i j))
  cap : ∀ i, i < k → o.m ≤ tc i
  gT : ∀ i, i < k → S ≤ tb i
  up : ∀ i j, i < j → j < k → tb i < tb j
theorem CopJ.more {w wk w3 : World} {S : Nat} {o : Ord} {b3 cb cc : Nat} {tb tc : Nat → Nat} {v : Value} {k : Nat} (h : CopJ w wk S o b3 cb cc tb tc v k) (hE : Ext wk w3) : CopJ w w3 S o b3 cb cc tb tc v k := by
  have hb : b3 < wk.heap.size := cell_lt h.c0
  have hr : w.heap.size + 1 < wk.heap.size := cell_lt h.q2.1
  exact ⟨Below.trans h.ext (Below.mono hE h.ext.size), Nat.le_trans h.size hE.size, ⟨hE.cell h.q2.1, hE.cell h.q2.2.1, fz_ext hE hr h.q2.2.2⟩, hE.cell h.c0, hE.cell h.c1, fz_ext hE hb h.fz, h.rC.ext hE, fun j hj => hE.cell (h.cC j hj), ownsRow_ext h.own hE, fun i hi => (h.rT i hi).ext hE, fun i j hi hj => hE.cell (h.cTT i j hi hj), h.cap, h.gT, h.up⟩
theorem rcL_same {o : Ord} {tb tc tb' tc' : Nat → Nat} : ∀ k, (∀ i, i < k → tb i = tb' i ∧ tc i = tc' i) → rcL (cOA tb tc) o id k = rcL (cOA tb' tc') o id k
  | 0, _ => rfl
  | k + 1, h => by
    rw [rcL_succ, rcL_succ, rcL_same k (fun i hi => h i (by omega))]
    obtain ⟨h1, h2⟩ := h k (Nat.lt_succ_self _)
    congr 1
    show [_, _, Value.slice (some ⟨tb k, 0, none⟩) o.m (tc k)] = [_, _, Value.slice (some ⟨tb' k, 0, none⟩) o.m (tc' k)]
    rw [h1, h2]
theorem CopJ.step {w w3 w4 : World} {S : Nat} {o : Ord} {b3 cb cc g c : Nat} {tb tc : Nat → Nat} {v v' : Value} {k : Nat} (h : CopJ w w3 S o b3 cb cc tb tc v k) (h3 : b3 < S) (h1 : w.heap.size + 1 < S) (h31 : w.heap.size + 1 < b3)
    (hg : RowB w3 g 3 c) (hgc : ∀ j, j < o.m → w3.cell? ⟨g, j, none⟩ = some (.int .i64 (o.T k j))) (hcap : o.m ≤ c) (hgS : S ≤ g) (hup : ∀ i, i < k → tb i < g)
    (hown : w4.ownsRow S 103 3 v' (k + 1) (rcL (cOA tb tc) o id k ++ [.int .i64 (o.ID k), .int .i64 (o.A k), .slice (some ⟨g, 0, none⟩) o.m c])) (hgr : w3.grownBy w4 v.ownBlock) (hcS : cb < S) (h3c : cb ≠ b3) :
    CopJ w (w4.setCell ⟨b3, 1, none⟩ v') S o b3 cb cc (fun i => if i = k then g else tb i) (fun i => if i = k then c else tc i) v' (k + 1) := by
  have nv : ∀ b, b < S → v.ownBlock ≠ some b := fun b hb e => by have := (World.ownsRow.lt h.own b e).1; omega
  have nr : ∀ {b n : Nat}, RowB w3 b 3 n → v.ownBlock ≠ some b := fun hr => row_own_ne hr h.own (by decide)
  have row : ∀ {b n : Nat}, RowB w3 b 3 n → RowB (w4.setCell ⟨b3, 1, none⟩ v') b 3 n := fun hr => (hr.grown hgr (nr hr)).set _ rfl _
  have cell : ∀ {b i : Nat} {u : Value}, v.ownBlock ≠ some b → b ≠ b3 → w3.cell? ⟨b, i, none⟩ = some u → (w4.setCell ⟨b3, 1, none⟩ v').cell? ⟨b, i, none⟩ = some u := fun hv hb hc => (setCell_blk (Ne.symm hb)).trans (hgr.cell hc (fun e => hv e.symm))
  have fz : ∀ {b : Nat} (k : Nat), b < S → b < w3.heap.size → w3.frozen? ⟨b, k, none⟩ = false → (w4.setCell ⟨b3, 1, none⟩ v').frozen? ⟨b, k, none⟩ = false := fun k hb hl hf => by
    rw [World.frozen?_setCell]
    exact fz_same (hgr.block _ hl (fun e => nv _ hb e.symm)) hf
  have hb3 : b3 < w3.heap.size := cell_lt h.c0
  have hr1 : w.heap.size + 1 < w3.heap.size := cell_lt h.q2.1
  have hEw : Below w.heap.size w w4 := Below.grown h.ext h.own hgr (by omega) (Nat.le_refl _)
  refine ⟨Below.setCell hEw (by show w.heap.size ≤ b3; omega) _, by simp; exact Nat.le_trans h.size hgr.size, ⟨cell (nv _ h1) (by omega) h.q2.1, cell (nv _ h1) (by omega) h.q2.2.1, fun j => fz j h1 hr1 (h.q2.2.2 j)⟩, ?_, ?_, fun j => fz j h3 hb3 (h.fz j), row h.rC, fun j hj => cell (nr h.rC) (fun e => ?_) (h.cC j hj), ?_, ?_, ?_, ?_, ?_, ?_⟩
  · rw [setCell_off (by decide)]; exact hgr.cell h.c0 (fun e => nv _ h3 e.symm)
  · exact World.cell?_setCell_same' _ _ _ (by rw [hgr.cell h.c1 (fun e => nv _ h3 e.symm)]; rfl)
  · exact h3c e
  · rw [rcL_succ, show rcL (cOA (fun i => if i = k then g else tb i) (fun i => if i = k then c else tc i)) o id k = rcL (cOA tb tc) o id k from rcL_same k fun i hi => ⟨if_neg (by omega), if_neg (by omega)⟩]
    have e : rcs (cOA (fun i => if i = k then g else tb i) (fun i => if i = k then c else tc i)) o (id k) = [.int .i64 (o.ID k), .int .i64 (o.A k), .slice (some ⟨g, 0, none⟩) o.m c] := by
      show [_, _, Value.slice (some ⟨if k = k then g else tb k, 0, none⟩) o.m (if k = k then c else tc k)] = _
      rw [if_pos rfl, if_pos rfl]; rfl
    rw [e]
    exact ownsRow_setCell_below hown h3 _
  · intro i hi
    by_cases e : i = k
    · simp only [if_pos e]; exact row hg
    · simp only [if_neg e]; exact row (h.rT i (by omega))
  · intro i j hi hj
    by_cases e : i = k
    · subst e; simp only [if_pos]; exact cell (nr hg) (by omega) (hgc j hj)
    · simp only [if_neg e]; exact cell (nr (h.rT i (by omega))) (by have := h.gT i (by omega); omega) (h.cTT i j (by omega) hj)
  · intro i hi
    by_cases e : i = k
    · simp only [if_pos e]; exact hcap
    · simp only [if_neg e]; exact h.cap i (by omega)
  · intro i hi
    by_cases e : i = k
    · simp only [if_pos e]; exact hgS
    · simp only [if_neg e]; exact h.gT i (by omega)
  · intro i j hij hj
    by_cases e : j = k
    · subst e; simp only [if_pos, if_neg (show ¬ i = j by omega)]; exact hup i hij
    · simp only [if_neg e, if_neg (show ¬ i = k by omega)]; exact h.up i j hij (by omega)
theorem CopJ.copy {w wk : World} {S B : Nat} {o : Ord} {b3 cb cc : Nat} {tb tc : Nat → Nat} {v : Value} (ho : OrdOk o) (h : CopJ w wk S o b3 cb cc tb tc v o.n) (h1 : B ≤ cb) (hc : o.m ≤ cc) (hcS : cb < S) (hS : B ≤ S) :
    ∃ a', .slice (some ⟨cb, 0, none⟩) o.m cc = OA.cv a' o ∧ v = OA.rv a' o ∧ CopyG wk B a' o := by
  have hne : ∀ i, i < o.n → tb i ≠ cb := fun i hi => by have := h.gT i hi; omega
  have hinj : ∀ i j, i < o.n → j < o.n → tb i = tb j → i = j := fun i j hi hj e => by
    rcases Nat.lt_trichotomy i j with hlt | rfl | hlt
    · have := h.up i j hlt hj; omega
    · rfl
    · have := h.up j i hlt hi; omega
  rcases h.own.2 with ⟨rfl, h0⟩ | ⟨g, cap, cur, rfl, hb, hg, hnc, hcm, hcs, htake⟩
  · refine ⟨⟨cb, 0, cc, none, 0, 0, 0, tb, fun _ => 0, tc⟩, rfl, by simp only [OA.rv, h0], ⟨?_, h.rC, fun h' => absurd h' (by omega), h.rT, rfl, rfl, fun _ _ => rfl, h1, fun h' => absurd h' (by omega), fun i hi => Nat.le_trans hS (h.gT i hi), hne, hinj⟩⟩
    refine ⟨ho.hm1, ho.hm2, ho.hn2, ?_, fun h' => absurd h' (by omega), fun i hi => absurd hi (by omega), fun i hi => absurd hi (by omega), fun i hi => absurd hi (by omega), ?_, h.rC.lt, fun h' => absurd h' (by omega), fun i hi => (h.rT i hi).lt, hc, by rw [h0]; exact Nat.le_refl _, h.cap, ho.vC, ho.vA, ho.vT⟩
    · intro j hj; simp only [Nat.zero_add]; exact h.cC j hj
    · intro i j hi hj; simp only [Nat.zero_add]; exact h.cTT i j hi hj
  · have hcell : ∀ i r, r < 3 → i < o.n → ∀ u, (rcs (cOA tb tc) o (id i))[r]? = some u → wk.cell? ⟨g, i * 3 + r, none⟩ = some u := fun i r hr hi u hu => by
      have := World.ownsRow.cells h.own (g := g) rfl (i * 3 + r) u (by rw [rcL_get (cOA tb tc) o id hr o.n hi]; exact hu)
      rwa [Addr.add_lit, Nat.zero_add] at this
    have hrow : RowB wk g 103 (cap * 3) := ⟨cur, hg, by simpa using hcs⟩
    refine ⟨⟨cb, 0, cc, some ⟨g, 0, none⟩, g, 0, cap, tb, fun _ => 0, tc⟩, rfl, rfl, ⟨?_, h.rC, fun _ => hrow, h.rT, rfl, rfl, fun _ _ => rfl, h1, fun _ => Nat.le_trans hS hb, fun i hi => Nat.le_trans hS (h.gT i hi), hne, hinj⟩⟩
    refine ⟨ho.hm1, ho.hm2, ho.hn2, ?_, fun _ => rfl, ?_, ?_, ?_, ?_, h.rC.lt, fun _ => hrow.lt, fun i hi => (h.rT i hi).lt, hc, hnc, h.cap, ho.vC, ho.vA, ho.vT⟩
    · intro j hj; simp only [Nat.zero_add]; exact h.cC j hj
    · intro i hi; simp only [Nat.zero_add]; exact hcell i 0 (by omega) hi _ rfl
    · intro i hi; simp only [Nat.zero_add]; exact hcell i 1 (by omega) hi _ rfl
    · intro i hi; simp only [Nat.zero_add]; exact hcell i 2 (by omega) hi _ rfl
    · intro i j hi hj; simp only [Nat.zero_add]; exact h.cTT i j hi hj
theorem CopyG.other {w w' : World} {base : Nat} {a : OA} {o : Ord} (h : CopyG w base a o) (hs : w.heap.size ≤ w'.heap.size) (hb : ∀ k, (k = a.cb ∨ (0 < o.n ∧ k = a.rb) ∨ ∃ i, i < o.n ∧ k = a.tb i) → w'.heap[k]? = w.heap[k]?) : CopyG w' base a o := by
  have bC := hb a.cb (.inl rfl)
  have bR : 0 < o.n → w'.heap[a.rb]? = w.heap[a.rb]? := fun h' => hb a.rb (.inr (.inl ⟨h', rfl⟩))
  have bT : ∀ i, i < o.n → w'.heap[a.tb i]? = w.heap[a.tb i]? := fun i hi => hb _ (.inr (.inr ⟨i, hi, rfl⟩))
  have hO := h.ord
  exact { h with
    ord := { hO.more hs with
      hC := fun j hj => (World.cell?_of_block (a := ⟨a.cb, a.co + j, none⟩) bC).trans (hO.hC j hj)
      hI := fun i hi => (World.cell?_of_block (a := ⟨a.rb, a.ro + i * 3, none⟩) (bR (by omega))).trans (hO.hI i hi)
      hA := fun i hi => (World.cell?_of_block (a := ⟨a.rb, a.ro + i * 3 + 1, none⟩) (bR (by omega))).trans (hO.hA i hi)
      hT := fun i hi => (World.cell?_of_block (a := ⟨a.rb, a.ro + i * 3 + 2, none⟩) (bR (by omega))).trans (hO.hT i hi)
      hTT := fun i j hi hj => (World.cell?_of_block (a := ⟨a.tb i, a.to_ i + j, none⟩) (bT i hi)).trans (hO.hTT i j hi hj) }
    rC := h.rC.of_block bC
    rR := fun h' => (h.rR h').of_block (bR h')
    rT := fun i hi => (h.rT i hi).of_block (bT i hi) }
theorem CopyG.ext {w w' : World} {base : Nat} {a : OA} {o : Ord} (h : CopyG w base a o) (hE : Ext w w') : CopyG w' base a o :=
  h.other hE.size fun k hk => by
    rcases hk with rfl | ⟨h', rfl⟩ | ⟨i, hi, rfl⟩
    · exact hE.block _ h.rC.lt
    · exact hE.block _ (h.rR h').lt
    · exact hE.block _ (h.rT i hi).lt
theorem CopyG.less {w : World} {base b2 : Nat} {a : OA} {o : Ord} (h : CopyG w base a o) (hb : b2 ≤ base) : CopyG w b2 a o :=
  { h with gC := Nat.le_trans hb h.gC, gR := fun h' => Nat.le_trans hb (h.gR h'), gT := fun i hi => Nat.le_trans hb (h.gT i hi) }
/-- a cell elsewhere is written -/
theorem CopyG.away {w : World} {base B k : Nat} {a : OA} {o : Ord} {v : Value} (h : CopyG w base a o) (hB : B < base) : CopyG (w.setCell ⟨B, k, none⟩ v) base a o :=
  h.other (by simp) fun k' hk => heap_setCell_other w ⟨B, k, none⟩ k' v (by
    rcases hk with rfl | ⟨h', rfl⟩ | ⟨i, hi, rfl⟩
    · have := h.gC; show a.cb ≠ B; omega
    · have := h.gR h'; show a.rb ≠ B; omega
    · have := h.gT i hi; show a.tb i ≠ B; omega)
theorem own_new {w : World} {B m : Nat} {v : Value} {f : Nat → Int} (h : w.ownsRow B 3 1 v m ((List.range m).map fun j => .int .i64 (f j))) (hm : 0 < m) : ∃ g c, v = .slice (some ⟨g, 0, none⟩) m c ∧ B ≤ g ∧ RowB w g 3 c ∧ m ≤ c ∧ ∀ j, j < m → w.cell? ⟨g, j, none⟩ = some (.int .i64 (f j)) := by
  rcases h.2 with ⟨rfl, hn⟩ | ⟨g, cap, cur, rfl, hb, hg, hnc, hcm, hcs, htake⟩
  · omega
  · refine ⟨g, cap, rfl, hb, ⟨cur, hg, by simpa using hcs⟩, hnc, fun j hj => ?_⟩
    have := World.ownsRow.cells h (g := g) rfl j (.int .i64 (f j)) (intL_get hj)
    rwa [Addr.add_lit, Nat.zero_add] at this
theorem copiedR_c (a : OA) (o : Ord) (w : World) (hO : OrdF w w.heap.size a o) :
    CallsV Tryz.prog 101 #[.agg #[a.cv o, a.rv o]] w fun v w' => ∃ a', v = .agg #[OA.cv a' o, OA.rv a' o] ∧ CopyG w' w.heap.size a' o ∧ Ext w w' := by
  have ho := hO.ok
  have hm := hO.hm2
  have hm1 := hO.hm1
  have hn := hO.hn2
  have hm9 : o.m ≤ 1000000000 := by omega
  have hn9 : o.n ≤ 1000000000 := by omega
  simp only [OA.cv, OA.rv]
  refine Wp.fn Tryz.func101 rfl Tryz.ntmps101 (by simp) ?_
  refine Wp.keep [0] fun r1 hkeep => ?_
  obtain ⟨e0_1, -⟩ := hkeep
  simp [go_sem] at e0_1
  have x0 := cell_al (.cells #[.slice none 0 0, .slice none 0 0] 25) (cell_nn w #[.slice (some ⟨a.cb, a.co, none⟩) o.m a.cc, .slice a.rA o.n a.rc] 25 0 rfl (v := .slice (some ⟨a.cb, a.co, none⟩) o.m a.cc) rfl)
  have x1 := cell_al (.cells #[.slice none 0 0, .slice none 0 0] 25) (cell_nn w #[.slice (some ⟨a.cb, a.co, none⟩) o.m a.cc, .slice a.rA o.n a.rc] 25 1 rfl (v := .slice a.rA o.n a.rc) rfl)
  have y0 := cell_nn (w.alloc (.cells #[.slice (some ⟨a.cb, a.co, none⟩) o.m a.cc, .slice a.rA o.n a.rc] 25)) #[.slice none 0 0, .slice none 0 0] 25 0 (n := w.heap.size + 1) (by simp) (v := .slice none 0 0) rfl
  have y1 := cell_nn (w.alloc (.cells #[.slice (some ⟨a.cb, a.co, none⟩) o.m a.cc, .slice a.rA o.n a.rc] 25)) #[.slice none 0 0, .slice none 0 0] 25 1 (n := w.heap.size + 1) (by simp) (v := .slice none 0 0) rfl
  have fz := frz_nw (w.alloc (.cells #[.slice (some ⟨a.cb, a.co, none⟩) o.m a.cc, .slice a.rA o.n a.rc] 25)) #[.slice none 0 0, .slice none 0 0] 25 (n := w.heap.size + 1) (by simp)
  have hEV : Ext w ((w.alloc (.cells #[.slice (some ⟨a.cb, a.co, none⟩) o.m a.cc, .slice a.rA o.n a.rc] 25)).alloc (.cells #[.slice none 0 0, .slice none 0 0] 25)) := (by repeat (first | assumption | exact Ext.refl _ | refine Ext.drew ?_ | refine Ext.alloc ?_ _ | refine Ext.trans ?_ (by assumption)))
  have hVs : ((w.alloc (.cells #[.slice (some ⟨a.cb, a.co, none⟩) o.m a.cc, .slice a.rA o.n a.rc] 25)).alloc (.cells #[.slice none 0 0, .slice none 0 0] 25)).heap.size = w.heap.size + 1 + 1 := by simp
  refine Wp.seqRegion (.inl rfl) (by kernel_rfl) fun K' gd hK hg => ?_
  clear hg
  go_simp
  refine hK _ _ ?_
  clear hK K' gd
  refine Wp.keep [1, 2] fun r2 hkeep => ?_
  obtain ⟨e1_2, e2_2, -⟩ := hkeep
  simp [go_sem, e0_1] at e1_2 e2_2
  clear e0_1
  generalize ((w.alloc (.cells #[.slice (some ⟨a.cb, a.co, none⟩) o.m a.cc, .slice a.rA o.n a.rc] 25)).alloc (.cells #[.slice none 0 0, .slice none 0 0] 25)) = V at *
  have hOV := hO.ext hEV
  have hO0 := hOV.ext ((Ext.refl V).alloc (.cells #[] 3))
  refine Wp.seqRegion (.inl rfl) (by kernel_rfl) fun K' gd hK hg => ?_
  clear hg
  refine Wops.cut 3 fun K1 hK1 => ?_
  simp only [List.take_succ_cons, List.take_zero]
  go_simp
  refine hK1 _ _ ?_
  clear hK1 K1
  simp only [List.drop_succ_cons, List.drop_zero]
  obtain ⟨v', w1, hrun, hown, hgr⟩ := app_new (w := V.alloc (.cells #[] 3)) ints_T ⟨V.heap.size, 0, none⟩ ⟨a.cb, a.co, none⟩ o.m a.cc (copL o) 22 (by simp [copL]) (intL_src (fun j hj => hO0.hC j hj)) hm1 (by omega)
  obtain ⟨g, cc, rfl, hgV, hgr1, hcc, hgc⟩ := own_new hown hm1
  have hE1 : Ext V w1 := Ext.trans ((Ext.refl V).alloc _) (grown_ext hgr)
  refine Wops.law rfl (exec_append2 rfl hrun (by go_simp) (by go_simp)) ?_
  go_simp
  refine hK _ _ ?_
  clear hK K' gd
  refine Wp.keep [1, 2, 3] fun r3 hkeep => ?_
  obtain ⟨e1_3, e2_3, e3_3, -⟩ := hkeep
  simp [go_sem, e1_2, e2_2] at e1_3 e2_3 e3_3
  clear e1_2 e2_2
  refine Wp.seq ?_
  have hgV : w.heap.size + 1 + 1 < g := (by have : (V.alloc (.cells #[] 3)).heap.size = V.heap.size + 1 := (by simp); omega)
  have hgl := hgr1.lt
  have hEz : Ext w1 (w1.alloc (.cells #[.slice (some ⟨g, 0, none⟩) o.m cc, .slice none 0 0] 25)) := (by repeat (first | assumption | exact Ext.refl _ | refine Ext.drew ?_ | refine Ext.alloc ?_ _ | refine Ext.trans ?_ (by assumption)))
  have hEVZ : Ext V (w1.alloc (.cells #[.slice (some ⟨g, 0, none⟩) o.m cc, .slice none 0 0] 25)) := Ext.trans hE1 hEz
  have hs1 := hE1.size
  have hZs : (w1.alloc (.cells #[.slice (some ⟨g, 0, none⟩) o.m cc, .slice none 0 0] 25)).heap.size = w1.heap.size + 1 := by simp
  have hI0 : CopJ w (w1.alloc (.cells #[.slice (some ⟨g, 0, none⟩) o.m cc, .slice none 0 0] 25)) (w1.heap.size + 1) o w1.heap.size g cc (fun _ => 0) (fun _ => 0) (.slice none 0 0) 0 := ⟨Ext.trans hEV hEVZ, by omega, ⟨hEVZ.cell y0, hEVZ.cell y1, fz_ext hEVZ (by omega) fz⟩, cell_nn w1 _ _ 0 rfl rfl, cell_nn w1 _ _ 1 rfl rfl, frz_nw w1 _ _ rfl, hgr1.ext hEz, fun j hj => hEz.cell (hgc j hj), World.ownsRow_nil _ _ _ _, fun i hi => absurd hi (Nat.not_lt_zero _), fun i j hi => absurd hi (Nat.not_lt_zero _), fun i hi => absurd hi (Nat.not_lt_zero _), fun i hi => absurd hi (Nat.not_lt_zero _), fun i j _ hj => absurd hj (Nat.not_lt_zero _)⟩
  obtain ⟨b3, hb3⟩ : ∃ b, w1.heap.size = b := ⟨_, rfl⟩
  rw [hb3] at hI0 hgl hs1 hZs e3_3
  generalize (w1.alloc (.cells #[.slice (some ⟨g, 0, none⟩) o.m cc, .slice none 0 0] 25)) = W at *
  clear hEz hE1 hgr hown hrun hgc hgr1 hb3
  refine Wp.seqRegion (.inl rfl) (by kernel_rfl) fun K' gd hK hg => ?_
  clear hg
  go_simp
  refine hK _ _ ?_
  clear hK K' gd
  refine Wp.keep [1, 2, 3, 4] fun r4 hkeep => ?_
  obtain ⟨e1_4, e2_4, e3_4, e4_4, -⟩ := hkeep
  simp [go_sem, e1_3, e2_3, e3_3] at e1_4 e2_4 e3_4 e4_4
  clear e1_3 e2_3 e3_3
  refine Wp.block ?_
  refine Wp.loop (fun k ρ ds wk => AllEq [1, 2, 3] ρ r4 ∧ ds = [] ∧ (∃ tb tc v, ρ 4 = .int .i64 (k : Int) ∧ CopJ w wk (b3 + 1) o b3 g cc tb tc v k ∧ Ext V wk)) (o.n) ?_ ?_
  · refine ⟨AllEq.refl _ _, rfl, ?_⟩
    exact ⟨_, _, _, by rw [e4_4]; rfl, hI0, hEVZ⟩
  · rintro k r5 _ wk hk ⟨hA, rfl, ⟨tb, tc, v, e4, hI, hEk⟩⟩
    obtain ⟨e1_5, e2_5, e3_5, -⟩ := hA
    rw [e1_4] at e1_5
    rw [e2_4] at e2_5
    rw [e3_4] at e3_5
    have z0 := hEk.cell x0
    have z1 := hEk.cell x1
    refine Wp.seq ?_
    refine Wp.seqRegion (.inl rfl) (by kernel_rfl) fun K' gd hK hg => ?_
    clear hg
    go_simp
    refine hK _ _ ?_
    clear hK K' gd
    refine Wp.keep [1, 2, 3, 4, 15] fun r6 hkeep => ?_
    obtain ⟨e1_6, e2_6, e3_6, e4_6, e15_6, -⟩ := hkeep
    simp [go_sem, e1_5, e2_5, e3_5, e4] at e1_6 e2_6 e3_6 e4_6 e15_6
    clear e1_5 e2_5 e3_5 e4
    by_cases h : k < o.n
    · refine Wp.condT (by go_simp) ?_
      have hOk := hOV.ext hEk
      have hrA := hOk.hr (by omega)
      have cI := hOk.hI k h
      have cA := hOk.hA k h
      have cT := hOk.hT k h
      have b1 : (k : Int) < (o.n : Int) := by omega
      have hOk2 := hOk.ext (show Ext wk ((wk.alloc (.cells #[.int .i64 (o.ID k), .int .i64 (o.A k), .slice (some ⟨a.tb k, a.to_ k, none⟩) o.m (a.tc k)] 103)).alloc (.cells #[] 3)) from (by repeat (first | assumption | exact Ext.refl _ | refine Ext.drew ?_ | refine Ext.alloc ?_ _ | refine Ext.trans ?_ (by assumption))))
      have t0 := cell_al (.cells #[] 3) (cell_nn wk #[.int .i64 (o.ID k), .int .i64 (o.A k), .slice (some ⟨a.tb k, a.to_ k, none⟩) o.m (a.tc k)] 103 0 rfl (v := .int .i64 (o.ID k)) rfl)
      have t1 := cell_al (.cells #[] 3) (cell_nn wk #[.int .i64 (o.ID k), .int .i64 (o.A k), .slice (some ⟨a.tb k, a.to_ k, none⟩) o.m (a.tc k)] 103 1 rfl (v := .int .i64 (o.A k)) rfl)
      have t2 := cell_al (.cells #[] 3) (cell_nn wk #[.int .i64 (o.ID k), .int .i64 (o.A k), .slice (some ⟨a.tb k, a.to_ k, none⟩) o.m (a.tc k)] 103 2 rfl (v := .slice (some ⟨a.tb k, a.to_ k, none⟩) o.m (a.tc k)) rfl)
      have tf := frz_al (.cells #[] 3) (by simp) (frz_nw wk #[.int .i64 (o.ID k), .int .i64 (o.A k), .slice (some ⟨a.tb k, a.to_ k, none⟩) o.m (a.tc k)] 103 rfl)
      refine Wp.skip ?_
      refine thenK_normal ?_
      refine Wp.seq ?_
      refine Wp.block ?_
      refine Wp.seqRegion (.inl rfl) (by kernel_rfl) fun K' gd hK hg => ?_
      clear hg
      go_simp
      refine hK _ _ ?_
      clear hK K' gd
      refine Wp.keep [1, 2, 3, 4, 5] fun r7 hkeep => ?_
      obtain ⟨e1_7, e2_7, e3_7, e4_7, e5_7, -⟩ := hkeep
      simp [go_sem, e1_6, e2_6, e3_6, e4_6, e15_6] at e1_7 e2_7 e3_7 e4_7 e5_7
      clear e1_6 e2_6 e3_6 e4_6 e15_6
      refine Wp.seqRegion (.inl rfl) (by kernel_rfl) fun K' gd hK hg => ?_
      clear hg
      refine Wops.cut 3 fun K1 hK1 => ?_
      simp only [List.take_succ_cons, List.take_zero]
      go_simp
      refine hK1 _ _ ?_
      clear hK1 K1
      simp only [List.drop_succ_cons, List.drop_zero]
      obtain ⟨v', w2, hrun, hown, hgr⟩ := app_new (w := (wk.alloc (.cells #[.int .i64 (o.ID k), .int .i64 (o.A k), .slice (some ⟨a.tb k, a.to_ k, none⟩) o.m (a.tc k)] 103)).alloc (.cells #[] 3)) ints_T ⟨wk.heap.size + 1, 0, none⟩ ⟨a.tb k, a.to_ k, none⟩ o.m (a.tc k) (takL o k) 22 (by simp [takL]) (intL_src (fun j hj => hOk2.hTT k j h hj)) hm1 (by omega)
      obtain ⟨g2, c2, rfl, hg2, hgr2, hc2, hgc2⟩ := own_new hown hm1
      have hE2 := grown_ext hgr
      have t0 := hE2.cell t0
      have t1 := hE2.cell t1
      have t2 := hE2.cell t2
      have tf := fz_ext hE2 (by simp; omega) tf
      have tf2 := tf 2
      refine Wops.law rfl (exec_append2 rfl hrun (by go_simp) (by go_simp)) ?_
      go_simp
      refine hK _ _ ?_
      clear hK K' gd
      refine Wp.keep [1, 2, 3, 4, 5] fun r8 hkeep => ?_
      obtain ⟨e1_8, e2_8, e3_8, e4_8, e5_8, -⟩ := hkeep
      simp [go_sem, e1_7, e2_7, e3_7, e4_7, e5_7] at e1_8 e2_8 e3_8 e4_8 e5_8
      clear e1_7 e2_7 e3_7 e4_7 e5_7
      have hg2 : wk.heap.size + 1 < g2 := (by have e : ((wk.alloc (.cells #[.int .i64 (o.ID k), .int .i64 (o.A k), .slice (some ⟨a.tb k, a.to_ k, none⟩) o.m (a.tc k)] 103)).alloc (.cells #[] 3)).heap.size = wk.heap.size + 1 + 1 := (by simp); omega)
      have hE3 : Ext wk (w2.setCell ⟨wk.heap.size, 2, none⟩ (.slice (some ⟨g2, 0, none⟩) o.m c2)) := Ext.setC (Ext.trans (show Ext wk ((wk.alloc (.cells #[.int .i64 (o.ID k), .int .i64 (o.A k), .slice (some ⟨a.tb k, a.to_ k, none⟩) o.m (a.tc k)] 103)).alloc (.cells #[] 3)) from (by repeat (first | assumption | exact Ext.refl _ | refine Ext.drew ?_ | refine Ext.alloc ?_ _ | refine Ext.trans ?_ (by assumption)))) hE2) (Nat.le_refl _) _
      have r0 : (w2.setCell ⟨wk.heap.size, 2, none⟩ (.slice (some ⟨g2, 0, none⟩) o.m c2)).cell? ⟨wk.heap.size, 0, none⟩ = some (.int .i64 (o.ID k)) := (setCell_off (by decide)).trans t0
      have r1 : (w2.setCell ⟨wk.heap.size, 2, none⟩ (.slice (some ⟨g2, 0, none⟩) o.m c2)).cell? ⟨wk.heap.size, 1, none⟩ = some (.int .i64 (o.A k)) := (setCell_off (by decide)).trans t1
      have r2 : (w2.setCell ⟨wk.heap.size, 2, none⟩ (.slice (some ⟨g2, 0, none⟩) o.m c2)).cell? ⟨wk.heap.size, 2, none⟩ = some (.slice (some ⟨g2, 0, none⟩) o.m c2) := World.cell?_setCell_same' _ _ _ (by rw [t2]; rfl)
      have hgr3 : RowB (w2.setCell ⟨wk.heap.size, 2, none⟩ (.slice (some ⟨g2, 0, none⟩) o.m c2)) g2 3 c2 := hgr2.set _ rfl _
      have hgc3 : ∀ j, j < o.m → (w2.setCell ⟨wk.heap.size, 2, none⟩ (.slice (some ⟨g2, 0, none⟩) o.m c2)).cell? ⟨g2, j, none⟩ = some (.int .i64 (o.T k j)) := fun j hj => (setCell_blk (by omega)).trans (hgc2 j hj)
      generalize (w2.setCell ⟨wk.heap.size, 2, none⟩ (.slice (some ⟨g2, 0, none⟩) o.m c2)) = w3 at *
      have hI3 := hI.more hE3
      have c0 := hI3.c0
      have c1 := hI3.c1
      have hS3 := hI3.size
      have hEw3 : Ext w3 (w3.alloc (.cells #[.int .i64 (o.ID k), .int .i64 (o.A k), .slice (some ⟨g2, 0, none⟩) o.m c2] 103)) := (by repeat (first | assumption | exact Ext.refl _ | refine Ext.drew ?_ | refine Ext.alloc ?_ _ | refine Ext.trans ?_ (by assumption)))
      have hI4 := hI3.more hEw3
      have hupg : ∀ i, i < k → tb i < g2 := fun i hi => (by have := (hI.rT i hi).lt; omega)
      have hgS : b3 + 1 ≤ g2 := (by have := hI.size; omega)
      have hnv : v.ownBlock ≠ some b3 := fun e => (by have := (World.ownsRow.lt hI4.own b3 e).1; omega)
      clear t0 t1 t2 tf tf2 hgr2 hgc2 hE2
      refine Wp.loneRegion (.inl rfl) (by kernel_rfl) fun K' gd hK hg => ?_
      clear hg
      refine Wops.cut 4 fun K1 hK1 => ?_
      simp only [List.take_succ_cons, List.take_zero]
      go_simp
      refine hK1 _ _ ?_
      clear hK1 K1
      simp only [List.drop_succ_cons, List.drop_zero]
      obtain ⟨v'', w4, hrun, hown4, hgr4, -⟩ := app_run runs_T hI4.own ⟨w3.heap.size, 0, none⟩ 1 1 [.int .i64 (o.ID k), .int .i64 (o.A k), .slice (some ⟨g2, 0, none⟩) o.m c2] 23 rfl (news_three (cell_nn _ _ _ 0 rfl rfl) (cell_nn _ _ _ 1 rfl rfl) (cell_nn _ _ _ 2 rfl rfl)) (by intro u hu; simp only [List.mem_cons, List.not_mem_nil, or_false] at hu; rcases hu with rfl | rfl | rfl <;> rfl) (by omega) (by simp; omega) (w := w3.alloc (.cells #[.int .i64 (o.ID k), .int .i64 (o.A k), .slice (some ⟨g2, 0, none⟩) o.m c2] 103))
      obtain ⟨g4, cap4, rfl⟩ := ownsRow_succ hown4
      have c1' := hgr4.cell hI4.c1 (fun e => hnv e.symm)
      have f1' := fz_same (hgr4.block b3 (cell_lt hI4.c0) (fun e => hnv e.symm)) (hI4.fz 1)
      refine Wops.law rfl (exec_append2 rfl hrun (by go_simp) (by go_simp)) ?_
      go_simp
      refine hK _ _ ?_
      clear hK K' gd
      refine Ends.keep [1, 2, 3, 4] fun r9 hkeep => ?_
      obtain ⟨e1_9, e2_9, e3_9, e4_9, -⟩ := hkeep
      simp [go_sem, e1_8, e2_8, e3_8, e4_8, e5_8] at e1_9 e2_9 e3_9 e4_9
      clear e1_8 e2_8 e3_8 e4_8 e5_8
      refine Ends.mk ?_
      refine blockK_normal ?_
      refine thenK_normal ?_
      refine Wp.loneRegion (.inl rfl) (by kernel_rfl) fun K' gd hK hg => ?_
      clear hg
      go_simp
      refine hK _ _ ?_
      clear hK K' gd
      refine Ends.keep [1, 2, 3, 4] fun r10 hkeep => ?_
      obtain ⟨e1_10, e2_10, e3_10, e4_10, -⟩ := hkeep
      simp [go_sem, e1_9, e2_9, e3_9, e4_9] at e1_10 e2_10 e3_10 e4_10
      clear e1_9 e2_9 e3_9 e4_9
      refine Ends.mk ?_
      refine thenK_normal ⟨by omega, ⟨by rw [e1_10, e1_4], by rw [e2_10, e2_4], by rw [e3_10, e3_4], trivial⟩, rfl, ?_⟩
      refine ⟨_, _, _, by rw [e4_10, IntWalk.i64_in _ (by omega)]; rfl, CopJ.step hI4 (by omega) (by omega) (by omega) (hgr3.ext hEw3) (fun j hj => hEw3.cell (hgc3 j hj)) hc2 hgS hupg hown4 hgr4 (by omega) (by omega), ?_⟩
      exact Below.setCell (Below.grown (Ext.trans hEk (Ext.trans hE3 hEw3)) hI4.own hgr4 (by omega) (Nat.le_refl _)) (by show V.heap.size ≤ b3; omega) _
    · refine Wp.condF (by go_simp) ?_
      obtain rfl : k = o.n := by omega
      obtain ⟨q0, q1, qf⟩ := hI.q2
      have f0 := qf 0
      have f1 := qf 1
      have c0 := hI.c0
      have c1 := hI.c1
      obtain ⟨a', ha1, rfl, hG⟩ := hI.copy (B := w.heap.size + 1 + 1) ho (by omega) hcc (by omega) (by omega)
      simp only [OA.rv] at c1
      have hEI := hI.ext
      have ha2 : ∃ _u : Unit, Value.slice (some ⟨g, 0, none⟩) o.m cc = OA.cv a' o := ⟨(), ha1⟩
      clear ha1
      refine Wp.exit ?_
      refine thenK_exit ?_
      refine thenK_exit ?_
      refine blockK_here ?_
      refine thenK_normal ?_
      refine Wp.seqRegion (.inl rfl) (by kernel_rfl) fun K' gd hK hg => ?_
      clear hg
      go_simp
      refine hK _ _ ?_
      clear hK K' gd
      refine Wp.keep [2] fun r11 hkeep => ?_
      obtain ⟨e2_11, -⟩ := hkeep
      simp [go_sem, e1_6, e2_6, e3_6, e4_6, e15_6] at e2_11
      clear e1_6 e2_6 e3_6 e4_6 e15_6
      refine Wp.ret ?_
      refine endK_cell (v := .agg #[.slice (some ⟨g, 0, none⟩) o.m cc, .slice a'.rA o.n a'.rc]) Tryz.results101 (by decide) e2_11 (by go_simp) ?_
      obtain ⟨-, ha1⟩ := ha2
      exact ⟨a', by rw [ha1]; rfl, ((hG.away (Nat.lt_succ_self _)).away (Nat.lt_succ_self _)).less (by omega), Below.setCell (Below.setCell hEI (Nat.le_succ _) _) (Nat.le_succ _) _⟩
end Go.Proofs.YtnfagcccgmakdaaGreat
namespace Go.Proofs.YtnfagcccgmakdaaGreat
open Go.RowKit Go.Wk Go.Proofs
attribute [local irreducible] Go.Wk.Wops Go.Wk.Wp Go.Wk.Mtree Go.Wk.Mops
set_option maxHeartbeats 4000000

theorem CopyG.setC {w : World} {base : Nat} {a : OA} {o : Ord} (h : CopyG w base a o) {j : Nat} (hj : j < o.m) {c : Int} (hc : 1 ≤ c ∧ c ≤ 20) : CopyG (w.setCell ⟨a.cb, j, none⟩ (.int .i64 c)) base a (o.setC j c) := by
  have hO := h.ord
  have z1 := h.zC
  have ncr : 0 < o.n → a.cb ≠ a.rb := fun h' => h.rC.ne (h.rR h') (by decide)
  have row : ∀ {b n : Nat} {e : TypeId}, RowB w b e n → RowB (w.setCell ⟨a.cb, j, none⟩ (.int .i64 c)) b e n := fun hr => hr.set _ rfl _
  have e1 : (o.setC j c).m = o.m := setC_m j c
  have e2 : (o.setC j c).n = o.n := rfl
  refine ⟨⟨by rw [e1]; exact hO.hm1, by rw [e1]; exact hO.hm2, hO.hn2, fun j' hj' => ?_, hO.hr, fun i hi => (setCell_blk (ncr (by omega))).trans (hO.hI i hi), fun i hi => (setCell_blk (ncr (by omega))).trans (hO.hA i hi), fun i hi => by rw [e1]; exact (setCell_blk (ncr (by omega))).trans (hO.hT i hi), fun i j' hi hj' => (setCell_blk (Ne.symm (h.ne i hi))).trans (hO.hTT i j' hi (by rw [e1] at hj'; exact hj')), by simpa using hO.bC, fun hn => by simpa using hO.bR hn, fun i hi => by simpa using hO.bT i hi, by rw [e1]; exact hO.hcc, hO.hrc, fun i hi => by rw [e1]; exact hO.htc i hi, fun j' hj' => ?_, hO.vA, fun i j' hi hj' => hO.vT i j' hi (by rw [e1] at hj'; exact hj')⟩, row h.rC, fun h' => row (h.rR h'), fun i hi => row (h.rT i hi), h.zC, h.zR, h.zT, h.gC, h.gR, h.gT, h.ne, h.inj⟩
  · rw [e1] at hj'
    rw [z1, Nat.zero_add, setC_C c hj]
    by_cases e : j' = j
    · subst e; rw [if_pos rfl]
      exact World.cell?_setCell_same' _ _ _ (by have := hO.hC j' hj'; rw [z1, Nat.zero_add] at this; rw [this]; rfl)
    · rw [if_neg e, setCell_off (Ne.symm e)]
      have := hO.hC j' hj'; rwa [z1, Nat.zero_add] at this
  · rw [e1] at hj'; rw [setC_C c hj]; split
    · exact hc
    · exact hO.vC j' hj'
theorem CopyG.setT {w : World} {base : Nat} {a : OA} {o : Ord} (hg : OrdGood o) (h : CopyG w base a o) {i j : Nat} (hi : i < o.n) (hj : j < o.m) {t : Int} (ht : 1 ≤ t ∧ t ≤ 60) : CopyG (w.setCell ⟨a.tb i, j, none⟩ (.int .i64 t)) base a (o.setT i j t) := by
  have hO := h.ord
  have z1 := h.zT
  have ntr : a.tb i ≠ a.rb := (h.rT i hi).ne (h.rR (by omega)) (by decide)
  have row : ∀ {b n : Nat} {e : TypeId}, RowB w b e n → RowB (w.setCell ⟨a.tb i, j, none⟩ (.int .i64 t)) b e n := fun hr => hr.set _ rfl _
  have e2 : (o.setT i j t).n = o.n := setT_n i j t
  have hl : j < (o.runs[i]?.getD default).takes.length := by rw [hg.takes_len hi]; exact hj
  have hrv : ∀ i', i' < (o.setT i j t).n → i' < o.n := fun i' h' => by rw [e2] at h'; exact h'
  refine ⟨⟨hO.hm1, hO.hm2, by rw [e2]; exact hO.hn2, fun j' hj' => (setCell_blk (h.ne i hi)).trans (hO.hC j' hj'), fun hn => hO.hr (by rw [e2] at hn; exact hn), fun i' hi' => by rw [setT_ID]; exact (setCell_blk ntr).trans (hO.hI i' (hrv i' hi')), fun i' hi' => by rw [setT_A]; exact (setCell_blk ntr).trans (hO.hA i' (hrv i' hi')), fun i' hi' => (setCell_blk ntr).trans (hO.hT i' (hrv i' hi')), fun i' j' hi' hj' => ?_, by simpa using hO.bC, fun hn => by simpa using hO.bR (by rw [e2] at hn; exact hn), fun i' hi' => by simpa using hO.bT i' (hrv i' hi'), hO.hcc, by rw [e2]; exact hO.hrc, fun i' hi' => hO.htc i' (hrv i' hi'), hO.vC, fun i' hi' => by rw [setT_A]; exact hO.vA i' (hrv i' hi'), fun i' j' hi' hj' => ?_⟩, row h.rC, fun h' => row (h.rR (by rw [e2] at h'; exact h')), fun i' hi' => row (h.rT i' (hrv i' hi')), h.zC, h.zR, fun i' hi' => h.zT i' (hrv i' hi'), h.gC, fun h' => h.gR (by rw [e2] at h'; exact h'), fun i' hi' => h.gT i' (hrv i' hi'), fun i' hi' => h.ne i' (hrv i' hi'), fun i' j' hi' hj' => h.inj i' j' (hrv i' hi') (hrv j' hj')⟩
  · have hi2 := hrv i' hi'
    have hj2 : j' < o.m := hj'
    have c0 := hO.hTT i' j' hi2 hj2
    rw [setT_T t hi hl]
    rw [z1 i' hi2, Nat.zero_add] at c0 ⊢
    by_cases e : i' = i ∧ j' = j
    · obtain ⟨rfl, rfl⟩ := e
      rw [if_pos ⟨rfl, rfl⟩]
      exact World.cell?_setCell_same' _ _ _ (by rw [c0]; rfl)
    · rw [if_neg e]
      by_cases e2 : i' = i
      · subst e2
        rw [setCell_off (fun e3 => e ⟨rfl, e3.symm⟩)]; exact c0
      · rw [setCell_blk (fun e3 => e2 (h.inj i' i hi2 hi e3.symm))]; exact c0
  · rw [setT_T t hi hl]; split
    · exact ht
    · exact hO.vT i' j' (hrv i' hi') hj'
theorem moreR_c (a : OA) (o : Ord) (j : Nat) (c : Int) (w : World) (hO : OrdF w w.heap.size a o) (hj : j < o.m) (hc : 1 ≤ c ∧ c ≤ 20) :
    CallsV Tryz.prog 106 #[.agg #[a.cv o, a.rv o], .int .i64 (j : Int), .int .i64 c] w fun v w' => ∃ a', v = .agg #[OA.cv a' (o.setC j c), OA.rv a' (o.setC j c)] ∧ CopyG w' w.heap.size a' (o.setC j c) ∧ Ext w w' := by
  have b1 : (j : Int) < (o.m : Int) := by omega
  simp only [OA.cv, OA.rv]
  refine Wp.fn Tryz.func106 rfl Tryz.ntmps106 (by simp) ?_
  refine Wp.keep [0, 1, 2] fun r1 hkeep => ?_
  obtain ⟨e0_1, e1_1, e2_1, -⟩ := hkeep
  simp [go_sem] at e0_1 e1_1 e2_1
  have y0 := cell_nn (w.alloc (.cells #[.slice (some ⟨a.cb, a.co, none⟩) o.m a.cc, .slice a.rA o.n a.rc] 25)) #[.slice none 0 0, .slice none 0 0] 25 0 (n := w.heap.size + 1) (by simp) (v := .slice none 0 0) rfl
  have y1 := cell_nn (w.alloc (.cells #[.slice (some ⟨a.cb, a.co, none⟩) o.m a.cc, .slice a.rA o.n a.rc] 25)) #[.slice none 0 0, .slice none 0 0] 25 1 (n := w.heap.size + 1) (by simp) (v := .slice none 0 0) rfl
  have fz := frz_nw (w.alloc (.cells #[.slice (some ⟨a.cb, a.co, none⟩) o.m a.cc, .slice a.rA o.n a.rc] 25)) #[.slice none 0 0, .slice none 0 0] 25 (n := w.heap.size + 1) (by simp)
  have hEV : Ext w ((w.alloc (.cells #[.slice (some ⟨a.cb, a.co, none⟩) o.m a.cc, .slice a.rA o.n a.rc] 25)).alloc (.cells #[.slice none 0 0, .slice none 0 0] 25)) := (by repeat (first | assumption | exact Ext.refl _ | refine Ext.drew ?_ | refine Ext.alloc ?_ _ | refine Ext.trans ?_ (by assumption)))
  have hVs : ((w.alloc (.cells #[.slice (some ⟨a.cb, a.co, none⟩) o.m a.cc, .slice a.rA o.n a.rc] 25)).alloc (.cells #[.slice none 0 0, .slice none 0 0] 25)).heap.size = w.heap.size + 1 + 1 := by simp
  have x0 := cell_al (.cells #[.slice none 0 0, .slice none 0 0] 25) (cell_nn w #[.slice (some ⟨a.cb, a.co, none⟩) o.m a.cc, .slice a.rA o.n a.rc] 25 0 rfl (v := .slice (some ⟨a.cb, a.co, none⟩) o.m a.cc) rfl)
  have x1 := cell_al (.cells #[.slice none 0 0, .slice none 0 0] 25) (cell_nn w #[.slice (some ⟨a.cb, a.co, none⟩) o.m a.cc, .slice a.rA o.n a.rc] 25 1 rfl (v := .slice a.rA o.n a.rc) rfl)
  refine Wp.seqRegion (.inl rfl) (by kernel_rfl) fun K' gd hK hg => ?_
  clear hg
  go_simp
  refine hK _ _ ?_
  clear hK K' gd
  refine Wp.keep [1, 2, 3, 6] fun r2 hkeep => ?_
  obtain ⟨e1_2, e2_2, e3_2, e6_2, -⟩ := hkeep
  simp [go_sem, e0_1, e1_1, e2_1] at e1_2 e2_2 e3_2 e6_2
  clear e0_1 e1_1 e2_1
  generalize ((w.alloc (.cells #[.slice (some ⟨a.cb, a.co, none⟩) o.m a.cc, .slice a.rA o.n a.rc] 25)).alloc (.cells #[.slice none 0 0, .slice none 0 0] 25)) = V at *
  have hOV := hO.ext hEV
  refine Wp.seqRegion (.inl rfl) (by kernel_rfl) fun K' gd hK hg => ?_
  clear hg
  go_simp
  refine Wcall (.inl rfl) (copiedR_c a o _ hOV) ?_
  rintro v w2 ⟨a', rfl, hF, hE2⟩
  simp only [OA.cv, OA.rv]
  have fz := fz_ext hE2 (b := w.heap.size + 1) (cell_lt y0) fz
  have y0 := hE2.cell y0
  have y1 := hE2.cell y1
  go_simp
  refine hK _ _ ?_
  clear hK K' gd
  refine Wp.keep [1, 2, 6, 7] fun r3 hkeep => ?_
  obtain ⟨e1_3, e2_3, e6_3, e7_3, -⟩ := hkeep
  simp [go_sem, e1_2, e2_2, e3_2, e6_2] at e1_3 e2_3 e6_3 e7_3
  clear e1_2 e2_2 e3_2 e6_2
  have u0 := cell_nn w2 #[.slice (some ⟨a'.cb, a'.co, none⟩) o.m a'.cc, .slice a'.rA o.n a'.rc] 25 0 rfl (v := .slice (some ⟨a'.cb, a'.co, none⟩) o.m a'.cc) rfl
  have u1 := cell_nn w2 #[.slice (some ⟨a'.cb, a'.co, none⟩) o.m a'.cc, .slice a'.rA o.n a'.rc] 25 1 rfl (v := .slice a'.rA o.n a'.rc) rfl
  have hE3 : Ext w2 (w2.alloc (.cells #[.slice (some ⟨a'.cb, a'.co, none⟩) o.m a'.cc, .slice a'.rA o.n a'.rc] 25)) := (by repeat (first | assumption | exact Ext.refl _ | refine Ext.drew ?_ | refine Ext.alloc ?_ _ | refine Ext.trans ?_ (by assumption)))
  have hF3 := hF.ext hE3
  have hlt := cell_lt y0
  have fz := fz_ext hE3 hlt fz
  have y0 := hE3.cell y0
  have y1 := hE3.cell y1
  have hEW := Ext.trans hEV (Ext.trans hE2 hE3)
  have hnb : w2.heap.size ≠ a'.cb := by have := hF.rC.lt; omega
  obtain ⟨b3, hb3⟩ : ∃ b, w2.heap.size = b := ⟨_, rfl⟩
  rw [hb3] at u0 u1 hnb e7_3
  generalize w2.alloc (.cells #[.slice (some ⟨a'.cb, a'.co, none⟩) o.m a'.cc, .slice a'.rA o.n a'.rc] 25) = W3 at *
  clear hb3 hE3 hF hE2 hlt
  have zc := hF3.zC
  have fc := hF3.rC.frozen j
  have c1 := hF3.ord.hC j hj
  rw [zc, Nat.zero_add] at c1
  have hgc := hF3.gC
  refine Wp.seqRegion (.inl rfl) (by kernel_rfl) fun K' gd hK hg => ?_
  clear hg
  go_simp
  refine hK _ _ ?_
  clear hK K' gd
  refine Wp.keep [6, 7] fun r4 hkeep => ?_
  obtain ⟨e6_4, e7_4, -⟩ := hkeep
  simp [go_sem, e1_3, e2_3, e6_3, e7_3] at e6_4 e7_4
  clear e1_3 e2_3 e6_3 e7_3
  have hF4 := hF3.setC hj hc
  have v0 := (setCell_blk (k := j) (v := .int .i64 c) (Ne.symm hnb)).trans u0
  have v1 := (setCell_blk (k := j) (v := .int .i64 c) (Ne.symm hnb)).trans u1
  have ncb1 : a'.cb ≠ w.heap.size + 1 := by omega
  have v2 := (setCell_blk (k := j) (v := .int .i64 c) ncb1).trans y0
  have v3 := (setCell_blk (k := j) (v := .int .i64 c) ncb1).trans y1
  have fz2 : ∀ k, (W3.setCell ⟨a'.cb, j, none⟩ (.int .i64 c)).frozen? ⟨w.heap.size + 1, k, none⟩ = false := fun k => by rw [World.frozen?_setCell]; exact fz k
  have hE4 : Ext w (W3.setCell ⟨a'.cb, j, none⟩ (.int .i64 c)) := Below.setCell hEW (by show w.heap.size ≤ a'.cb; omega) _
  clear u0 u1 y0 y1 fz hEW hF3 fc c1
  generalize (W3.setCell ⟨a'.cb, j, none⟩ (.int .i64 c)) = W4 at *
  have f0 := fz2 0
  have f1 := fz2 1
  refine Wp.seqRegion (.inl rfl) (by kernel_rfl) fun K' gd hK hg => ?_
  clear hg
  go_simp
  refine hK _ _ ?_
  clear hK K' gd
  refine Wp.keep [6] fun r5 hkeep => ?_
  obtain ⟨e6_5, -⟩ := hkeep
  simp [go_sem, e6_4, e7_4] at e6_5
  clear e6_4 e7_4
  refine Wp.ret ?_
  refine endK_cell (v := .agg #[.slice (some ⟨a'.cb, 0, none⟩) o.m a'.cc, .slice a'.rA o.n a'.rc]) Tryz.results106 (by decide) e6_5 (by go_simp) ?_
  refine ⟨a', by simp only [OA.cv, OA.rv, setC_m, setC_n, zc], ((hF4.away (by omega)).away (by omega)).less (by omega), Below.setCell (Below.setCell hE4 (Nat.le_succ _) _) (Nat.le_succ _) _⟩
end Go.Proofs.YtnfagcccgmakdaaGreat
namespace Go.Proofs.YtnfagcccgmakdaaGreat
open Go.RowKit Go.Wk Go.Proofs
attribute [local irreducible] Go.Wk.Wops Go.Wk.Wp Go.Wk.Mtree Go.Wk.Mops
set_option maxHeartbeats 4000000

theorem pieceR_c (v : Value) (o : Ord) (x : Int) (w : World) (hV : OrderV w w.heap.size v o) (hf : Fits o) :
    CallsV Tryz.prog 105 #[v, .int .i64 x] w fun v w' => v = .int .i64 (askS o (okPiece o x)) ∧ Ext w w' := by
  obtain ⟨cA, cc, rA, rc, rfl⟩ := hV.slices
  have hf1 := hf.1
  have hwm : IntKind.i64.wrap ((o.cop.length : Int) - 1) = (o.cop.length : Int) - 1 := IntWalk.i64_in _ (by omega)
  refine Wp.fn Tryz.func105 rfl Tryz.ntmps105 (by simp) ?_
  refine Wp.keep [0, 1] fun r1 hkeep => ?_
  obtain ⟨e0_1, e1_1, -⟩ := hkeep
  simp [go_sem] at e0_1 e1_1
  refine Wp.seqRegion (.inl rfl) (by kernel_rfl) fun K' gd hK hg => ?_
  clear hg
  go_simp
  refine hK _ _ ?_
  clear hK K' gd
  refine Wp.keep [1, 2] fun r2 hkeep => ?_
  obtain ⟨e1_2, e2_2, -⟩ := hkeep
  simp [go_sem, e0_1, e1_1] at e1_2 e2_2
  clear e0_1 e1_1
  refine Wp.seqRegion (.inl rfl) (by kernel_rfl) fun K' gd hK hg => ?_
  clear hg
  go_simp
  refine Wcall (.inl rfl) (refCheck_c _ o _ (hV.ext (by repeat (first | assumption | exact Ext.refl _ | refine Ext.drew ?_ | refine Ext.alloc ?_ _ | refine Ext.trans ?_ (by assumption)))) hf) ?_
  rintro v w2 ⟨rfl, hE2⟩
  have x0 : w2.cell? ⟨w.heap.size, 0, none⟩ = some (.slice cA o.cop.length cc) := hE2.cell (by go_simp)
  go_simp
  refine hK _ _ ?_
  clear hK K' gd
  refine Wp.keep [1, 2, 5] fun r3 hkeep => ?_
  obtain ⟨e1_3, e2_3, e5_3, -⟩ := hkeep
  simp [go_sem, e1_2, e2_2] at e1_3 e2_3 e5_3
  clear e1_2 e2_2
  by_cases h0 : checkS o = 0
  · skip
    refine Wp.seq ?_
    refine Wp.seqRegion (.inl rfl) (by kernel_rfl) fun K' gd hK hg => ?_
    clear hg
    go_simp
    refine hK _ _ ?_
    clear hK K' gd
    refine Wp.keep [1, 2, 5, 10] fun r4 hkeep => ?_
    obtain ⟨e1_4, e2_4, e5_4, e10_4, -⟩ := hkeep
    simp [go_sem, e1_3, e2_3, e5_3] at e1_4 e2_4 e5_4 e10_4
    clear e1_3 e2_3 e5_3
    refine Wp.condF (by go_simp) ?_
    by_cases hx : 0 ≤ x ∧ x ≤ (o.cop.length : Int) - 1
    · skip
      refine Wp.skip ?_
      refine thenK_normal ?_
      refine Wp.seqRegion (.inl rfl) (by kernel_rfl) fun K' gd hK hg => ?_
      clear hg
      go_simp
      refine Wcall (.inl rfl) (withinR_T hx _) ?_
      rintro v w3 ⟨rfl, hE3⟩
      go_simp
      refine hK _ _ ?_
      clear hK K' gd
      refine Wp.keep [6] fun r5 hkeep => ?_
      obtain ⟨e6_5, -⟩ := hkeep
      simp [go_sem, e1_4, e2_4, e5_4, e10_4] at e6_5
      clear e1_4 e2_4 e5_4 e10_4
      refine Wp.seq ?_
      refine Wp.seqRegion (.inl rfl) (by kernel_rfl) fun K' gd hK hg => ?_
      clear hg
      go_simp
      refine hK _ _ ?_
      clear hK K' gd
      refine Wp.keep [19] fun r6 hkeep => ?_
      obtain ⟨e19_6, -⟩ := hkeep
      simp [go_sem, e6_5] at e19_6
      clear e6_5
      refine Wp.condF (by go_simp) ?_
      refine Wp.skip ?_
      refine thenK_normal ?_
      refine Wp.seqRegion (.inl rfl) (by kernel_rfl) fun K' gd hK hg => ?_
      clear hg
      go_simp
      refine hK _ _ ?_
      clear hK K' gd
      refine Wp.keep [4] fun r7 hkeep => ?_
      obtain ⟨e4_7, -⟩ := hkeep
      simp [go_sem, e19_6] at e4_7
      clear e19_6
      refine Wp.ret ?_
      refine endK_tmp Tryz.results105 (by decide) ?_
      rw [e4_7]
      exact ⟨by unfold askS; rw [if_pos h0, if_pos (by unfold okPiece Ord.m; exact decide_eq_true hx)], (by repeat (first | assumption | exact Ext.refl _ | refine Ext.drew ?_ | refine Ext.alloc ?_ _ | refine Ext.trans ?_ (by assumption)))⟩
    · skip
      refine Wp.skip ?_
      refine thenK_normal ?_
      refine Wp.seqRegion (.inl rfl) (by kernel_rfl) fun K' gd hK hg => ?_
      clear hg
      go_simp
      refine Wcall (.inl rfl) (withinR_F hx _) ?_
      rintro v w3 ⟨rfl, hE3⟩
      go_simp
      refine hK _ _ ?_
      clear hK K' gd
      refine Wp.keep [6] fun r8 hkeep => ?_
      obtain ⟨e6_8, -⟩ := hkeep
      simp [go_sem, e1_4, e2_4, e5_4, e10_4] at e6_8
      clear e1_4 e2_4 e5_4 e10_4
      refine Wp.seq ?_
      refine Wp.seqRegion (.inl rfl) (by kernel_rfl) fun K' gd hK hg => ?_
      clear hg
      go_simp
      refine hK _ _ ?_
      clear hK K' gd
      refine Wp.keep [19] fun r9 hkeep => ?_
      obtain ⟨e19_9, -⟩ := hkeep
      simp [go_sem, e6_8] at e19_9
      clear e6_8
      refine Wp.condT (by go_simp) ?_
      refine Wp.seqRegion (.inl rfl) (by kernel_rfl) fun K' gd hK hg => ?_
      clear hg
      go_simp
      refine hK _ _ ?_
      clear hK K' gd
      refine Wp.keep [4] fun r10 hkeep => ?_
      obtain ⟨e4_10, -⟩ := hkeep
      simp [go_sem, e19_9] at e4_10
      clear e19_9
      refine Wp.ret ?_
      refine thenK_ret ?_
      refine endK_tmp Tryz.results105 (by decide) ?_
      rw [e4_10]
      exact ⟨by unfold askS; rw [if_pos h0, if_neg (by unfold okPiece Ord.m; rw [decide_eq_true_iff]; exact hx)], (by repeat (first | assumption | exact Ext.refl _ | refine Ext.drew ?_ | refine Ext.alloc ?_ _ | refine Ext.trans ?_ (by assumption)))⟩
  · skip
    refine Wp.seq ?_
    refine Wp.seqRegion (.inl rfl) (by kernel_rfl) fun K' gd hK hg => ?_
    clear hg
    go_simp
    refine hK _ _ ?_
    clear hK K' gd
    refine Wp.keep [1, 2, 5, 10] fun r11 hkeep => ?_
    obtain ⟨e1_11, e2_11, e5_11, e10_11, -⟩ := hkeep
    simp [go_sem, e1_3, e2_3, e5_3] at e1_11 e2_11 e5_11 e10_11
    clear e1_3 e2_3 e5_3
    refine Wp.condT (by go_simp) ?_
    refine Wp.seqRegion (.inl rfl) (by kernel_rfl) fun K' gd hK hg => ?_
    clear hg
    go_simp
    refine hK _ _ ?_
    clear hK K' gd
    refine Wp.keep [4] fun r12 hkeep => ?_
    obtain ⟨e4_12, -⟩ := hkeep
    simp [go_sem, e1_11, e2_11, e5_11, e10_11] at e4_12
    clear e1_11 e2_11 e5_11 e10_11
    refine Wp.ret ?_
    refine thenK_ret ?_
    refine endK_tmp Tryz.results105 (by decide) ?_
    rw [e4_12]
    exact ⟨by unfold askS; rw [if_neg h0], (by repeat (first | assumption | exact Ext.refl _ | refine Ext.drew ?_ | refine Ext.alloc ?_ _ | refine Ext.trans ?_ (by assumption)))⟩
theorem moreS_c (v : Value) (o : Ord) (x : Int) (w : World) (hV : OrderV w w.heap.size v o) (hf : Fits o) :
    CallsV Tryz.prog 37 #[v, .int .i64 x] w fun v w' => ∃ B1 m1 d1 B2 m2 d2, v = .agg #[.slice B1 m1 d1, .slice B2 m2 d2, .int .i64 (moreE o x)] ∧ OrderV w' w'.heap.size (.agg #[.slice B1 m1 d1, .slice B2 m2 d2]) (moreO o x) ∧ Ext w w' := by
  obtain ⟨A1, n1, c1, A2, n2, c2, rfl, hV⟩ := hV.two
  refine Wp.fn Tryz.func37 rfl Tryz.ntmps37 (by simp) ?_
  refine Wp.keep [0, 1] fun r1 hkeep => ?_
  obtain ⟨e0_1, e1_1, -⟩ := hkeep
  simp [go_sem] at e0_1 e1_1
  have x0 := cell_al (.cells #[.slice none 0 0, .slice none 0 0, .int .i64 0] 62) (cell_nn w #[.slice A1 n1 c1, .slice A2 n2 c2] 25 0 rfl (v := .slice A1 n1 c1) rfl)
  have x1 := cell_al (.cells #[.slice none 0 0, .slice none 0 0, .int .i64 0] 62) (cell_nn w #[.slice A1 n1 c1, .slice A2 n2 c2] 25 1 rfl (v := .slice A2 n2 c2) rfl)
  have y0 := cell_nn (w.alloc (.cells #[.slice A1 n1 c1, .slice A2 n2 c2] 25)) #[.slice none 0 0, .slice none 0 0, .int .i64 0] 62 0 (n := w.heap.size + 1) (by simp) (v := .slice none 0 0) rfl
  have y1 := cell_nn (w.alloc (.cells #[.slice A1 n1 c1, .slice A2 n2 c2] 25)) #[.slice none 0 0, .slice none 0 0, .int .i64 0] 62 1 (n := w.heap.size + 1) (by simp) (v := .slice none 0 0) rfl
  have y2 := cell_nn (w.alloc (.cells #[.slice A1 n1 c1, .slice A2 n2 c2] 25)) #[.slice none 0 0, .slice none 0 0, .int .i64 0] 62 2 (n := w.heap.size + 1) (by simp) (v := .int .i64 0) rfl
  have fz := frz_nw (w.alloc (.cells #[.slice A1 n1 c1, .slice A2 n2 c2] 25)) #[.slice none 0 0, .slice none 0 0, .int .i64 0] 62 (n := w.heap.size + 1) (by simp)
  have hEV : Ext w ((w.alloc (.cells #[.slice A1 n1 c1, .slice A2 n2 c2] 25)).alloc (.cells #[.slice none 0 0, .slice none 0 0, .int .i64 0] 62)) := (by repeat (first | assumption | exact Ext.refl _ | refine Ext.drew ?_ | refine Ext.alloc ?_ _ | refine Ext.trans ?_ (by assumption)))
  refine Wp.seqRegion (.inl rfl) (by kernel_rfl) fun K' gd hK hg => ?_
  clear hg
  go_simp
  refine hK _ _ ?_
  clear hK K' gd
  refine Wp.keep [1, 2, 4] fun r2 hkeep => ?_
  obtain ⟨e1_2, e2_2, e4_2, -⟩ := hkeep
  simp [go_sem, e0_1, e1_1] at e1_2 e2_2 e4_2
  clear e0_1 e1_1
  generalize ((w.alloc (.cells #[.slice A1 n1 c1, .slice A2 n2 c2] 25)).alloc (.cells #[.slice none 0 0, .slice none 0 0, .int .i64 0] 62)) = V at *
  have hV1 := hV.ext hEV
  refine Wp.seqRegion (.inl rfl) (by kernel_rfl) fun K' gd hK hg => ?_
  clear hg
  go_simp
  refine Wcall (.inl rfl) (pieceR_c _ o x _ hV1 hf) ?_
  rintro v w2 ⟨rfl, hE2⟩
  have fz := fz_ext hE2 (b := w.heap.size + 1) (cell_lt y0) fz
  have x0 := hE2.cell x0
  have x1 := hE2.cell x1
  have y0 := hE2.cell y0
  have y1 := hE2.cell y1
  have y2 := hE2.cell y2
  have hV2 := hV1.ext hE2
  go_simp
  refine hK _ _ ?_
  clear hK K' gd
  refine Wp.keep [1, 2, 4, 5] fun r3 hkeep => ?_
  obtain ⟨e1_3, e2_3, e4_3, e5_3, -⟩ := hkeep
  simp [go_sem, e1_2, e2_2, e4_2] at e1_3 e2_3 e4_3 e5_3
  clear e1_2 e2_2 e4_2
  by_cases h0 : askS o (okPiece o x) = 0
  · skip
    refine Wp.seq ?_
    refine Wp.seqRegion (.inl rfl) (by kernel_rfl) fun K' gd hK hg => ?_
    clear hg
    go_simp
    refine hK _ _ ?_
    clear hK K' gd
    refine Wp.keep [1, 2, 4, 5, 10] fun r4 hkeep => ?_
    obtain ⟨e1_4, e2_4, e4_4, e5_4, e10_4, -⟩ := hkeep
    simp [go_sem, e1_3, e2_3, e4_3, e5_3] at e1_4 e2_4 e4_4 e5_4 e10_4
    clear e1_3 e2_3 e4_3 e5_3
    refine Wp.condF (by go_simp) ?_
    have hg := (askS_zero.1 h0).1
    have hok := (askS_zero.1 h0).2
    unfold okPiece at hok
    have hok := of_decide_eq_true hok
    obtain ⟨j, rfl⟩ : ∃ j : Nat, x = (j : Int) := ⟨x.toNat, by omega⟩
    have hj : j < o.m := by omega
    obtain ⟨p, hcv, hrv, hO⟩ := hV2.ordF2 hg
    simp only [OA.cv, OA.rv] at hcv hrv
    injection hcv with p1 p2 p3
    injection hrv with p4 p5 p6
    subst p1 p2 p3 p4 p5 p6
    have cC := hO.hC j hj
    have vC := hO.vC j hj
    have b1 : (j : Int) < (o.m : Int) := by omega
    by_cases hq : o.C j = 20
    · skip
      refine Wp.skip ?_
      refine thenK_normal ?_
      refine Wp.seq ?_
      refine Wp.seqRegion (.inl rfl) (by kernel_rfl) fun K' gd hK hg => ?_
      clear hg
      go_simp
      refine hK _ _ ?_
      clear hK K' gd
      refine Wp.keep [1, 2, 4, 18] fun r5 hkeep => ?_
      obtain ⟨e1_5, e2_5, e4_5, e18_5, -⟩ := hkeep
      simp [go_sem, e1_4, e2_4, e4_4, e5_4, e10_4] at e1_5 e2_5 e4_5 e18_5
      clear e1_4 e2_4 e4_4 e5_4 e10_4
      refine Wp.condT (by go_simp) ?_
      have hmE : ∃ _u : Unit, moreE o (j : Int) = 2 := ⟨(), by (unfold moreE; rw [if_pos h0, Int.toNat_natCast, if_pos hq])⟩
      have f0 := fz 0
      have f1 := fz 1
      have f2 := fz 2
      have hlt := cell_lt y0
      refine Wp.seqRegion (.inl rfl) (by kernel_rfl) fun K' gd hK hg => ?_
      clear hg
      go_simp
      refine hK _ _ ?_
      clear hK K' gd
      refine Wp.keep [4] fun r6 hkeep => ?_
      obtain ⟨e4_6, -⟩ := hkeep
      simp [go_sem, e1_5, e2_5, e4_5, e18_5] at e4_6
      clear e1_5 e2_5 e4_5 e18_5
      refine Wp.ret ?_
      refine thenK_ret ?_
      refine endK_cell (v := .agg #[.slice none 0 0, .slice none 0 0, .int .i64 2]) Tryz.results37 (by decide) e4_6 (by go_simp) ?_
      obtain ⟨-, hmE⟩ := hmE
      refine ⟨none, 0, 0, none, 0, 0, by rw [hmE], ?_, (by repeat (first | assumption | exact Ext.refl _ | refine Ext.drew ?_ | refine Ext.alloc ?_ _ | refine Ext.setC ?_ (by omega) _ | refine Ext.trans ?_ (by assumption)))⟩
      unfold moreO; rw [if_neg (by rw [hmE]; decide)]; exact noOrdV _ _
    · skip
      refine Wp.skip ?_
      refine thenK_normal ?_
      refine Wp.seq ?_
      refine Wp.seqRegion (.inl rfl) (by kernel_rfl) fun K' gd hK hg => ?_
      clear hg
      go_simp
      refine hK _ _ ?_
      clear hK K' gd
      refine Wp.keep [1, 2, 4, 18] fun r7 hkeep => ?_
      obtain ⟨e1_7, e2_7, e4_7, e18_7, -⟩ := hkeep
      simp [go_sem, e1_4, e2_4, e4_4, e5_4, e10_4] at e1_7 e2_7 e4_7 e18_7
      clear e1_4 e2_4 e4_4 e5_4 e10_4
      refine Wp.condF (by go_simp) ?_
      have hmE : ∃ _u : Unit, moreE o (j : Int) = 0 := ⟨(), by (unfold moreE; rw [if_pos h0, Int.toNat_natCast, if_neg hq])⟩
      have hw1 : IntKind.i64.wrap (o.C j + 1) = o.C j + 1 := IntWalk.i64_in _ (by omega)
      refine Wp.skip ?_
      refine thenK_normal ?_
      refine Wp.seqDraw (.inl rfl) mixed [([0, 1, 2, 3, 4], none), ([5, 6, 7], some (8, false)), ([9], some (10, true))] (by kernel_rfl) fun K' gd hK hg => ?_
      clear hg
      simp only [pick, nth, List.map_cons, List.map_nil, Option.map_none, Option.map_some]
      apply Mops.none
      · intro w' hE'
        have hC' := hE'.cellsS
        go_simp
        with_reducible rfl
      apply Mops.act
      · intro w' hE'
        have hC' := hE'.cellsS
        go_simp
        with_reducible rfl
      intro K1 hK1
      go_simp
      refine Wcall (.inl rfl) (moreR_c p o j (o.C j + 1) _ (hO.ext (by repeat (first | assumption | exact Ext.refl _ | refine Ext.drew ?_ | refine Ext.alloc ?_ _ | refine Ext.trans ?_ (by assumption)))) hj (by omega)) ?_
      rintro v w3 ⟨a', rfl, hF, hE3⟩
      simp only [OA.cv, OA.rv]
      have hE3 := Ext.trans ((Ext.refl w2).drew) hE3
      have hlt2 : w.heap.size + 1 < w2.drew.heap.size := cell_lt y0
      have fz := fz_ext hE3 (b := w.heap.size + 1) (cell_lt y0) fz
      have x0 := hE3.cell x0
      have x1 := hE3.cell x1
      have y0 := hE3.cell y0
      have y1 := hE3.cell y1
      have y2 := hE3.cell y2
      have f0 := fz 0
      have f1 := fz 1
      have f2 := fz 2
      have hlt := cell_lt y0
      go_simp
      refine hK1 _ _ (by first | assumption | exact Ext.refl _) ?_
      clear hK1 K1
      apply Mops.last
      · intro w' hE'
        have hC' := hE'.cellsS
        go_simp
        with_reducible rfl
      intro K1 hK1
      go_simp
      refine hK1 _ _ ?_
      clear hK1 K1
      refine Mops.done ?_
      refine hK _ _ ?_
      clear hK K' gd
      refine Wp.keep [4] fun r8 hkeep => ?_
      obtain ⟨e4_8, -⟩ := hkeep
      simp [go_sem, e1_7, e2_7, e4_7, e18_7] at e4_8
      clear e1_7 e2_7 e4_7 e18_7
      refine Wp.ret ?_
      refine endK_cell (v := .agg #[.slice (some ⟨a'.cb, a'.co, none⟩) (o.setC j (o.C j + 1)).m a'.cc, .slice a'.rA (o.setC j (o.C j + 1)).n a'.rc, .int .i64 0]) Tryz.results37 (by decide) e4_8 (by go_simp) ?_
      obtain ⟨-, hmE⟩ := hmE
      refine ⟨_, _, _, _, _, _, by rw [hmE], ?_, (by repeat (first | assumption | exact Ext.refl _ | refine Ext.drew ?_ | refine Ext.alloc ?_ _ | refine Ext.setC ?_ (by omega) _ | refine Ext.trans ?_ (by assumption)))⟩
      unfold moreO; rw [if_pos hmE, Int.toNat_natCast]
      exact (((hF.away (by omega)).away (by omega)).away (by omega)).ord.orderV (hg.setC j (by omega))
  · skip
    refine Wp.seq ?_
    refine Wp.seqRegion (.inl rfl) (by kernel_rfl) fun K' gd hK hg => ?_
    clear hg
    go_simp
    refine hK _ _ ?_
    clear hK K' gd
    refine Wp.keep [1, 2, 4, 5, 10] fun r9 hkeep => ?_
    obtain ⟨e1_9, e2_9, e4_9, e5_9, e10_9, -⟩ := hkeep
    simp [go_sem, e1_3, e2_3, e4_3, e5_3] at e1_9 e2_9 e4_9 e5_9 e10_9
    clear e1_3 e2_3 e4_3 e5_3
    refine Wp.condT (by go_simp) ?_
    have hmE : ∃ _u : Unit, moreE o x = askS o (okPiece o x) := ⟨(), by (unfold moreE; rw [if_neg h0])⟩
    have f0 := fz 0
    have f1 := fz 1
    have f2 := fz 2
    have hlt := cell_lt y0
    refine Wp.seqRegion (.inl rfl) (by kernel_rfl) fun K' gd hK hg => ?_
    clear hg
    go_simp
    refine hK _ _ ?_
    clear hK K' gd
    refine Wp.keep [4] fun r10 hkeep => ?_
    obtain ⟨e4_10, -⟩ := hkeep
    simp [go_sem, e1_9, e2_9, e4_9, e5_9, e10_9] at e4_10
    clear e1_9 e2_9 e4_9 e5_9 e10_9
    refine Wp.ret ?_
    refine thenK_ret ?_
    refine endK_cell (v := .agg #[.slice none 0 0, .slice none 0 0, .int .i64 (askS o (okPiece o x))]) Tryz.results37 (by decide) e4_10 (by go_simp) ?_
    obtain ⟨-, hmE⟩ := hmE
    refine ⟨none, 0, 0, none, 0, 0, by rw [hmE], ?_, (by repeat (first | assumption | exact Ext.refl _ | refine Ext.drew ?_ | refine Ext.alloc ?_ _ | refine Ext.setC ?_ (by omega) _ | refine Ext.trans ?_ (by assumption)))⟩
    unfold moreO; rw [if_neg (by rw [hmE]; exact h0)]; exact noOrdV _ _
end Go.Proofs.YtnfagcccgmakdaaGreat
namespace Go.Proofs.YtnfagcccgmakdaaGreat
open Go.RowKit Go.Wk Go.Proofs
attribute [local irreducible] Go.Wk.Wops Go.Wk.Wp Go.Wk.Mtree Go.Wk.Mops
set_option maxHeartbeats 4000000

theorem OrderV.aO {w : World} {B : Nat} {L1 L2 : Option Addr} {k1 d1 k2 d2 : Nat} {o : Ord} (h : OrderV w B (.agg #[.slice L1 k1 d1, .slice L2 k2 d2]) o) (hg : OrdGood o) :
    ∃ p : OA, L1 = some ⟨p.cb, p.co, none⟩ ∧ k1 = o.m ∧ d1 = p.cc ∧ L2 = p.rA ∧ k2 = o.n ∧ d2 = p.rc ∧ OrdF w B p o := by
  obtain ⟨p, hcv, hrv, hO⟩ := h.ordF2 hg
  simp only [OA.cv, OA.rv] at hcv hrv
  injection hcv with p1 p2 p3
  injection hrv with p4 p5 p6
  exact ⟨p, p1, p2, p3, p4, p5, p6, hO⟩
theorem saveS_c (v : Value) (o : Ord) (x : Int) (w : World) (hV : OrderV w w.heap.size v o) (hf : Fits o) :
    CallsV Tryz.prog 39 #[v, .int .i64 x] w fun v w' => v = .agg #[.int .i64 (saveV o x), .int .i64 (moreE o x)] ∧ Ext w w' := by
  obtain ⟨L1, k1, d1, L2, k2, d2, rfl, hV⟩ := hV.two
  refine Wp.fn Tryz.func39 rfl Tryz.ntmps39 (by simp) ?_
  have xw := Ext.refl w
  refine Wp.keep [0, 1] fun r1 hkeep => ?_
  obtain ⟨e0_1, e1_1, -⟩ := hkeep
  simp [go_sem] at e0_1 e1_1
  refine Wp.seqRegion (.inl rfl) (by kernel_rfl) fun K' gd hK hg => ?_
  clear hg
  refine Wops.cut 1 fun K1 hK1 => ?_
  simp only [List.take_succ_cons, List.take_zero]
  go_simp
  refine hK1 _ _ ?_
  clear hK1 K1
  simp only [List.drop_succ_cons, List.drop_zero]
  refine Wops.absA fun V2_1 n2 hV2_1 => ?_
  obtain ⟨q2, hV2_1, s2, kV2_1, f2, r2⟩ := hV2_1
  try simp only [q2] at kV2_1 f2 r2 ⊢
  replace xw := Ext.trans xw hV2_1
  have c2_0 := kV2_1 0 _ rfl
  have c2_1 := kV2_1 1 _ rfl
  clear kV2_1 hV2_1
  clear r2
  refine Wops.cut 1 fun K1 hK1 => ?_
  simp only [List.take_succ_cons, List.take_zero]
  go_simp
  refine hK1 _ _ ?_
  clear hK1 K1
  simp only [List.drop_succ_cons, List.drop_zero]
  refine Wops.absA fun V4_2 n4 hV4_2 => ?_
  obtain ⟨q4, hV4_2, s4, kV4_2, f4, r4⟩ := hV4_2
  try simp only [q4] at kV4_2 f4 r4 ⊢
  replace f2 := Ext.fz hV4_2 c2_0 f2
  replace xw := Ext.trans xw hV4_2
  replace c2_0 := Ext.cell hV4_2 c2_0
  replace c2_1 := Ext.cell hV4_2 c2_1
  have c4_0 := kV4_2 0 _ rfl
  have c4_1 := kV4_2 1 _ rfl
  clear kV4_2 hV4_2
  clear r4
  try simp only [Wops_nil, updO_some, updO_none]
  refine hK _ _ ?_
  clear hK K' gd
  refine Wp.keep [1, 2, 4] fun r2 hkeep => ?_
  obtain ⟨e1_2, e2_2, e4_2, -⟩ := hkeep
  simp [go_sem, e0_1, e1_1] at e1_2 e2_2 e4_2
  clear e0_1 e1_1
  refine Wp.seqRegion (.inl rfl) (by kernel_rfl) fun K' gd hK hg => ?_
  clear hg
  refine Wops.cut 3 fun K1 hK1 => ?_
  simp only [List.take_succ_cons, List.take_zero]
  go_simp
  refine Wcall (.inl rfl) (moreS_c _ o x _ (hV.ext xw) hf) ?_
  rintro v w2 ⟨B1, m1, e1, B2, m2, e2, rfl, hM, hE⟩
  go_simp
  refine hK1 _ _ ?_
  clear hK1 K1
  simp only [List.drop_succ_cons, List.drop_zero]
  have z3 := Below.size hE
  replace f2 := Ext.fz hE c2_0 f2
  replace f4 := Ext.fz hE c4_0 f4
  replace xw := Ext.trans xw hE
  replace c2_0 := Ext.cell hE c2_0
  replace c2_1 := Ext.cell hE c2_1
  replace c4_0 := Ext.cell hE c4_0
  replace c4_1 := Ext.cell hE c4_1
  clear hE
  refine Wops.cut 2 fun K1 hK1 => ?_
  simp only [List.take_succ_cons, List.take_zero]
  go_simp
  refine hK1 _ _ ?_
  clear hK1 K1
  simp only [List.drop_succ_cons, List.drop_zero]
  refine Wops.absA fun V5_3 n5 hV5_3 => ?_
  obtain ⟨q5, hV5_3, s5, kV5_3, f5, r5⟩ := hV5_3
  try simp only [q5] at kV5_3 f5 r5 ⊢
  replace f2 := Ext.fz hV5_3 c2_0 f2
  replace f4 := Ext.fz hV5_3 c4_0 f4
  replace hM := hM.ext hV5_3
  replace xw := Ext.trans xw hV5_3
  replace c2_0 := Ext.cell hV5_3 c2_0
  replace c2_1 := Ext.cell hV5_3 c2_1
  replace c4_0 := Ext.cell hV5_3 c4_0
  replace c4_1 := Ext.cell hV5_3 c4_1
  have c5_0 := kV5_3 0 _ rfl
  have c5_1 := kV5_3 1 _ rfl
  have c5_2 := kV5_3 2 _ rfl
  clear kV5_3 hV5_3
  clear r5
  try simp only [Wops_nil, updO_some, updO_none]
  refine hK _ _ ?_
  clear hK K' gd
  refine Wp.keep [2, 4, 5] fun r4 hkeep => ?_
  obtain ⟨e2_4, e4_4, e5_4, -⟩ := hkeep
  simp [go_sem, e1_2, e2_2, e4_2] at e2_4 e4_4 e5_4
  clear e1_2 e2_2 e4_2
  by_cases h0 : moreE o x = 0
  · skip
    refine Wp.seq ?_
    refine Wp.seqRegion (.inl rfl) (by kernel_rfl) fun K' gd hK hg => ?_
    clear hg
    go_simp
    refine hK _ _ ?_
    clear hK K' gd
    refine Wp.keep [2, 4, 5, 11] fun r5 hkeep => ?_
    obtain ⟨e2_5, e4_5, e5_5, e11_5, -⟩ := hkeep
    simp [go_sem, e2_4, e4_4, e5_4] at e2_5 e4_5 e5_5 e11_5
    clear e2_4 e4_4 e5_4
    refine Wp.condF (by go_simp) ?_
    have hask : askS o (okPiece o x) = 0 := Decidable.byContradiction fun hc => (by unfold moreE at h0; rw [if_neg hc] at h0; exact hc h0)
    have hg := (askS_zero.1 hask).1
    have hg2 := moreO_good h0
    have he1 := endS_ok hg.ok
    have he2 := endS_ok hg2.ok
    have hsv : ∃ _u : Unit, saveV o x = endS o - endS (moreO o x) := ⟨(), by (unfold saveV; rw [if_pos h0])⟩
    obtain ⟨p, rfl, rfl, rfl, rfl, rfl, rfl, hO⟩ := (hV.ext xw).aO hg
    obtain ⟨M, hMe⟩ : ∃ M, moreO o x = M := ⟨_, rfl⟩
    rw [hMe] at hM he2 hsv hg2
    clear hMe
    obtain ⟨q, rfl, rfl, rfl, rfl, rfl, rfl, hO2⟩ := hM.aO hg2
    have hwr : IntKind.i64.wrap (endS o - endS M) = endS o - endS M := IntWalk.i64_in _ (by omega)
    have xq := Ext.refl V5_3
    refine Wp.skip ?_
    refine thenK_normal ?_
    refine Wp.seqDraw (.inl rfl) mixed [([0, 2, 3], some (1, false)), ([], some (4, false)), ([5, 6], some (7, true))] (by kernel_rfl) fun K' gd hK hg => ?_
    clear hg
    simp only [pick, nth, List.map_cons, List.map_nil, Option.map_none, Option.map_some]
    refine Mops.absD fun D5 hD5 zD5 => ?_
    replace f2 := Ext.fz hD5 c2_0 f2
    replace f4 := Ext.fz hD5 c4_0 f4
    replace f5 := Ext.fz hD5 c5_0 f5
    replace xw := Ext.trans xw hD5
    replace xq := Ext.trans xq hD5
    replace c2_0 := Ext.cell hD5 c2_0
    replace c2_1 := Ext.cell hD5 c2_1
    replace c4_0 := Ext.cell hD5 c4_0
    replace c4_1 := Ext.cell hD5 c4_1
    replace c5_0 := Ext.cell hD5 c5_0
    replace c5_1 := Ext.cell hD5 c5_1
    replace c5_2 := Ext.cell hD5 c5_2
    clear hD5
    apply Mops.act
    · intro w' hE'
      have hC' := hE'.cellsS
      go_simp
      with_reducible rfl
    intro K1 hK1
    go_simp
    refine Wcall (.inl rfl) (endR_c p o _ (hO.ext xq)) ?_
    rintro v w4 ⟨rfl, hE⟩
    go_simp
    refine hK1 _ _ (by assumption) ?_
    clear hK1 K1
    have z6 := Below.size hE
    replace f2 := Ext.fz hE c2_0 f2
    replace f4 := Ext.fz hE c4_0 f4
    replace f5 := Ext.fz hE c5_0 f5
    replace xw := Ext.trans xw hE
    replace xq := Ext.trans xq hE
    replace c2_0 := Ext.cell hE c2_0
    replace c2_1 := Ext.cell hE c2_1
    replace c4_0 := Ext.cell hE c4_0
    replace c4_1 := Ext.cell hE c4_1
    replace c5_0 := Ext.cell hE c5_0
    replace c5_1 := Ext.cell hE c5_1
    replace c5_2 := Ext.cell hE c5_2
    clear hE
    apply Mops.act
    · exact fun _ _ => Rops_done
    intro K1 hK1
    go_simp
    refine Wcall (.inl rfl) (endR_c q M _ (hO2.ext xq)) ?_
    rintro v w5 ⟨rfl, hE⟩
    go_simp
    refine hK1 _ _ (by assumption) ?_
    clear hK1 K1
    have z7 := Below.size hE
    replace f2 := Ext.fz hE c2_0 f2
    replace f4 := Ext.fz hE c4_0 f4
    replace f5 := Ext.fz hE c5_0 f5
    replace xw := Ext.trans xw hE
    replace xq := Ext.trans xq hE
    replace c2_0 := Ext.cell hE c2_0
    replace c2_1 := Ext.cell hE c2_1
    replace c4_0 := Ext.cell hE c4_0
    replace c4_1 := Ext.cell hE c4_1
    replace c5_0 := Ext.cell hE c5_0
    replace c5_1 := Ext.cell hE c5_1
    replace c5_2 := Ext.cell hE c5_2
    clear hE
    apply Mops.last
    · intro w' hE'
      have hC' := hE'.cellsS
      go_simp
      with_reducible rfl
    intro K1 hK1
    go_simp
    refine hK1 _ _ ?_
    clear hK1 K1
    refine Mops.absS (b := n4) (i := 0) [_, _] (somes [cellVal c4_0, cellVal c4_1] (by simp) (by intro j v hj; match j, hj with | 0, hj => (simp at hj; subst hj; exact c4_0) | 1, hj => (simp at hj; subst hj; exact c4_1))) fun P6 hP6 => ?_
    have zP6 := hP6.same
    replace f2 := Put.frz hP6 f2
    replace f4 := Put.frz hP6 f4
    replace f5 := Put.frz hP6 f5
    replace xw := Put.to xw hP6 (by omega)
    clear xq
    replace c2_0 := Put.cell hP6 c2_0 (by omega)
    replace c2_1 := Put.cell hP6 c2_1 (by omega)
    clear c4_0
    clear c4_1
    replace c5_0 := Put.cell hP6 c5_0 (by omega)
    replace c5_1 := Put.cell hP6 c5_1 (by omega)
    replace c5_2 := Put.cell hP6 c5_2 (by omega)
    have c4_0 := hP6.new 0 _ rfl
    try simp only [Nat.reduceAdd, Nat.zero_add, Nat.add_zero] at c4_0
    have c4_1 := hP6.new 1 _ rfl
    try simp only [Nat.reduceAdd, Nat.zero_add, Nat.add_zero] at c4_1
    clear hP6
    refine Mops.done ?_
    refine hK _ _ ?_
    clear hK K' gd
    refine Wp.keep [4] fun r8 hkeep => ?_
    obtain ⟨e4_8, -⟩ := hkeep
    simp [go_sem, e2_5, e4_5, e5_5, e11_5] at e4_8
    clear e2_5 e4_5 e5_5 e11_5
    refine Wp.ret ?_
    refine endK_cell (v := .agg #[cellVal c4_0, cellVal c4_1]) Tryz.results39 (by decide) e4_8 (by dsimp only [cellVal]; go_simp) ?_
    dsimp only [cellVal]
    obtain ⟨-, hsv⟩ := hsv
    exact ⟨by rw [h0, hsv], xw⟩
  · skip
    refine Wp.seq ?_
    refine Wp.seqRegion (.inl rfl) (by kernel_rfl) fun K' gd hK hg => ?_
    clear hg
    go_simp
    refine hK _ _ ?_
    clear hK K' gd
    refine Wp.keep [2, 4, 5, 11] fun r9 hkeep => ?_
    obtain ⟨e2_9, e4_9, e5_9, e11_9, -⟩ := hkeep
    simp [go_sem, e2_4, e4_4, e5_4] at e2_9 e4_9 e5_9 e11_9
    clear e2_4 e4_4 e5_4
    refine Wp.condT (by go_simp) ?_
    refine Wp.seqRegion (.inl rfl) (by kernel_rfl) fun K' gd hK hg => ?_
    clear hg
    refine Wops.cut 4 fun K1 hK1 => ?_
    simp only [List.take_succ_cons, List.take_zero]
    go_simp
    refine hK1 _ _ ?_
    clear hK1 K1
    simp only [List.drop_succ_cons, List.drop_zero]
    refine Wops.absS (b := n4) (i := 0) [_, _] (somes [cellVal c4_0, cellVal c4_1] (by simp) (by intro j v hj; match j, hj with | 0, hj => (simp at hj; subst hj; exact c4_0) | 1, hj => (simp at hj; subst hj; exact c4_1))) fun P7 hP7 => ?_
    have zP7 := hP7.same
    replace f2 := Put.frz hP7 f2
    replace f4 := Put.frz hP7 f4
    replace f5 := Put.frz hP7 f5
    replace xw := Put.to xw hP7 (by omega)
    replace c2_0 := Put.cell hP7 c2_0 (by omega)
    replace c2_1 := Put.cell hP7 c2_1 (by omega)
    clear c4_0
    clear c4_1
    replace c5_0 := Put.cell hP7 c5_0 (by omega)
    replace c5_1 := Put.cell hP7 c5_1 (by omega)
    replace c5_2 := Put.cell hP7 c5_2 (by omega)
    have c4_0 := hP7.new 0 _ rfl
    try simp only [Nat.reduceAdd, Nat.zero_add, Nat.add_zero] at c4_0
    have c4_1 := hP7.new 1 _ rfl
    try simp only [Nat.reduceAdd, Nat.zero_add, Nat.add_zero] at c4_1
    clear hP7
    try simp only [Wops_nil, updO_some, updO_none]
    refine hK _ _ ?_
    clear hK K' gd
    refine Wp.keep [4] fun r10 hkeep => ?_
    obtain ⟨e4_10, -⟩ := hkeep
    simp [go_sem, e2_9, e4_9, e5_9, e11_9] at e4_10
    clear e2_9 e4_9 e5_9 e11_9
    refine Wp.ret ?_
    refine thenK_ret ?_
    refine endK_cell (v := .agg #[cellVal c4_0, cellVal c4_1]) Tryz.results39 (by decide) e4_10 (by dsimp only [cellVal]; go_simp) ?_
    dsimp only [cellVal]
    exact ⟨by (unfold saveV; rw [if_neg h0]), xw⟩
theorem needS_c (v : Value) (o : Ord) (x d : Int) (w : World) (hV : OrderV w w.heap.size v o) (hf : Fits o) :
    CallsV Tryz.prog 41 #[v, .int .i64 x, .int .i64 d] w fun v w' => v = .agg #[.int .i64 (needN o x d), .int .i64 (needE o x d)] ∧ Ext w w' := by
  obtain ⟨L1, k1, d1, L2, k2, d2, rfl, hV⟩ := hV.two
  refine Wp.fn Tryz.func41 rfl Tryz.ntmps41 (by simp) ?_
  have xw := Ext.refl w
  refine Wp.keep [0, 1, 2] fun r1 hkeep => ?_
  obtain ⟨e0_1, e1_1, e2_1, -⟩ := hkeep
  simp [go_sem] at e0_1 e1_1 e2_1
  refine Wp.seqRegion (.inl rfl) (by kernel_rfl) fun K' gd hK hg => ?_
  clear hg
  refine Wops.cut 1 fun K1 hK1 => ?_
  simp only [List.take_succ_cons, List.take_zero]
  go_simp
  refine hK1 _ _ ?_
  clear hK1 K1
  simp only [List.drop_succ_cons, List.drop_zero]
  refine Wops.absA fun V3_1 n3 hV3_1 => ?_
  obtain ⟨q3, hV3_1, s3, kV3_1, f3, r3⟩ := hV3_1
  try simp only [q3] at kV3_1 f3 r3 ⊢
  replace xw := Ext.trans xw hV3_1
  have c3_0 := kV3_1 0 _ rfl
  have c3_1 := kV3_1 1 _ rfl
  clear kV3_1 hV3_1
  clear r3
  refine Wops.cut 1 fun K1 hK1 => ?_
  simp only [List.take_succ_cons, List.take_zero]
  go_simp
  refine hK1 _ _ ?_
  clear hK1 K1
  simp only [List.drop_succ_cons, List.drop_zero]
  refine Wops.absA fun V6_2 n6 hV6_2 => ?_
  obtain ⟨q6, hV6_2, s6, kV6_2, f6, r6⟩ := hV6_2
  try simp only [q6] at kV6_2 f6 r6 ⊢
  replace f3 := Ext.fz hV6_2 c3_0 f3
  replace xw := Ext.trans xw hV6_2
  replace c3_0 := Ext.cell hV6_2 c3_0
  replace c3_1 := Ext.cell hV6_2 c3_1
  have c6_0 := kV6_2 0 _ rfl
  have c6_1 := kV6_2 1 _ rfl
  clear kV6_2 hV6_2
  clear r6
  try simp only [Wops_nil, updO_some, updO_none]
  refine hK _ _ ?_
  clear hK K' gd
  refine Wp.keep [1, 2, 3, 6] fun r2 hkeep => ?_
  obtain ⟨e1_2, e2_2, e3_2, e6_2, -⟩ := hkeep
  simp [go_sem, e0_1, e1_1, e2_1] at e1_2 e2_2 e3_2 e6_2
  clear e0_1 e1_1 e2_1
  refine Wp.seqRegion (.inl rfl) (by kernel_rfl) fun K' gd hK hg => ?_
  clear hg
  refine Wops.cut 3 fun K1 hK1 => ?_
  simp only [List.take_succ_cons, List.take_zero]
  go_simp
  refine Wcall (.inl rfl) (pieceR_c _ o x _ (hV.ext xw) hf) ?_
  rintro v w2 ⟨rfl, hE⟩
  go_simp
  refine hK1 _ _ ?_
  clear hK1 K1
  simp only [List.drop_succ_cons, List.drop_zero]
  have z3 := Below.size hE
  replace f3 := Ext.fz hE c3_0 f3
  replace f6 := Ext.fz hE c6_0 f6
  replace xw := Ext.trans xw hE
  replace c3_0 := Ext.cell hE c3_0
  replace c3_1 := Ext.cell hE c3_1
  replace c6_0 := Ext.cell hE c6_0
  replace c6_1 := Ext.cell hE c6_1
  clear hE
  go_simp
  refine hK _ _ ?_
  clear hK K' gd
  refine Wp.keep [1, 2, 3, 6, 7] fun r4 hkeep => ?_
  obtain ⟨e1_4, e2_4, e3_4, e6_4, e7_4, -⟩ := hkeep
  simp [go_sem, e1_2, e2_2, e3_2, e6_2] at e1_4 e2_4 e3_4 e6_4 e7_4
  clear e1_2 e2_2 e3_2 e6_2
  by_cases h0 : askS o (okPiece o x) = 0
  · skip
    refine Wp.seq ?_
    refine Wp.seqRegion (.inl rfl) (by kernel_rfl) fun K' gd hK hg => ?_
    clear hg
    go_simp
    refine hK _ _ ?_
    clear hK K' gd
    refine Wp.keep [1, 2, 3, 6, 7, 14] fun r5 hkeep => ?_
    obtain ⟨e1_5, e2_5, e3_5, e6_5, e7_5, e14_5, -⟩ := hkeep
    simp [go_sem, e1_4, e2_4, e3_4, e6_4, e7_4] at e1_5 e2_5 e3_5 e6_5 e7_5 e14_5
    clear e1_4 e2_4 e3_4 e6_4 e7_4
    refine Wp.condF (by go_simp) ?_
    by_cases hd : 0 ≤ d ∧ d ≤ 1048576
    · skip
      refine Wp.skip ?_
      refine thenK_normal ?_
      refine Wp.seqRegion (.inl rfl) (by kernel_rfl) fun K' gd hK hg => ?_
      clear hg
      refine Wops.cut 2 fun K1 hK1 => ?_
      simp only [List.take_succ_cons, List.take_zero]
      go_simp
      refine Wcall (.inl rfl) (withinR_T hd _) ?_
      rintro v w3 ⟨rfl, hE⟩
      go_simp
      refine hK1 _ _ ?_
      clear hK1 K1
      simp only [List.drop_succ_cons, List.drop_zero]
      have z6 := Below.size hE
      replace f3 := Ext.fz hE c3_0 f3
      replace f6 := Ext.fz hE c6_0 f6
      replace xw := Ext.trans xw hE
      replace c3_0 := Ext.cell hE c3_0
      replace c3_1 := Ext.cell hE c3_1
      replace c6_0 := Ext.cell hE c6_0
      replace c6_1 := Ext.cell hE c6_1
      clear hE
      go_simp
      refine hK _ _ ?_
      clear hK K' gd
      refine Wp.keep [1, 2, 3, 6, 8] fun r7 hkeep => ?_
      obtain ⟨e1_7, e2_7, e3_7, e6_7, e8_7, -⟩ := hkeep
      simp [go_sem, e1_5, e2_5, e3_5, e6_5, e7_5, e14_5] at e1_7 e2_7 e3_7 e6_7 e8_7
      clear e1_5 e2_5 e3_5 e6_5 e7_5 e14_5
      refine Wp.seq ?_
      refine Wp.seqRegion (.inl rfl) (by kernel_rfl) fun K' gd hK hg => ?_
      clear hg
      go_simp
      refine hK _ _ ?_
      clear hK K' gd
      refine Wp.keep [1, 2, 3, 6, 20] fun r8 hkeep => ?_
      obtain ⟨e1_8, e2_8, e3_8, e6_8, e20_8, -⟩ := hkeep
      simp [go_sem, e1_7, e2_7, e3_7, e6_7, e8_7] at e1_8 e2_8 e3_8 e6_8 e20_8
      clear e1_7 e2_7 e3_7 e6_7 e8_7
      refine Wp.condF (by go_simp) ?_
      have hq0 : askS o (okPiece o x && okDay d) = 0 := askS_zero.2 ⟨(askS_zero.1 h0).1, by rw [(askS_zero.1 h0).2, Bool.true_and]; unfold okDay; exact decide_eq_true hd⟩
      have hg := (askS_zero.1 h0).1
      obtain ⟨j, rfl, hj⟩ := okPiece_nat (askS_zero.1 h0).2
      obtain ⟨p, rfl, rfl, rfl, rfl, rfl, rfl, hO⟩ := (hV.ext xw).aO hg
      have xq := Ext.refl w3
      refine Wp.skip ?_
      refine thenK_normal ?_
      refine Wp.seq ?_
      refine Wp.seqRegion (.inl rfl) (by kernel_rfl) fun K' gd hK hg => ?_
      clear hg
      go_simp
      refine hK _ _ ?_
      clear hK K' gd
      refine Wp.keep [1, 2, 3, 6, 9] fun r9 hkeep => ?_
      obtain ⟨e1_9, e2_9, e3_9, e6_9, e9_9, -⟩ := hkeep
      simp [go_sem, e1_8, e2_8, e3_8, e6_8, e20_8] at e1_9 e2_9 e3_9 e6_9 e9_9
      clear e1_8 e2_8 e3_8 e6_8 e20_8
      refine Wp.block ?_
      refine Wp.loop (fun k ρ ds wk => AllEq [1, 2, 3, 6] ρ r9 ∧ ds = [] ∧ (Ext w3 wk) ∧ (ρ 9 = .int .i64 ((k : Int) + 1) ∧ needR o j d = firstUp (needP o j d) (20 - k) k)) (20) ?_ ?_
      · refine ⟨AllEq.refl _ _, rfl, Ext.refl _, ?_⟩
        exact ⟨by rw [e9_9]; rfl, rfl⟩
      · rintro k r10 _ wk hk ⟨hA, rfl, xl4, e9, hN⟩
        obtain ⟨e1_10, e2_10, e3_10, e6_10, -⟩ := hA
        rw [e1_9] at e1_10
        rw [e2_9] at e2_10
        rw [e3_9] at e3_10
        rw [e6_9] at e6_10
        have zxl4 := Below.size xl4
        replace f3 := Ext.fz xl4 c3_0 f3
        replace f6 := Ext.fz xl4 c6_0 f6
        replace xw := Ext.trans xw xl4
        replace xq := Ext.trans xq xl4
        replace c3_0 := Ext.cell xl4 c3_0
        replace c3_1 := Ext.cell xl4 c3_1
        replace c6_0 := Ext.cell xl4 c6_0
        replace c6_1 := Ext.cell xl4 c6_1
        refine Wp.seq ?_
        refine Wp.seqRegion (.inl rfl) (by kernel_rfl) fun K' gd hK hg => ?_
        clear hg
        go_simp
        refine hK _ _ ?_
        clear hK K' gd
        refine Wp.keep [1, 2, 3, 6, 9, 23] fun r11 hkeep => ?_
        obtain ⟨e1_11, e2_11, e3_11, e6_11, e9_11, e23_11, -⟩ := hkeep
        simp [go_sem, e1_10, e2_10, e3_10, e6_10, e9] at e1_11 e2_11 e3_11 e6_11 e9_11 e23_11
        clear e1_10 e2_10 e3_10 e6_10 e9
        by_cases h : (k : Int) + 1 ≤ 20
        · refine Wp.condT (by go_simp) ?_
          have hg' := (hg.setC j (c := (k : Int) + 1) (by omega)).ok
          have he := endS_ok hg'
          refine Wp.skip ?_
          refine thenK_normal ?_
          refine Wp.seq ?_
          refine Wp.block ?_
          refine Wp.seqRegion (.inl rfl) (by kernel_rfl) fun K' gd hK hg => ?_
          clear hg
          refine Wops.cut 4 fun K1 hK1 => ?_
          simp only [List.take_succ_cons, List.take_zero]
          go_simp
          refine Wcall (.inl rfl) (moreR_c p o j ((k : Int) + 1) _ (hO.ext xq) hj (by omega)) ?_
          rintro v w5 ⟨a', rfl, hF, hE⟩
          have hO3 := hF.ord
          simp only [OA.cv, OA.rv]
          go_simp
          refine hK1 _ _ ?_
          clear hK1 K1
          simp only [List.drop_succ_cons, List.drop_zero]
          have z12 := Below.size hE
          replace f3 := Ext.fz hE c3_0 f3
          replace f6 := Ext.fz hE c6_0 f6
          replace xw := Ext.trans xw hE
          replace xq := Ext.trans xq hE
          replace xl4 := Ext.trans xl4 hE
          replace c3_0 := Ext.cell hE c3_0
          replace c3_1 := Ext.cell hE c3_1
          replace c6_0 := Ext.cell hE c6_0
          replace c6_1 := Ext.cell hE c6_1
          clear hE
          refine Wops.cut 1 fun K1 hK1 => ?_
          simp only [List.take_succ_cons, List.take_zero]
          go_simp
          refine Wcall (.inl rfl) (endR_c a' (o.setC j ((k : Int) + 1)) _ hO3) ?_
          rintro v w6 ⟨rfl, hE⟩
          go_simp
          refine hK1 _ _ ?_
          clear hK1 K1
          simp only [List.drop_succ_cons, List.drop_zero]
          have z13 := Below.size hE
          replace f3 := Ext.fz hE c3_0 f3
          replace f6 := Ext.fz hE c6_0 f6
          replace xw := Ext.trans xw hE
          replace xq := Ext.trans xq hE
          replace xl4 := Ext.trans xl4 hE
          replace c3_0 := Ext.cell hE c3_0
          replace c3_1 := Ext.cell hE c3_1
          replace c6_0 := Ext.cell hE c6_0
          replace c6_1 := Ext.cell hE c6_1
          clear hE
          go_simp
          refine hK _ _ ?_
          clear hK K' gd
          refine Wp.keep [1, 2, 3, 6, 9, 32] fun r14 hkeep => ?_
          obtain ⟨e1_14, e2_14, e3_14, e6_14, e9_14, e32_14, -⟩ := hkeep
          simp [go_sem, e1_11, e2_11, e3_11, e6_11, e9_11, e23_11] at e1_14 e2_14 e3_14 e6_14 e9_14 e32_14
          clear e1_11 e2_11 e3_11 e6_11 e9_11 e23_11
          by_cases hq : endS (o.setC j ((k : Int) + 1)) ≤ d
          · refine Wp.condT (by go_simp) ?_
            have hr : needR o j d = some k := by rw [hN, show 20 - k = (20 - k - 1) + 1 by omega]; unfold firstUp; rw [if_pos (by unfold needP; exact decide_eq_true hq)]
            refine Wp.seqRegion (.inl rfl) (by kernel_rfl) fun K' gd hK hg => ?_
            clear hg
            refine Wops.cut 3 fun K1 hK1 => ?_
            simp only [List.take_succ_cons, List.take_zero]
            go_simp
            refine hK1 _ _ ?_
            clear hK1 K1
            simp only [List.drop_succ_cons, List.drop_zero]
            refine Wops.absS (b := n6) (i := 0) [_, _] (somes [cellVal c6_0, cellVal c6_1] (by simp) (by intro j v hj; match j, hj with | 0, hj => (simp at hj; subst hj; exact c6_0) | 1, hj => (simp at hj; subst hj; exact c6_1))) fun P5 hP5 => ?_
            have zP5 := hP5.same
            replace f3 := Put.frz hP5 f3
            replace f6 := Put.frz hP5 f6
            replace xw := Put.to xw hP5 (by omega)
            clear xq
            clear xl4
            replace c3_0 := Put.cell hP5 c3_0 (by omega)
            replace c3_1 := Put.cell hP5 c3_1 (by omega)
            clear c6_0
            clear c6_1
            have c6_0 := hP5.new 0 _ rfl
            try simp only [Nat.reduceAdd, Nat.zero_add, Nat.add_zero] at c6_0
            have c6_1 := hP5.new 1 _ rfl
            try simp only [Nat.reduceAdd, Nat.zero_add, Nat.add_zero] at c6_1
            clear hP5
            try simp only [Wops_nil, updO_some, updO_none]
            refine hK _ _ ?_
            clear hK K' gd
            refine Wp.keep [6] fun r15 hkeep => ?_
            obtain ⟨e6_15, -⟩ := hkeep
            simp [go_sem, e1_14, e2_14, e3_14, e6_14, e9_14, e32_14] at e6_15
            clear e1_14 e2_14 e3_14 e6_14 e9_14 e32_14
            refine Wp.ret ?_
            refine blockK_ret ?_
            refine thenK_ret ?_
            refine thenK_ret ?_
            refine blockK_ret ?_
            refine thenK_ret ?_
            refine endK_cell (v := .agg #[cellVal c6_0, cellVal c6_1]) Tryz.results41 (by decide) e6_15 (by dsimp only [cellVal]; go_simp) ?_
            dsimp only [cellVal]
            refine ⟨by unfold needN needE; rw [if_pos hq0, if_pos hq0, Int.toNat_natCast, hr], xw⟩
          · refine Wp.condF (by go_simp) ?_
            refine Wp.skip ?_
            refine blockK_normal ?_
            refine thenK_normal ?_
            refine Wp.loneRegion (.inl rfl) (by kernel_rfl) fun K' gd hK hg => ?_
            clear hg
            go_simp
            refine hK _ _ ?_
            clear hK K' gd
            refine Ends.keep [1, 2, 3, 6, 9] fun r16 hkeep => ?_
            obtain ⟨e1_16, e2_16, e3_16, e6_16, e9_16, -⟩ := hkeep
            simp [go_sem, e1_14, e2_14, e3_14, e6_14, e9_14, e32_14] at e1_16 e2_16 e3_16 e6_16 e9_16
            clear e1_14 e2_14 e3_14 e6_14 e9_14 e32_14
            refine Ends.mk ?_
            refine thenK_normal ⟨by omega, ⟨by rw [e1_16, e1_9], by rw [e2_16, e2_9], by rw [e3_16, e3_9], by rw [e6_16, e6_9], trivial⟩, rfl, xl4, ?_⟩
            exact ⟨by rw [e9_16, IntWalk.i64_in _ (by omega)]; rfl, by rw [hN, show 20 - k = (20 - (k + 1)) + 1 by omega]; conv => lhs; unfold firstUp; rw [if_neg (by unfold needP; simpa using hq)]⟩
        · refine Wp.condF (by go_simp) ?_
          obtain rfl : k = 20 := by omega
          refine Wp.exit ?_
          refine thenK_exit ?_
          refine thenK_exit ?_
          refine blockK_here ?_
          refine thenK_normal ?_
          refine Wp.seqRegion (.inl rfl) (by kernel_rfl) fun K' gd hK hg => ?_
          clear hg
          refine Wops.cut 2 fun K1 hK1 => ?_
          simp only [List.take_succ_cons, List.take_zero]
          go_simp
          refine hK1 _ _ ?_
          clear hK1 K1
          simp only [List.drop_succ_cons, List.drop_zero]
          refine Wops.absS (b := n6) (i := 0) [_, _] (somes [cellVal c6_0, cellVal c6_1] (by simp) (by intro j v hj; match j, hj with | 0, hj => (simp at hj; subst hj; exact c6_0) | 1, hj => (simp at hj; subst hj; exact c6_1))) fun P6 hP6 => ?_
          have zP6 := hP6.same
          replace f3 := Put.frz hP6 f3
          replace f6 := Put.frz hP6 f6
          replace xw := Put.to xw hP6 (by omega)
          clear xq
          clear xl4
          replace c3_0 := Put.cell hP6 c3_0 (by omega)
          replace c3_1 := Put.cell hP6 c3_1 (by omega)
          clear c6_0
          clear c6_1
          have c6_0 := hP6.new 0 _ rfl
          try simp only [Nat.reduceAdd, Nat.zero_add, Nat.add_zero] at c6_0
          have c6_1 := hP6.new 1 _ rfl
          try simp only [Nat.reduceAdd, Nat.zero_add, Nat.add_zero] at c6_1
          clear hP6
          try simp only [Wops_nil, updO_some, updO_none]
          refine hK _ _ ?_
          clear hK K' gd
          refine Wp.keep [6] fun r17 hkeep => ?_
          obtain ⟨e6_17, -⟩ := hkeep
          simp [go_sem, e1_11, e2_11, e3_11, e6_11, e9_11, e23_11] at e6_17
          clear e1_11 e2_11 e3_11 e6_11 e9_11 e23_11
          refine Wp.ret ?_
          refine endK_cell (v := .agg #[cellVal c6_0, cellVal c6_1]) Tryz.results41 (by decide) e6_17 (by dsimp only [cellVal]; go_simp) ?_
          dsimp only [cellVal]
          refine ⟨by unfold needN needE; rw [if_pos hq0, if_pos hq0, Int.toNat_natCast, hN]; rfl, xw⟩
    · skip
      refine Wp.skip ?_
      refine thenK_normal ?_
      refine Wp.seqRegion (.inl rfl) (by kernel_rfl) fun K' gd hK hg => ?_
      clear hg
      refine Wops.cut 2 fun K1 hK1 => ?_
      simp only [List.take_succ_cons, List.take_zero]
      go_simp
      refine Wcall (.inl rfl) (withinR_F hd _) ?_
      rintro v w3 ⟨rfl, hE⟩
      go_simp
      refine hK1 _ _ ?_
      clear hK1 K1
      simp only [List.drop_succ_cons, List.drop_zero]
      have z18 := Below.size hE
      replace f3 := Ext.fz hE c3_0 f3
      replace f6 := Ext.fz hE c6_0 f6
      replace xw := Ext.trans xw hE
      replace c3_0 := Ext.cell hE c3_0
      replace c3_1 := Ext.cell hE c3_1
      replace c6_0 := Ext.cell hE c6_0
      replace c6_1 := Ext.cell hE c6_1
      clear hE
      go_simp
      refine hK _ _ ?_
      clear hK K' gd
      refine Wp.keep [1, 2, 3, 6, 8] fun r19 hkeep => ?_
      obtain ⟨e1_19, e2_19, e3_19, e6_19, e8_19, -⟩ := hkeep
      simp [go_sem, e1_5, e2_5, e3_5, e6_5, e7_5, e14_5] at e1_19 e2_19 e3_19 e6_19 e8_19
      clear e1_5 e2_5 e3_5 e6_5 e7_5 e14_5
      refine Wp.seq ?_
      refine Wp.seqRegion (.inl rfl) (by kernel_rfl) fun K' gd hK hg => ?_
      clear hg
      go_simp
      refine hK _ _ ?_
      clear hK K' gd
      refine Wp.keep [1, 2, 3, 6, 20] fun r20 hkeep => ?_
      obtain ⟨e1_20, e2_20, e3_20, e6_20, e20_20, -⟩ := hkeep
      simp [go_sem, e1_19, e2_19, e3_19, e6_19, e8_19] at e1_20 e2_20 e3_20 e6_20 e20_20
      clear e1_19 e2_19 e3_19 e6_19 e8_19
      refine Wp.condT (by go_simp) ?_
      have hq0 : ¬ askS o (okPiece o x && okDay d) = 0 := fun h => by have := (askS_zero.1 h).2; rw [Bool.and_eq_true] at this; unfold okDay at this; exact hd (of_decide_eq_true this.2)
      have hq1 : askS o (okPiece o x && okDay d) = 1 := by unfold askS at hq0 h0 ⊢; split at hq0 <;> rename_i h9; (rw [if_pos h9]; split at hq0; exact absurd rfl hq0; rename_i h8; rw [if_neg h8]); (rw [if_neg h9] at h0; exact absurd h0 h9)
      refine Wp.seqRegion (.inl rfl) (by kernel_rfl) fun K' gd hK hg => ?_
      clear hg
      refine Wops.cut 2 fun K1 hK1 => ?_
      simp only [List.take_succ_cons, List.take_zero]
      go_simp
      refine hK1 _ _ ?_
      clear hK1 K1
      simp only [List.drop_succ_cons, List.drop_zero]
      refine Wops.absS (b := n6) (i := 0) [_, _] (somes [cellVal c6_0, cellVal c6_1] (by simp) (by intro j v hj; match j, hj with | 0, hj => (simp at hj; subst hj; exact c6_0) | 1, hj => (simp at hj; subst hj; exact c6_1))) fun P7 hP7 => ?_
      have zP7 := hP7.same
      replace f3 := Put.frz hP7 f3
      replace f6 := Put.frz hP7 f6
      replace xw := Put.to xw hP7 (by omega)
      replace c3_0 := Put.cell hP7 c3_0 (by omega)
      replace c3_1 := Put.cell hP7 c3_1 (by omega)
      clear c6_0
      clear c6_1
      have c6_0 := hP7.new 0 _ rfl
      try simp only [Nat.reduceAdd, Nat.zero_add, Nat.add_zero] at c6_0
      have c6_1 := hP7.new 1 _ rfl
      try simp only [Nat.reduceAdd, Nat.zero_add, Nat.add_zero] at c6_1
      clear hP7
      try simp only [Wops_nil, updO_some, updO_none]
      refine hK _ _ ?_
      clear hK K' gd
      refine Wp.keep [6] fun r21 hkeep => ?_
      obtain ⟨e6_21, -⟩ := hkeep
      simp [go_sem, e1_20, e2_20, e3_20, e6_20, e20_20] at e6_21
      clear e1_20 e2_20 e3_20 e6_20 e20_20
      refine Wp.ret ?_
      refine thenK_ret ?_
      refine endK_cell (v := .agg #[cellVal c6_0, cellVal c6_1]) Tryz.results41 (by decide) e6_21 (by dsimp only [cellVal]; go_simp) ?_
      dsimp only [cellVal]
      exact ⟨by unfold needN needE; rw [if_neg hq0, if_neg hq0, hq1], xw⟩
  · skip
    refine Wp.seq ?_
    refine Wp.seqRegion (.inl rfl) (by kernel_rfl) fun K' gd hK hg => ?_
    clear hg
    go_simp
    refine hK _ _ ?_
    clear hK K' gd
    refine Wp.keep [1, 2, 3, 6, 7, 14] fun r22 hkeep => ?_
    obtain ⟨e1_22, e2_22, e3_22, e6_22, e7_22, e14_22, -⟩ := hkeep
    simp [go_sem, e1_4, e2_4, e3_4, e6_4, e7_4] at e1_22 e2_22 e3_22 e6_22 e7_22 e14_22
    clear e1_4 e2_4 e3_4 e6_4 e7_4
    refine Wp.condT (by go_simp) ?_
    have hq1 : askS o (okPiece o x && okDay d) = askS o (okPiece o x) := by unfold askS at h0 ⊢; split; (rename_i h9; rw [if_pos h9] at h0; by_cases hp : okPiece o x = true; (rw [if_pos hp] at h0; exact absurd rfl h0); (rw [if_neg hp, if_neg (by rw [Bool.and_eq_true]; exact fun h => hp h.1)])); rfl
    have hq0 : ¬ askS o (okPiece o x && okDay d) = 0 := by rw [hq1]; exact h0
    refine Wp.seqRegion (.inl rfl) (by kernel_rfl) fun K' gd hK hg => ?_
    clear hg
    refine Wops.cut 3 fun K1 hK1 => ?_
    simp only [List.take_succ_cons, List.take_zero]
    go_simp
    refine hK1 _ _ ?_
    clear hK1 K1
    simp only [List.drop_succ_cons, List.drop_zero]
    refine Wops.absS (b := n6) (i := 0) [_, _] (somes [cellVal c6_0, cellVal c6_1] (by simp) (by intro j v hj; match j, hj with | 0, hj => (simp at hj; subst hj; exact c6_0) | 1, hj => (simp at hj; subst hj; exact c6_1))) fun P8 hP8 => ?_
    have zP8 := hP8.same
    replace f3 := Put.frz hP8 f3
    replace f6 := Put.frz hP8 f6
    replace xw := Put.to xw hP8 (by omega)
    replace c3_0 := Put.cell hP8 c3_0 (by omega)
    replace c3_1 := Put.cell hP8 c3_1 (by omega)
    clear c6_0
    clear c6_1
    have c6_0 := hP8.new 0 _ rfl
    try simp only [Nat.reduceAdd, Nat.zero_add, Nat.add_zero] at c6_0
    have c6_1 := hP8.new 1 _ rfl
    try simp only [Nat.reduceAdd, Nat.zero_add, Nat.add_zero] at c6_1
    clear hP8
    try simp only [Wops_nil, updO_some, updO_none]
    refine hK _ _ ?_
    clear hK K' gd
    refine Wp.keep [6] fun r23 hkeep => ?_
    obtain ⟨e6_23, -⟩ := hkeep
    simp [go_sem, e1_22, e2_22, e3_22, e6_22, e7_22, e14_22] at e6_23
    clear e1_22 e2_22 e3_22 e6_22 e7_22 e14_22
    refine Wp.ret ?_
    refine thenK_ret ?_
    refine endK_cell (v := .agg #[cellVal c6_0, cellVal c6_1]) Tryz.results41 (by decide) e6_23 (by dsimp only [cellVal]; go_simp) ?_
    dsimp only [cellVal]
    exact ⟨by unfold needN needE; rw [if_neg hq0, if_neg hq0, hq1], xw⟩
end Go.Proofs.YtnfagcccgmakdaaGreat
namespace Go.Proofs.YtnfagcccgmakdaaGreat
open Go.RowKit Go.Wk Go.Proofs
attribute [local irreducible] Go.Wk.Wops Go.Wk.Wp Go.Wk.Mtree Go.Wk.Mops
set_option maxHeartbeats 4000000

/-- an order with no list of more than 1000 -/
def Fits3 (o : Ord) : Prop := o.cop.length ≤ 1000 ∧ o.runs.length ≤ 1000 ∧ ∀ k (h : k < o.runs.length), o.runs[k].takes.length ≤ 1000
theorem OrdGood.fits3 {o : Ord} (h : OrdGood o) : Fits3 o := ⟨by have := h.m2; omega, by have := h.n2; omega, fun k hk => by rw [(h.runs _ (List.getElem_mem hk)).len]; have := h.m2; omega⟩
theorem noOrd_fits3 : Fits3 noOrd := ⟨Nat.zero_le _, Nat.zero_le _, fun k hk => absurd hk (Nat.not_lt_zero _)⟩
theorem same_O (v1 v2 : Value) (o : Ord) (w : World) (h1 : OrderV w w.heap.size v1 o) (h2 : OrderV w w.heap.size v2 o) (hn : Fits3 o) :
    CallsV Tryz.prog 35 #[v1, v2] w fun v w' => v = .bool true ∧ Ext w w' := by
  obtain ⟨_, _, rfl, hI1, ⟨L1, g1, tv1, rfl, hx1, ht1, -⟩⟩ := h1
  obtain ⟨_, _, rfl, hI2, ⟨L2, g2, tv2, rfl, hx2, ht2, -⟩⟩ := h2
  obtain ⟨C1, e1, rfl, -⟩ := id hI1
  obtain ⟨C2, e2, rfl, -⟩ := id hI2
  obtain ⟨hn1, hn2, hn3⟩ := hn
  refine Wp.fn Tryz.func35 rfl Tryz.ntmps35 (by simp) ?_
  have xw := Ext.refl w
  refine Wp.keep [0, 1] fun r1 hkeep => ?_
  obtain ⟨e0_1, e1_1, -⟩ := hkeep
  simp [go_sem] at e0_1 e1_1
  refine Wp.seqRegion (.inl rfl) (by kernel_rfl) fun K' gd hK hg => ?_
  clear hg
  refine Wops.cut 1 fun K1 hK1 => ?_
  simp only [List.take_succ_cons, List.take_zero]
  go_simp
  refine hK1 _ _ ?_
  clear hK1 K1
  simp only [List.drop_succ_cons, List.drop_zero]
  refine Wops.absA fun V2_1 n2 hV2_1 => ?_
  obtain ⟨q2, hV2_1, s2, kV2_1, f2, r2⟩ := hV2_1
  try simp only [q2] at kV2_1 f2 r2 ⊢
  replace xw := Ext.trans xw hV2_1
  have c2_0 := kV2_1 0 _ rfl
  have c2_1 := kV2_1 1 _ rfl
  clear kV2_1 hV2_1
  clear r2
  refine Wops.cut 1 fun K1 hK1 => ?_
  simp only [List.take_succ_cons, List.take_zero]
  go_simp
  refine hK1 _ _ ?_
  clear hK1 K1
  simp only [List.drop_succ_cons, List.drop_zero]
  refine Wops.absA fun V3_2 n3 hV3_2 => ?_
  obtain ⟨q3, hV3_2, s3, kV3_2, f3, r3⟩ := hV3_2
  try simp only [q3] at kV3_2 f3 r3 ⊢
  replace f2 := Ext.fz hV3_2 c2_0 f2
  replace xw := Ext.trans xw hV3_2
  replace c2_0 := Ext.cell hV3_2 c2_0
  replace c2_1 := Ext.cell hV3_2 c2_1
  have c3_0 := kV3_2 0 _ rfl
  have c3_1 := kV3_2 1 _ rfl
  clear kV3_2 hV3_2
  clear r3
  go_simp
  refine hK _ _ ?_
  clear hK K' gd
  refine Wp.keep [2, 3] fun r2 hkeep => ?_
  obtain ⟨e2_2, e3_2, -⟩ := hkeep
  simp [go_sem, e0_1, e1_1] at e2_2 e3_2
  clear e0_1 e1_1
  refine Wp.seqRegion (.inl rfl) (by kernel_rfl) fun K' gd hK hg => ?_
  clear hg
  refine Wops.cut 5 fun K1 hK1 => ?_
  simp only [List.take_succ_cons, List.take_zero]
  go_simp
  refine Wcall (.inl rfl) (same_I _ _ o.cop _ (hI1.ext xw) (hI2.ext xw) hn1) ?_
  rintro v w2 ⟨rfl, hE⟩
  go_simp
  refine hK1 _ _ ?_
  clear hK1 K1
  simp only [List.drop_succ_cons, List.drop_zero]
  have z3 := Below.size hE
  replace f2 := Ext.fz hE c2_0 f2
  replace f3 := Ext.fz hE c3_0 f3
  replace xw := Ext.trans xw hE
  replace c2_0 := Ext.cell hE c2_0
  replace c2_1 := Ext.cell hE c2_1
  replace c3_0 := Ext.cell hE c3_0
  replace c3_1 := Ext.cell hE c3_1
  clear hE
  go_simp
  refine hK _ _ ?_
  clear hK K' gd
  refine Wp.keep [2, 3, 5] fun r4 hkeep => ?_
  obtain ⟨e2_4, e3_4, e5_4, -⟩ := hkeep
  simp [go_sem, e2_2, e3_2] at e2_4 e3_4 e5_4
  clear e2_2 e3_2
  refine Wp.seq ?_
  refine Wp.seqRegion (.inl rfl) (by kernel_rfl) fun K' gd hK hg => ?_
  have g2 : gd 2 = some 15 := hg 2
  clear hg
  go_simp
  refine hK _ _ ?_
  clear hK K' gd g2
  refine Wp.keep [2, 3, 23] fun r5 hkeep => ?_
  obtain ⟨e2_5, e3_5, e23_5, -⟩ := hkeep
  simp [go_sem, e2_4, e3_4, e5_4] at e2_5 e3_5 e23_5
  clear e2_4 e3_4 e5_4
  refine Wp.condF (by go_simp) ?_
  refine Wp.skip ?_
  refine thenK_normal ?_
  refine Wp.seq ?_
  refine Wp.seqRegion (.inl rfl) (by kernel_rfl) fun K' gd hK hg => ?_
  clear hg
  go_simp
  refine hK _ _ ?_
  clear hK K' gd
  refine Wp.keep [2, 3, 6] fun r6 hkeep => ?_
  obtain ⟨e2_6, e3_6, e6_6, -⟩ := hkeep
  simp [go_sem, e2_5, e3_5, e23_5] at e2_6 e3_6 e6_6
  clear e2_5 e3_5 e23_5
  refine Wp.block ?_
  refine Wp.loop (fun k ρ ds wk => AllEq [2, 3] ρ r6 ∧ ds = [] ∧ (Ext w2 wk) ∧ (ρ 6 = .int .i64 (k : Int))) (o.runs.length) ?_ ?_
  · refine ⟨AllEq.refl _ _, rfl, Ext.refl _, ?_⟩
    rw [e6_6]; rfl
  · rintro k r7 _ wk hk ⟨hA, rfl, xl3, e6⟩
    obtain ⟨e2_7, e3_7, -⟩ := hA
    rw [e2_6] at e2_7
    rw [e3_6] at e3_7
    have zxl3 := Below.size xl3
    replace f2 := Ext.fz xl3 c2_0 f2
    replace f3 := Ext.fz xl3 c3_0 f3
    replace xw := Ext.trans xw xl3
    replace c2_0 := Ext.cell xl3 c2_0
    replace c2_1 := Ext.cell xl3 c2_1
    replace c3_0 := Ext.cell xl3 c3_0
    replace c3_1 := Ext.cell xl3 c3_1
    refine Wp.seq ?_
    refine Wp.seqRegion (.inl rfl) (by kernel_rfl) fun K' gd hK hg => ?_
    clear hg
    go_simp
    refine hK _ _ ?_
    clear hK K' gd
    refine Wp.keep [2, 3, 6, 28] fun r8 hkeep => ?_
    obtain ⟨e2_8, e3_8, e6_8, e28_8, -⟩ := hkeep
    simp [go_sem, e2_7, e3_7, e6] at e2_8 e3_8 e6_8 e28_8
    clear e2_7 e3_7 e6
    by_cases h : k < o.runs.length
    · refine Wp.condT (by go_simp) ?_
      obtain ⟨b1, o1, rfl, -, hc1⟩ := hx1 (by intro e; rw [e] at h; exact absurd h (Nat.not_lt_zero _))
      obtain ⟨b2, o2, rfl, -, hc2⟩ := hx2 (by intro e; rw [e] at h; exact absurd h (Nat.not_lt_zero _))
      have x1 := xw.cell (hc1 k h).1
      have x2 := xw.cell (hc1 k h).2.1
      have x3 := xw.cell (hc1 k h).2.2
      have y1 := xw.cell (hc2 k h).1
      have y2 := xw.cell (hc2 k h).2.1
      have y3 := xw.cell (hc2 k h).2.2
      have i1 := ht1 k h
      have i2 := ht2 k h
      have hl := hn3 k h
      have b3 : (k : Int) < (o.runs.length : Int) := by omega
      obtain ⟨r, hr⟩ : ∃ r, o.runs[k] = r := ⟨_, rfl⟩
      rw [hr] at x1 x2 y1 y2 i1 i2 hl
      clear hr
      refine Wp.skip ?_
      refine thenK_normal ?_
      refine Wp.seq ?_
      refine Wp.block ?_
      refine Wp.seqDraw (.inl rfl) mixed [([0, 1, 2, 3, 4], none), ([5, 6, 7, 8, 9], none), ([10, 11], some (12, false)), ([13], none)] (by kernel_rfl) fun K' gd hK hg => ?_
      clear hg
      simp only [pick, nth, List.map_cons, List.map_nil, Option.map_none, Option.map_some]
      refine Mops.absD fun D4 hD4 zD4 => ?_
      replace f2 := Ext.fz hD4 c2_0 f2
      replace f3 := Ext.fz hD4 c3_0 f3
      replace xw := Ext.trans xw hD4
      replace xl3 := Ext.trans xl3 hD4
      replace c2_0 := Ext.cell hD4 c2_0
      replace c2_1 := Ext.cell hD4 c2_1
      replace c3_0 := Ext.cell hD4 c3_0
      replace c3_1 := Ext.cell hD4 c3_1
      replace x1 := Ext.cell hD4 x1
      replace x2 := Ext.cell hD4 x2
      replace x3 := Ext.cell hD4 x3
      replace y1 := Ext.cell hD4 y1
      replace y2 := Ext.cell hD4 y2
      replace y3 := Ext.cell hD4 y3
      clear hD4
      apply Mops.none
      · intro w' hE'
        have hC' := hE'.cellsS
        go_simp
        with_reducible rfl
      apply Mops.none
      · intro w' hE'
        have hC' := hE'.cellsS
        go_simp
        with_reducible rfl
      apply Mops.act
      · intro w' hE'
        have hC' := hE'.cellsS
        go_simp
        with_reducible rfl
      intro K1 hK1
      go_simp
      refine Wcall (.inl rfl) (same_I _ _ r.takes _ (i1.ext xw) (i2.ext xw) hl) ?_
      rintro v w3 ⟨rfl, hE⟩
      go_simp
      refine hK1 _ _ (by assumption) ?_
      clear hK1 K1
      have z9 := Below.size hE
      replace f2 := Ext.fz hE c2_0 f2
      replace f3 := Ext.fz hE c3_0 f3
      replace xw := Ext.trans xw hE
      replace xl3 := Ext.trans xl3 hE
      replace c2_0 := Ext.cell hE c2_0
      replace c2_1 := Ext.cell hE c2_1
      replace c3_0 := Ext.cell hE c3_0
      replace c3_1 := Ext.cell hE c3_1
      replace x1 := Ext.cell hE x1
      replace x2 := Ext.cell hE x2
      replace x3 := Ext.cell hE x3
      replace y1 := Ext.cell hE y1
      replace y2 := Ext.cell hE y2
      replace y3 := Ext.cell hE y3
      clear hE
      apply Mops.none
      · intro w' hE'
        have hC' := hE'.cellsS
        go_simp
        with_reducible rfl
      refine Mops.done ?_
      refine hK _ _ ?_
      clear hK K' gd
      refine Wp.keep [2, 3, 6, 7] fun r10 hkeep => ?_
      obtain ⟨e2_10, e3_10, e6_10, e7_10, -⟩ := hkeep
      simp [go_sem, e2_8, e3_8, e6_8, e28_8] at e2_10 e3_10 e6_10 e7_10
      clear e2_8 e3_8 e6_8 e28_8
      refine Wp.seqDraw (.inl rfl) mixed [([0, 1, 2], none), ([3, 4, 5, 6, 7], none), ([8, 9, 10, 11, 12], none), ([13, 14, 15, 16, 17], none), ([18, 19, 20, 21, 22], none), ([23, 24, 25, 26, 27], none), ([28, 29, 30, 31], none)] (by kernel_rfl) fun K' gd hK hg => ?_
      have g2 : gd 2 = some 46 := hg 2
      have g17 : gd 17 = some 61 := hg 17
      clear hg
      simp only [pick, nth, List.map_cons, List.map_nil, Option.map_none, Option.map_some]
      refine Mops.absD fun D5 hD5 zD5 => ?_
      replace f2 := Ext.fz hD5 c2_0 f2
      replace f3 := Ext.fz hD5 c3_0 f3
      replace xw := Ext.trans xw hD5
      replace xl3 := Ext.trans xl3 hD5
      replace c2_0 := Ext.cell hD5 c2_0
      replace c2_1 := Ext.cell hD5 c2_1
      replace c3_0 := Ext.cell hD5 c3_0
      replace c3_1 := Ext.cell hD5 c3_1
      replace x1 := Ext.cell hD5 x1
      replace x2 := Ext.cell hD5 x2
      replace x3 := Ext.cell hD5 x3
      replace y1 := Ext.cell hD5 y1
      replace y2 := Ext.cell hD5 y2
      replace y3 := Ext.cell hD5 y3
      clear hD5
      apply Mops.none
      · intro w' hE'
        have hC' := hE'.cellsS
        go_simp
        with_reducible rfl
      apply Mops.none
      · intro w' hE'
        have hC' := hE'.cellsS
        go_simp
        with_reducible rfl
      apply Mops.none
      · intro w' hE'
        have hC' := hE'.cellsS
        go_simp
        with_reducible rfl
      apply Mops.none
      · intro w' hE'
        have hC' := hE'.cellsS
        go_simp
        with_reducible rfl
      apply Mops.none
      · intro w' hE'
        have hC' := hE'.cellsS
        go_simp
        with_reducible rfl
      apply Mops.none
      · intro w' hE'
        have hC' := hE'.cellsS
        go_simp
        with_reducible rfl
      apply Mops.none
      · intro w' hE'
        have hC' := hE'.cellsS
        go_simp
        with_reducible rfl
      refine Mops.done ?_
      refine hK _ _ ?_
      clear hK K' gd g2 g17
      refine Wp.keep [2, 3, 6, 75] fun r11 hkeep => ?_
      obtain ⟨e2_11, e3_11, e6_11, e75_11, -⟩ := hkeep
      simp [go_sem, e2_10, e3_10, e6_10, e7_10] at e2_11 e3_11 e6_11 e75_11
      clear e2_10 e3_10 e6_10 e7_10
      refine Wp.condF (by go_simp) ?_
      refine Wp.skip ?_
      refine blockK_normal ?_
      refine thenK_normal ?_
      refine Wp.loneRegion (.inl rfl) (by kernel_rfl) fun K' gd hK hg => ?_
      clear hg
      go_simp
      refine hK _ _ ?_
      clear hK K' gd
      refine Ends.keep [2, 3, 6] fun r12 hkeep => ?_
      obtain ⟨e2_12, e3_12, e6_12, -⟩ := hkeep
      simp [go_sem, e2_11, e3_11, e6_11, e75_11] at e2_12 e3_12 e6_12
      clear e2_11 e3_11 e6_11 e75_11
      refine Ends.mk ?_
      refine thenK_normal ⟨by omega, ⟨by rw [e2_12, e2_6], by rw [e3_12, e3_6], trivial⟩, rfl, xl3, ?_⟩
      rw [e6_12, IntWalk.i64_in _ (by omega)]; rfl
    · refine Wp.condF (by go_simp) ?_
      refine Wp.exit ?_
      refine thenK_exit ?_
      refine thenK_exit ?_
      refine blockK_here ?_
      refine thenK_normal ?_
      refine Wp.seqRegion (.inl rfl) (by kernel_rfl) fun K' gd hK hg => ?_
      clear hg
      go_simp
      refine hK _ _ ?_
      clear hK K' gd
      refine Wp.keep [4] fun r13 hkeep => ?_
      obtain ⟨e4_13, -⟩ := hkeep
      simp [go_sem, e2_8, e3_8, e6_8, e28_8] at e4_13
      clear e2_8 e3_8 e6_8 e28_8
      refine Wp.ret ?_
      refine endK_tmp Tryz.results35 (by decide) ?_
      rw [e4_13]
      exact ⟨rfl, xw⟩
end Go.Proofs.YtnfagcccgmakdaaGreat
namespace Go.Proofs.YtnfagcccgmakdaaGreat
open Go.RowKit Go.Wk Go.Proofs
attribute [local irreducible] Go.Wk.Wops Go.Wk.Wp Go.Wk.Mtree Go.Wk.Mops
set_option maxHeartbeats 4000000

theorem moreO_fits3 (o : Ord) (x : Int) : Fits3 (moreO o x) := by
  by_cases h : moreE o x = 0
  · exact (moreO_good h).fits3
  · unfold moreO; rw [if_neg h]; exact noOrd_fits3
theorem copies_c (v : Value) (o : Ord) (x d : Int) (w : World) (hV : OrderV w w.heap.size v o) (hf : Fits o) :
    CallsV Tryz.prog 5 #[v, .int .i64 x, .int .i64 d] w fun v w' => v = .bool true ∧ Ext w w' := by
  obtain ⟨L1, k1, d1, L2, k2, d2, rfl, hV⟩ := hV.two
  refine Wp.fn Tryz.func5 rfl Tryz.ntmps5 (by simp) ?_
  have xw := Ext.refl w
  refine Wp.keep [0, 1, 2] fun r1 hkeep => ?_
  obtain ⟨e0_1, e1_1, e2_1, -⟩ := hkeep
  simp [go_sem] at e0_1 e1_1 e2_1
  by_cases hs : FewP o
  · skip
    refine Wp.seqRegion (.inl rfl) (by kernel_rfl) fun K' gd hK hg => ?_
    clear hg
    refine Wops.cut 1 fun K1 hK1 => ?_
    simp only [List.take_succ_cons, List.take_zero]
    go_simp
    refine hK1 _ _ ?_
    clear hK1 K1
    simp only [List.drop_succ_cons, List.drop_zero]
    refine Wops.absA fun V3_1 n3 hV3_1 => ?_
    obtain ⟨q3, hV3_1, s3, kV3_1, f3, r3⟩ := hV3_1
    try simp only [q3] at kV3_1 f3 r3 ⊢
    replace xw := Ext.trans xw hV3_1
    have c3_0 := kV3_1 0 _ rfl
    have c3_1 := kV3_1 1 _ rfl
    clear kV3_1 hV3_1
    clear r3
    go_simp
    refine hK _ _ ?_
    clear hK K' gd
    refine Wp.keep [1, 2, 3] fun r2 hkeep => ?_
    obtain ⟨e1_2, e2_2, e3_2, -⟩ := hkeep
    simp [go_sem, e0_1, e1_1, e2_1] at e1_2 e2_2 e3_2
    clear e0_1 e1_1 e2_1
    refine Wp.seq ?_
    refine Wp.seqRegion (.inl rfl) (by kernel_rfl) fun K' gd hK hg => ?_
    clear hg
    refine Wops.cut 2 fun K1 hK1 => ?_
    simp only [List.take_succ_cons, List.take_zero]
    go_simp
    refine Wcall (.inl rfl) (few_T hs _ (hV.ext xw) hf) ?_
    rintro v w2 ⟨rfl, hE⟩
    go_simp
    refine hK1 _ _ ?_
    clear hK1 K1
    simp only [List.drop_succ_cons, List.drop_zero]
    have z3 := Below.size hE
    replace f3 := Ext.fz hE c3_0 f3
    replace xw := Ext.trans xw hE
    replace c3_0 := Ext.cell hE c3_0
    replace c3_1 := Ext.cell hE c3_1
    clear hE
    go_simp
    refine hK _ _ ?_
    clear hK K' gd
    refine Wp.keep [1, 2, 3, 18] fun r4 hkeep => ?_
    obtain ⟨e1_4, e2_4, e3_4, e18_4, -⟩ := hkeep
    simp [go_sem, e1_2, e2_2, e3_2] at e1_4 e2_4 e3_4 e18_4
    clear e1_2 e2_2 e3_2
    refine Wp.condF (by go_simp) ?_
    refine Wp.skip ?_
    refine thenK_normal ?_
    refine Wp.seqRegion (.inl rfl) (by kernel_rfl) fun K' gd hK hg => ?_
    clear hg
    refine Wops.cut 3 fun K1 hK1 => ?_
    simp only [List.take_succ_cons, List.take_zero]
    go_simp
    refine Wcall (.inl rfl) (More_c _ o x _ (hV.ext xw) hf) ?_
    rintro v w3 ⟨v0, rfl, hM, hE⟩
    obtain ⟨B1, m1, e1, B2, m2, e2, rfl, hM⟩ := hM.two
    go_simp
    refine hK1 _ _ ?_
    clear hK1 K1
    simp only [List.drop_succ_cons, List.drop_zero]
    have z5 := Below.size hE
    replace f3 := Ext.fz hE c3_0 f3
    replace xw := Ext.trans xw hE
    replace c3_0 := Ext.cell hE c3_0
    replace c3_1 := Ext.cell hE c3_1
    clear hE
    refine Wops.cut 5 fun K1 hK1 => ?_
    simp only [List.take_succ_cons, List.take_zero]
    go_simp
    refine hK1 _ _ ?_
    clear hK1 K1
    simp only [List.drop_succ_cons, List.drop_zero]
    refine Wops.absA fun V7_2 n7 hV7_2 => ?_
    obtain ⟨q7, hV7_2, s7, kV7_2, f7, r7⟩ := hV7_2
    try simp only [q7] at kV7_2 f7 r7 ⊢
    replace f3 := Ext.fz hV7_2 c3_0 f3
    replace hM := hM.ext hV7_2
    replace xw := Ext.trans xw hV7_2
    replace c3_0 := Ext.cell hV7_2 c3_0
    replace c3_1 := Ext.cell hV7_2 c3_1
    have c7_0 := kV7_2 0 _ rfl
    have c7_1 := kV7_2 1 _ rfl
    clear kV7_2 hV7_2
    clear r7
    go_simp
    refine hK _ _ ?_
    clear hK K' gd
    refine Wp.keep [1, 2, 3, 7, 8] fun r6 hkeep => ?_
    obtain ⟨e1_6, e2_6, e3_6, e7_6, e8_6, -⟩ := hkeep
    simp [go_sem, e1_4, e2_4, e3_4, e18_4] at e1_6 e2_6 e3_6 e7_6 e8_6
    clear e1_4 e2_4 e3_4 e18_4
    refine Wp.seqRegion (.inl rfl) (by kernel_rfl) fun K' gd hK hg => ?_
    clear hg
    refine Wops.cut 3 fun K1 hK1 => ?_
    simp only [List.take_succ_cons, List.take_zero]
    go_simp
    refine Wcall (.inl rfl) (moreS_c _ o x _ (hV.ext xw) hf) ?_
    rintro v w4 ⟨G1, m3, e3, G2, m4, e4, rfl, hN, hE⟩
    go_simp
    refine hK1 _ _ ?_
    clear hK1 K1
    simp only [List.drop_succ_cons, List.drop_zero]
    have z7 := Below.size hE
    replace f3 := Ext.fz hE c3_0 f3
    replace f7 := Ext.fz hE c7_0 f7
    replace hM := hM.ext hE
    replace xw := Ext.trans xw hE
    replace c3_0 := Ext.cell hE c3_0
    replace c3_1 := Ext.cell hE c3_1
    replace c7_0 := Ext.cell hE c7_0
    replace c7_1 := Ext.cell hE c7_1
    clear hE
    refine Wops.cut 2 fun K1 hK1 => ?_
    simp only [List.take_succ_cons, List.take_zero]
    go_simp
    refine hK1 _ _ ?_
    clear hK1 K1
    simp only [List.drop_succ_cons, List.drop_zero]
    refine Wops.absA fun V9_3 n9 hV9_3 => ?_
    obtain ⟨q9, hV9_3, s9, kV9_3, f9, r9⟩ := hV9_3
    try simp only [q9] at kV9_3 f9 r9 ⊢
    replace f3 := Ext.fz hV9_3 c3_0 f3
    replace f7 := Ext.fz hV9_3 c7_0 f7
    replace hM := hM.ext hV9_3
    replace hN := hN.ext hV9_3
    replace xw := Ext.trans xw hV9_3
    replace c3_0 := Ext.cell hV9_3 c3_0
    replace c3_1 := Ext.cell hV9_3 c3_1
    replace c7_0 := Ext.cell hV9_3 c7_0
    replace c7_1 := Ext.cell hV9_3 c7_1
    have c9_0 := kV9_3 0 _ rfl
    have c9_1 := kV9_3 1 _ rfl
    have c9_2 := kV9_3 2 _ rfl
    clear kV9_3 hV9_3
    clear r9
    try simp only [Wops_nil, updO_some, updO_none]
    refine hK _ _ ?_
    clear hK K' gd
    refine Wp.keep [1, 2, 3, 7, 8, 9] fun r8 hkeep => ?_
    obtain ⟨e1_8, e2_8, e3_8, e7_8, e8_8, e9_8, -⟩ := hkeep
    simp [go_sem, e1_6, e2_6, e3_6, e7_6, e8_6] at e1_8 e2_8 e3_8 e7_8 e8_8 e9_8
    clear e1_6 e2_6 e3_6 e7_6 e8_6
    refine Wp.seqRegion (.inl rfl) (by kernel_rfl) fun K' gd hK hg => ?_
    clear hg
    refine Wops.cut 3 fun K1 hK1 => ?_
    simp only [List.take_succ_cons, List.take_zero]
    go_simp
    refine Wcall (.inl rfl) (Save_c _ o x _ (hV.ext xw) hf) ?_
    rintro v w5 ⟨rfl, hE⟩
    go_simp
    refine hK1 _ _ ?_
    clear hK1 K1
    simp only [List.drop_succ_cons, List.drop_zero]
    have z9 := Below.size hE
    replace f3 := Ext.fz hE c3_0 f3
    replace f7 := Ext.fz hE c7_0 f7
    replace f9 := Ext.fz hE c9_0 f9
    replace hM := hM.ext hE
    replace hN := hN.ext hE
    replace xw := Ext.trans xw hE
    replace c3_0 := Ext.cell hE c3_0
    replace c3_1 := Ext.cell hE c3_1
    replace c7_0 := Ext.cell hE c7_0
    replace c7_1 := Ext.cell hE c7_1
    replace c9_0 := Ext.cell hE c9_0
    replace c9_1 := Ext.cell hE c9_1
    replace c9_2 := Ext.cell hE c9_2
    clear hE
    go_simp
    refine hK _ _ ?_
    clear hK K' gd
    refine Wp.keep [1, 2, 3, 7, 8, 9, 10, 11] fun r10 hkeep => ?_
    obtain ⟨e1_10, e2_10, e3_10, e7_10, e8_10, e9_10, e10_10, e11_10, -⟩ := hkeep
    simp [go_sem, e1_8, e2_8, e3_8, e7_8, e8_8, e9_8] at e1_10 e2_10 e3_10 e7_10 e8_10 e9_10 e10_10 e11_10
    clear e1_8 e2_8 e3_8 e7_8 e8_8 e9_8
    refine Wp.seqRegion (.inl rfl) (by kernel_rfl) fun K' gd hK hg => ?_
    clear hg
    refine Wops.cut 3 fun K1 hK1 => ?_
    simp only [List.take_succ_cons, List.take_zero]
    go_simp
    refine Wcall (.inl rfl) (saveS_c _ o x _ (hV.ext xw) hf) ?_
    rintro v w6 ⟨rfl, hE⟩
    go_simp
    refine hK1 _ _ ?_
    clear hK1 K1
    simp only [List.drop_succ_cons, List.drop_zero]
    have z11 := Below.size hE
    replace f3 := Ext.fz hE c3_0 f3
    replace f7 := Ext.fz hE c7_0 f7
    replace f9 := Ext.fz hE c9_0 f9
    replace hM := hM.ext hE
    replace hN := hN.ext hE
    replace xw := Ext.trans xw hE
    replace c3_0 := Ext.cell hE c3_0
    replace c3_1 := Ext.cell hE c3_1
    replace c7_0 := Ext.cell hE c7_0
    replace c7_1 := Ext.cell hE c7_1
    replace c9_0 := Ext.cell hE c9_0
    replace c9_1 := Ext.cell hE c9_1
    replace c9_2 := Ext.cell hE c9_2
    clear hE
    refine Wops.cut 2 fun K1 hK1 => ?_
    simp only [List.take_succ_cons, List.take_zero]
    go_simp
    refine hK1 _ _ ?_
    clear hK1 K1
    simp only [List.drop_succ_cons, List.drop_zero]
    refine Wops.absA fun V12_4 n12 hV12_4 => ?_
    obtain ⟨q12, hV12_4, s12, kV12_4, f12, r12⟩ := hV12_4
    try simp only [q12] at kV12_4 f12 r12 ⊢
    replace f3 := Ext.fz hV12_4 c3_0 f3
    replace f7 := Ext.fz hV12_4 c7_0 f7
    replace f9 := Ext.fz hV12_4 c9_0 f9
    replace hM := hM.ext hV12_4
    replace hN := hN.ext hV12_4
    replace xw := Ext.trans xw hV12_4
    replace c3_0 := Ext.cell hV12_4 c3_0
    replace c3_1 := Ext.cell hV12_4 c3_1
    replace c7_0 := Ext.cell hV12_4 c7_0
    replace c7_1 := Ext.cell hV12_4 c7_1
    replace c9_0 := Ext.cell hV12_4 c9_0
    replace c9_1 := Ext.cell hV12_4 c9_1
    replace c9_2 := Ext.cell hV12_4 c9_2
    have c12_0 := kV12_4 0 _ rfl
    have c12_1 := kV12_4 1 _ rfl
    clear kV12_4 hV12_4
    clear r12
    try simp only [Wops_nil, updO_some, updO_none]
    refine hK _ _ ?_
    clear hK K' gd
    refine Wp.keep [1, 2, 3, 7, 8, 9, 10, 11, 12] fun r12 hkeep => ?_
    obtain ⟨e1_12, e2_12, e3_12, e7_12, e8_12, e9_12, e10_12, e11_12, e12_12, -⟩ := hkeep
    simp [go_sem, e1_10, e2_10, e3_10, e7_10, e8_10, e9_10, e10_10, e11_10] at e1_12 e2_12 e3_12 e7_12 e8_12 e9_12 e10_12 e11_12 e12_12
    clear e1_10 e2_10 e3_10 e7_10 e8_10 e9_10 e10_10 e11_10
    refine Wp.seqRegion (.inl rfl) (by kernel_rfl) fun K' gd hK hg => ?_
    clear hg
    refine Wops.cut 4 fun K1 hK1 => ?_
    simp only [List.take_succ_cons, List.take_zero]
    go_simp
    refine Wcall (.inl rfl) (Need_c _ o x d _ (hV.ext xw) hf) ?_
    rintro v w7 ⟨rfl, hE⟩
    go_simp
    refine hK1 _ _ ?_
    clear hK1 K1
    simp only [List.drop_succ_cons, List.drop_zero]
    have z13 := Below.size hE
    replace f3 := Ext.fz hE c3_0 f3
    replace f7 := Ext.fz hE c7_0 f7
    replace f9 := Ext.fz hE c9_0 f9
    replace f12 := Ext.fz hE c12_0 f12
    replace hM := hM.ext hE
    replace hN := hN.ext hE
    replace xw := Ext.trans xw hE
    replace c3_0 := Ext.cell hE c3_0
    replace c3_1 := Ext.cell hE c3_1
    replace c7_0 := Ext.cell hE c7_0
    replace c7_1 := Ext.cell hE c7_1
    replace c9_0 := Ext.cell hE c9_0
    replace c9_1 := Ext.cell hE c9_1
    replace c9_2 := Ext.cell hE c9_2
    replace c12_0 := Ext.cell hE c12_0
    replace c12_1 := Ext.cell hE c12_1
    clear hE
    go_simp
    refine hK _ _ ?_
    clear hK K' gd
    refine Wp.keep [1, 2, 3, 7, 8, 9, 10, 11, 12, 13, 14] fun r14 hkeep => ?_
    obtain ⟨e1_14, e2_14, e3_14, e7_14, e8_14, e9_14, e10_14, e11_14, e12_14, e13_14, e14_14, -⟩ := hkeep
    simp [go_sem, e1_12, e2_12, e3_12, e7_12, e8_12, e9_12, e10_12, e11_12, e12_12] at e1_14 e2_14 e3_14 e7_14 e8_14 e9_14 e10_14 e11_14 e12_14 e13_14 e14_14
    clear e1_12 e2_12 e3_12 e7_12 e8_12 e9_12 e10_12 e11_12 e12_12
    refine Wp.seqRegion (.inl rfl) (by kernel_rfl) fun K' gd hK hg => ?_
    clear hg
    refine Wops.cut 4 fun K1 hK1 => ?_
    simp only [List.take_succ_cons, List.take_zero]
    go_simp
    refine Wcall (.inl rfl) (needS_c _ o x d _ (hV.ext xw) hf) ?_
    rintro v w8 ⟨rfl, hE⟩
    go_simp
    refine hK1 _ _ ?_
    clear hK1 K1
    simp only [List.drop_succ_cons, List.drop_zero]
    have z15 := Below.size hE
    replace f3 := Ext.fz hE c3_0 f3
    replace f7 := Ext.fz hE c7_0 f7
    replace f9 := Ext.fz hE c9_0 f9
    replace f12 := Ext.fz hE c12_0 f12
    replace hM := hM.ext hE
    replace hN := hN.ext hE
    replace xw := Ext.trans xw hE
    replace c3_0 := Ext.cell hE c3_0
    replace c3_1 := Ext.cell hE c3_1
    replace c7_0 := Ext.cell hE c7_0
    replace c7_1 := Ext.cell hE c7_1
    replace c9_0 := Ext.cell hE c9_0
    replace c9_1 := Ext.cell hE c9_1
    replace c9_2 := Ext.cell hE c9_2
    replace c12_0 := Ext.cell hE c12_0
    replace c12_1 := Ext.cell hE c12_1
    clear hE
    refine Wops.cut 2 fun K1 hK1 => ?_
    simp only [List.take_succ_cons, List.take_zero]
    go_simp
    refine hK1 _ _ ?_
    clear hK1 K1
    simp only [List.drop_succ_cons, List.drop_zero]
    refine Wops.absA fun V15_5 n15 hV15_5 => ?_
    obtain ⟨q15, hV15_5, s15, kV15_5, f15, r15⟩ := hV15_5
    try simp only [q15] at kV15_5 f15 r15 ⊢
    replace f3 := Ext.fz hV15_5 c3_0 f3
    replace f7 := Ext.fz hV15_5 c7_0 f7
    replace f9 := Ext.fz hV15_5 c9_0 f9
    replace f12 := Ext.fz hV15_5 c12_0 f12
    replace hM := hM.ext hV15_5
    replace hN := hN.ext hV15_5
    replace xw := Ext.trans xw hV15_5
    replace c3_0 := Ext.cell hV15_5 c3_0
    replace c3_1 := Ext.cell hV15_5 c3_1
    replace c7_0 := Ext.cell hV15_5 c7_0
    replace c7_1 := Ext.cell hV15_5 c7_1
    replace c9_0 := Ext.cell hV15_5 c9_0
    replace c9_1 := Ext.cell hV15_5 c9_1
    replace c9_2 := Ext.cell hV15_5 c9_2
    replace c12_0 := Ext.cell hV15_5 c12_0
    replace c12_1 := Ext.cell hV15_5 c12_1
    have c15_0 := kV15_5 0 _ rfl
    have c15_1 := kV15_5 1 _ rfl
    clear kV15_5 hV15_5
    clear r15
    try simp only [Wops_nil, updO_some, updO_none]
    refine hK _ _ ?_
    clear hK K' gd
    refine Wp.keep [7, 8, 9, 10, 11, 12, 13, 14, 15] fun r16 hkeep => ?_
    obtain ⟨e7_16, e8_16, e9_16, e10_16, e11_16, e12_16, e13_16, e14_16, e15_16, -⟩ := hkeep
    simp [go_sem, e1_14, e2_14, e3_14, e7_14, e8_14, e9_14, e10_14, e11_14, e12_14, e13_14, e14_14] at e7_16 e8_16 e9_16 e10_16 e11_16 e12_16 e13_16 e14_16 e15_16
    clear e1_14 e2_14 e3_14 e7_14 e8_14 e9_14 e10_14 e11_14 e12_14 e13_14 e14_14
    refine Wp.seqRegion (.inl rfl) (by kernel_rfl) fun K' gd hK hg => ?_
    have g1 : gd 1 = some 50 := hg 1
    have g7 : gd 7 = some 56 := hg 7
    have g13 : gd 13 = some 62 := hg 13
    have g19 : gd 19 = some 68 := hg 19
    have g25 : gd 25 = some 74 := hg 25
    have g31 : gd 31 = some 80 := hg 31
    clear hg
    refine Wops.cut 1 fun K1 hK1 => ?_
    simp only [List.take_succ_cons, List.take_zero]
    go_simp
    refine Wcall (.inl rfl) (sanity_c _) ?_
    rintro v w9 ⟨rfl, hE⟩
    go_simp
    refine hK1 _ _ ?_
    clear hK1 K1
    simp only [List.drop_succ_cons, List.drop_zero]
    have z17 := Below.size hE
    replace f3 := Ext.fz hE c3_0 f3
    replace f7 := Ext.fz hE c7_0 f7
    replace f9 := Ext.fz hE c9_0 f9
    replace f12 := Ext.fz hE c12_0 f12
    replace f15 := Ext.fz hE c15_0 f15
    replace hM := hM.ext hE
    replace hN := hN.ext hE
    replace xw := Ext.trans xw hE
    replace c3_0 := Ext.cell hE c3_0
    replace c3_1 := Ext.cell hE c3_1
    replace c7_0 := Ext.cell hE c7_0
    replace c7_1 := Ext.cell hE c7_1
    replace c9_0 := Ext.cell hE c9_0
    replace c9_1 := Ext.cell hE c9_1
    replace c9_2 := Ext.cell hE c9_2
    replace c12_0 := Ext.cell hE c12_0
    replace c12_1 := Ext.cell hE c12_1
    replace c15_0 := Ext.cell hE c15_0
    replace c15_1 := Ext.cell hE c15_1
    clear hE
    refine Wops.cut 5 fun K1 hK1 => ?_
    simp only [List.take_succ_cons, List.take_zero]
    go_simp
    refine Wcall (.inl rfl) (same_O _ _ (moreO o x) _ hM hN (moreO_fits3 o x)) ?_
    rintro v w10 ⟨rfl, hE⟩
    go_simp
    refine hK1 _ _ ?_
    clear hK1 K1
    simp only [List.drop_succ_cons, List.drop_zero]
    have z18 := Below.size hE
    replace f3 := Ext.fz hE c3_0 f3
    replace f7 := Ext.fz hE c7_0 f7
    replace f9 := Ext.fz hE c9_0 f9
    replace f12 := Ext.fz hE c12_0 f12
    replace f15 := Ext.fz hE c15_0 f15
    replace hM := hM.ext hE
    replace hN := hN.ext hE
    replace xw := Ext.trans xw hE
    replace c3_0 := Ext.cell hE c3_0
    replace c3_1 := Ext.cell hE c3_1
    replace c7_0 := Ext.cell hE c7_0
    replace c7_1 := Ext.cell hE c7_1
    replace c9_0 := Ext.cell hE c9_0
    replace c9_1 := Ext.cell hE c9_1
    replace c9_2 := Ext.cell hE c9_2
    replace c12_0 := Ext.cell hE c12_0
    replace c12_1 := Ext.cell hE c12_1
    replace c15_0 := Ext.cell hE c15_0
    replace c15_1 := Ext.cell hE c15_1
    clear hE
    go_simp
    refine hK _ _ ?_
    clear hK K' gd g1 g7 g13 g19 g25 g31
    refine Wp.keep [6] fun r19 hkeep => ?_
    obtain ⟨e6_19, -⟩ := hkeep
    simp [go_sem, e7_16, e8_16, e9_16, e10_16, e11_16, e12_16, e13_16, e14_16, e15_16] at e6_19
    clear e7_16 e8_16 e9_16 e10_16 e11_16 e12_16 e13_16 e14_16 e15_16
    refine Wp.ret ?_
    refine endK_tmp Tryz.results5 (by decide) ?_
    rw [e6_19]
    exact ⟨by simp, xw⟩
  · skip
    refine Wp.seqRegion (.inl rfl) (by kernel_rfl) fun K' gd hK hg => ?_
    clear hg
    refine Wops.cut 1 fun K1 hK1 => ?_
    simp only [List.take_succ_cons, List.take_zero]
    go_simp
    refine hK1 _ _ ?_
    clear hK1 K1
    simp only [List.drop_succ_cons, List.drop_zero]
    refine Wops.absA fun V3_6 n3 hV3_6 => ?_
    obtain ⟨q3, hV3_6, s3, kV3_6, f3, r3⟩ := hV3_6
    try simp only [q3] at kV3_6 f3 r3 ⊢
    replace xw := Ext.trans xw hV3_6
    have c3_0 := kV3_6 0 _ rfl
    have c3_1 := kV3_6 1 _ rfl
    clear kV3_6 hV3_6
    clear r3
    go_simp
    refine hK _ _ ?_
    clear hK K' gd
    refine Wp.keep [1, 2, 3] fun r20 hkeep => ?_
    obtain ⟨e1_20, e2_20, e3_20, -⟩ := hkeep
    simp [go_sem, e0_1, e1_1, e2_1] at e1_20 e2_20 e3_20
    clear e0_1 e1_1 e2_1
    refine Wp.seq ?_
    refine Wp.seqRegion (.inl rfl) (by kernel_rfl) fun K' gd hK hg => ?_
    clear hg
    refine Wops.cut 2 fun K1 hK1 => ?_
    simp only [List.take_succ_cons, List.take_zero]
    go_simp
    refine Wcall (.inl rfl) (few_F hs _ (hV.ext xw) hf) ?_
    rintro v w2 ⟨rfl, hE⟩
    go_simp
    refine hK1 _ _ ?_
    clear hK1 K1
    simp only [List.drop_succ_cons, List.drop_zero]
    have z21 := Below.size hE
    replace f3 := Ext.fz hE c3_0 f3
    replace xw := Ext.trans xw hE
    replace c3_0 := Ext.cell hE c3_0
    replace c3_1 := Ext.cell hE c3_1
    clear hE
    go_simp
    refine hK _ _ ?_
    clear hK K' gd
    refine Wp.keep [1, 2, 3, 18] fun r22 hkeep => ?_
    obtain ⟨e1_22, e2_22, e3_22, e18_22, -⟩ := hkeep
    simp [go_sem, e1_20, e2_20, e3_20] at e1_22 e2_22 e3_22 e18_22
    clear e1_20 e2_20 e3_20
    refine Wp.condT (by go_simp) ?_
    refine Wp.seqRegion (.inl rfl) (by kernel_rfl) fun K' gd hK hg => ?_
    clear hg
    refine Wops.cut 1 fun K1 hK1 => ?_
    simp only [List.take_succ_cons, List.take_zero]
    go_simp
    refine Wcall (.inl rfl) (sanity_c _) ?_
    rintro v w3 ⟨rfl, hE⟩
    go_simp
    refine hK1 _ _ ?_
    clear hK1 K1
    simp only [List.drop_succ_cons, List.drop_zero]
    have z23 := Below.size hE
    replace f3 := Ext.fz hE c3_0 f3
    replace xw := Ext.trans xw hE
    replace c3_0 := Ext.cell hE c3_0
    replace c3_1 := Ext.cell hE c3_1
    clear hE
    go_simp
    refine hK _ _ ?_
    clear hK K' gd
    refine Wp.keep [6] fun r24 hkeep => ?_
    obtain ⟨e6_24, -⟩ := hkeep
    simp [go_sem, e1_22, e2_22, e3_22, e18_22] at e6_24
    clear e1_22 e2_22 e3_22 e18_22
    refine Wp.ret ?_
    refine thenK_ret ?_
    refine endK_tmp Tryz.results5 (by decide) ?_
    rw [e6_24]
    exact ⟨rfl, xw⟩
end Go.Proofs.YtnfagcccgmakdaaGreat
namespace Go.Proofs.YtnfagcccgmakdaaGreat
open Go.ChangeShapes Go.WideShapes Go.RowKit Go.Wk Go.Proofs

theorem own : ownKnob Tryz.prog.godebug = none := by kernel_rfl
theorem laidOut : laidOutB Tryz.prog = true := by kernel_rfl
set_option maxRecDepth 100000 in
theorem orderCopies_lifted (os : Os) (started : os.Started) (H : Type) (enc : TypeId × Value → H) :
    ReturnsInHanded {} Tryz.checked os 5 .any (Rows.orderCopiesSpec.pre6 enc Tryz.prog Tryz.f5 Rows.orderCopiesRow.domain false) (Rows.orderCopiesSpec.post enc Tryz.prog Tryz.f5 false true false false) := by
  refine returnsInHanded_of_change_sized (C := Tryz.checked) own started (by kernel_rfl) Tryz.func5
    (ChangeSpec.witness6 (enc := enc) (C := Tryz.checked) false ⟨#[], #[.agg #[.slice none 0 0, .slice none 0 0], .int .i64 0, .int .i64 0], []⟩ 8 (by kernel_rfl) (by kernel_rfl) (by kernel_rfl) (by kernel_rfl)) ?_
  intro W base args ds gs before hval0 hW0 _ hsz0 _
  have hval : ∀ (j : Nat) t v, Tryz.f5.params[j]? = some t → args[j]? = some v → Value.okWide Tryz.prog W .any base t v := hval0
  have hW : DataW.Whole enc Tryz.prog Tryz.f5.params.toList [] false W args.toList ds gs before := hW0
  have hsz : (DataW.weightsEach Tryz.prog (Tryz.f5.params.toList ++ []) (ds ++ gs)).all (· ≤ reachBytes) = true := hsz0
  clear hval0 hsz0
  obtain ⟨p, q, hA, hV, -, -, -⟩ := hW
  obtain ⟨rfl, -⟩ := trodVars_none hV
  rw [List.append_nil, List.append_nil] at hsz
  rw [Tryz.params5] at hA hsz hval
  obtain ⟨hlen, hR⟩ := Rd.of_args hA hsz
  obtain ⟨v0, v1, v2, d0, d1, d2, p0, p1, p2, rfl, rfl, -, -, -, -⟩ := trodAll_three hA
  have r0 := hR 0 _ v0 rfl rfl
  have r1 := hR 1 _ v1 rfl rfl
  have r2 := hR 2 _ v2 rfl rfl
  obtain ⟨cs0, rfl, -⟩ := okWide_struct Tryz.underlying25 (hval 0 _ v0 rfl rfl)
  obtain ⟨m1, rfl⟩ := okWide_int Tryz.underlying3 (hval 1 _ v1 rfl rfl)
  obtain ⟨m2, rfl⟩ := okWide_int Tryz.underlying3 (hval 2 _ v2 rfl rfl)
  obtain ⟨x0, h0, f0⟩ := openO ⟨cs0, rfl⟩ r0
  obtain ⟨x1, hm1, f1⟩ := r1.int Tryz.underlying3
  have e1 : x1 = m1 := by
    have e : [Value.int .i64 m1] = [Value.int .i64 x1] := hm1
    injection e with e _
    injection e with _ e
    exact e.symm
  subst e1
  obtain ⟨x2, hm2, f2⟩ := r2.int Tryz.underlying3
  have e2 : x2 = m2 := by
    have e : [Value.int .i64 m2] = [Value.int .i64 x2] := hm2
    injection e with e _
    injection e with _ e
    exact e.symm
  subst e2
  refine (copies_c _ x0 x1 x2 W h0 f0).calls.mono fun e W' ⟨v, he, hv, hE⟩ => ?_
  subst he; subst hv
  exact ⟨_, rfl, law_post hW0 laidOut rfl (by rw [Tryz.params5]; intro t ht; simp at ht; rcases ht with rfl | rfl | rfl <;> exact ⟨by kernel_rfl, of_decide_eq_true (by kernel_rfl)⟩) rfl Tryz.underlying4 rfl rfl rfl hE⟩
theorem orderCopies_holds : Rows.OrderCopiesSaid :=
  OpenClaim.holds_of_wide 5 Tryz.f5 rfl rfl rfl rfl rfl rfl rfl ⟨rfl, rfl, rfl, rfl, rfl⟩ rfl rfl rfl rfl rfl (by kernel_rfl) Tryz.func5 (by kernel_rfl)
    (of_decide_eq_true (by kernel_rfl)) (by unfold Func.isWrapper; first | (rw [if_pos (by decide +kernel)]; kernel_rfl) | (rw [if_neg (by decide +kernel)]; exact ⟨rfl, rfl⟩))
    (fun os started H enc _ => orderCopies_lifted os started H enc)
#print axioms orderCopies_holds
end Go.Proofs.YtnfagcccgmakdaaGreat
