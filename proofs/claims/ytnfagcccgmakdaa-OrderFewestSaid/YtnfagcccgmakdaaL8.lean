/- Swap. Without: slices.Delete on a copied order. Merge. All lists of numbers from 1 to a greatest one, as lists are compared. Fewest: what it comes to. Repeat of a number; counts. counts. Fewest. Small numbers: lists of bytes, and of pairs of bytes. Small numbers; OrderFewest. OrderFewest. For every input, in whatever memory: OrderFewest returns true, and its arguments read as before. No condition. -/
import Derived.Test.YtnfagcccgmakdaaP1
import Derived.Test.YtnfagcccgmakdaaP4
import Derived.Lib.SliceRun
import Derived.Test.YtnfagcccgmakdaaP6
import Derived.OpenShut
import Derived.Test.YtnfagcccgmakdaaP7
import Derived.Test.YtnfagcccgmakdaaRows
import Derived.ProofKit
import Derived.JoinedOf
set_option linter.all false
namespace Go.Wk
open Go.RowKit
set_option linter.unusedVariables false
structure Chg (L : List Nat) (w V : World) : Prop where
  os : V.os = w.os
  tape : V.tape = w.tape
  output : V.output = w.output
  size : w.heap.size ≤ V.heap.size
  block : ∀ k, k < w.heap.size → k ∉ L → V.heap[k]? = w.heap[k]?
theorem Chg.refl (L : List Nat) (w : World) : Chg L w w := ⟨rfl, rfl, rfl, Nat.le_refl _, fun _ _ _ => rfl⟩
theorem Chg.ext {L : List Nat} {w V V' : World} (h : Chg L w V) (hE : Ext V V') : Chg L w V' :=
  ⟨hE.os.trans h.os, hE.tape.trans h.tape, hE.output.trans h.output, Nat.le_trans h.size hE.size, fun k hk hn => (hE.block k (Nat.lt_of_lt_of_le hk h.size)).trans (h.block k hk hn)⟩
theorem Chg.drew {L : List Nat} {w V : World} (h : Chg L w V) : Chg L w V.drew := h.ext (Ext.refl V).drew
theorem Chg.alloc {L : List Nat} {w V : World} (h : Chg L w V) (o : Obj) : Chg L w (V.alloc o) := h.ext ((Ext.refl V).alloc o)
theorem Chg.setC {L : List Nat} {w V : World} (h : Chg L w V) {b k : Nat} {v : Value} (hb : b ∈ L) : Chg L w (V.setCell ⟨b, k, Option.none⟩ v) :=
  ⟨h.os, h.tape, h.output, by simpa using h.size, fun i hi hn => (Below.heap_setCell _ _ _ _ (fun e => hn (by rw [e]; exact hb))).trans (h.block i hi hn)⟩
theorem Chg.lt {w : World} {a : Addr} {v : Value} (h : w.cell? a = some v) : a.block < w.heap.size := cell_lt h
theorem Chg.cell {L : List Nat} {w V : World} (h : Chg L w V) {b i : Nat} {v : Value} (c : w.cell? ⟨b, i, none⟩ = some v) (hb : b ∉ L) : V.cell? ⟨b, i, none⟩ = some v :=
  (World.cell?_of_block (a := ⟨b, i, none⟩) (h.block b (cell_lt c) hb)).trans c
theorem Chg.fz {L : List Nat} {w V : World} (h : Chg L w V) {b i : Nat} {v : Value} (c : w.cell? ⟨b, i, none⟩ = some v) (f : ∀ k, w.frozen? ⟨b, k, none⟩ = false) (hb : b ∉ L) : ∀ k, V.frozen? ⟨b, k, none⟩ = false := fun k =>
  (World.frozen?_of_block (a := ⟨b, k, none⟩) (h.block b (cell_lt c) hb)).trans (f k)
theorem Chg.to {L : List Nat} {X w V : World} (x : Ext X w) (h : Chg L w V) (hL : ∀ b ∈ L, X.heap.size ≤ b) : Ext X V :=
  ⟨h.os.trans x.os, h.tape.trans x.tape, h.output.trans x.output, Nat.le_trans x.size h.size, fun k hk => (h.block k (Nat.lt_of_lt_of_le hk x.size) (fun hm => by have := hL k hm; omega)).trans (x.block k hk)⟩
theorem Chg.more {L L' : List Nat} {X w V : World} (x : Chg L' X w) (h : Chg L w V) (hL : ∀ b ∈ L, X.heap.size ≤ b ∨ b ∈ L') : Chg L' X V :=
  ⟨h.os.trans x.os, h.tape.trans x.tape, h.output.trans x.output, Nat.le_trans x.size h.size, fun k hk hn => (h.block k (Nat.lt_of_lt_of_le hk x.size) (fun hm => by rcases hL k hm with h1 | h1; omega; exact hn h1)).trans (x.block k hk hn)⟩
theorem Ext.fz {w V : World} (h : Ext w V) {b i : Nat} {v : Value} (c : w.cell? ⟨b, i, none⟩ = some v) (f : ∀ k, w.frozen? ⟨b, k, none⟩ = false) : ∀ k, V.frozen? ⟨b, k, none⟩ = false := fun k =>
  (World.frozen?_of_block (a := ⟨b, k, none⟩) (Below.block h b (cell_lt c))).trans (f k)
def nthV : List Value → Nat → Option Value
  | [], _ => none
  | v :: _, 0 => some v
  | _ :: l, i + 1 => nthV l i
theorem nthV_eq : ∀ (l : List Value) (i : Nat), nthV l i = l[i]?
  | [], i => by simp [nthV]
  | v :: l, 0 => rfl
  | v :: l, i + 1 => by rw [nthV, nthV_eq l i]; simp
theorem _root_.Go.World.ownsRow.ext {w w' : World} {base e size n : Nat} {v : Value} {xs : List Value} (h : w.ownsRow base e size v n xs) (hE : Ext w w') : w'.ownsRow base e size v n xs := by
  refine ⟨h.1, ?_⟩
  rcases h.2 with hn | ⟨g, cap, cur, rfl, hb, hg, rest⟩
  · exact .inl hn
  · exact .inr ⟨g, cap, cur, rfl, hb, (Below.block hE g (Array.getElem?_eq_some_iff.1 hg).1).trans hg, rest⟩
def RowC (w : World) (b : Nat) (e : TypeId) (cs : List Value) : Prop := w.heap[b]? = some (.cells cs.toArray e (0, 0))
theorem RowC.lt {w : World} {b : Nat} {e : TypeId} {cs : List Value} (h : RowC w b e cs) : b < w.heap.size := (Array.getElem?_eq_some_iff.1 h).1
theorem RowC.ext {w w' : World} {b : Nat} {e : TypeId} {cs : List Value} (h : RowC w b e cs) (hE : Ext w w') : RowC w' b e cs := (Below.block hE b h.lt).trans h
theorem RowC.cell {w : World} {b : Nat} {e : TypeId} {cs : List Value} (h : RowC w b e cs) (j : Nat) : w.cell? ⟨b, j, none⟩ = cs[j]? := by
  have := cell_of_row w b j cs.toArray e (0, 0) h
  simpa using this
theorem RowC.frozen {w : World} {b : Nat} {e : TypeId} {cs : List Value} (h : RowC w b e cs) (j : Nat) : w.frozen? ⟨b, j, none⟩ = false := by
  unfold World.frozen?; rw [h]; simp
theorem RowC.own {w : World} {b : Nat} {e : TypeId} {cs : List Value} (h : RowC w b e cs) {base size k c : Nat} (hb : base ≤ b) (hk : k ≤ c) (hc : c ≤ maxLen) (hl : cs.length = c * size) :
    w.ownsRow base e size (.slice (some ⟨b, 0, none⟩) k c) k (cs.take (k * size)) :=
  ⟨by have := Nat.mul_le_mul_right size hk; rw [List.length_take]; omega, .inr ⟨b, c, cs.toArray, rfl, hb, h, hk, hc, by simpa using hl, by simp⟩⟩
def setL (w : World) (b i : Nat) : List Value → World
  | [] => w
  | v :: vs => setL (w.setCell ⟨b, i, none⟩ v) b (i + 1) vs
theorem setL_size (b : Nat) : ∀ (vs : List Value) (w : World) (i : Nat), (setL w b i vs).heap.size = w.heap.size
  | [], _, _ => rfl
  | v :: vs, w, i => by rw [setL, setL_size b vs]; simp
theorem setL_heap (b : Nat) : ∀ (vs : List Value) (w : World) (i k : Nat), k ≠ b → (setL w b i vs).heap[k]? = w.heap[k]?
  | [], _, _, _, _ => rfl
  | v :: vs, w, i, k, h => by rw [setL, setL_heap b vs _ _ k h]; exact Below.heap_setCell _ _ _ _ h
theorem setL_frozen (b : Nat) : ∀ (vs : List Value) (w : World) (i : Nat) (a : Addr), (setL w b i vs).frozen? a = w.frozen? a
  | [], _, _, _ => rfl
  | v :: vs, w, i, a => by rw [setL, setL_frozen b vs]; exact World.frozen?_setCell ..
theorem setL_off (b : Nat) : ∀ (vs : List Value) (w : World) (i j : Nat), j < i ∨ i + vs.length ≤ j → (setL w b i vs).cell? ⟨b, j, none⟩ = w.cell? ⟨b, j, none⟩
  | [], _, _, _, _ => rfl
  | v :: vs, w, i, j, h => by
    rw [setL, setL_off b vs _ _ _ (by simp at h; omega)]; exact World.cell?_setCell_other _ _ _ _ (by intro e; injection e with _ e; simp at h; omega)
theorem setL_on (b : Nat) : ∀ (vs : List Value) (w : World) (i : Nat), (∀ j, j < vs.length → (w.cell? ⟨b, i + j, none⟩).isSome = true) → ∀ j v, vs[j]? = some v → (setL w b i vs).cell? ⟨b, i + j, none⟩ = some v
  | [], _, _, _, j, v, h => by simp at h
  | u :: vs, w, i, hs, j, v, h => by
    have h0 := hs 0 (by simp); rw [setL]
    cases j with
    | zero =>
      simp at h; subst h; rw [Nat.add_zero, setL_off b vs _ _ _ (by omega)]; exact World.cell?_setCell_same' _ _ _ (by simpa using h0)
    | succ j =>
      have := setL_on b vs (w.setCell ⟨b, i, none⟩ u) (i + 1) (fun k hk => ?_) j v (by simpa using h)
      · rw [show i + (j + 1) = i + 1 + j by omega]; exact this
      · rw [World.cell?_setCell_other _ _ _ _ (by intro e; injection e with _ e; omega)]; have := hs (k + 1) (by simp; omega); rw [show i + 1 + k = i + (k + 1) by omega]; exact this
theorem setL_row (b : Nat) : ∀ (vs : List Value) (w : World) (i : Nat) (cs : Array Value) (t : TypeId), w.heap[b]? = some (.cells cs t (0, 0)) → ∃ cs', (setL w b i vs).heap[b]? = some (.cells cs' t (0, 0)) ∧ cs'.size = cs.size
  | [], _, _, cs, _, h => ⟨cs, h, rfl⟩
  | v :: vs, w, i, cs, t, h => by
    have h1 : ∃ cs1, (w.setCell ⟨b, i, none⟩ v).heap[b]? = some (.cells cs1 t (0, 0)) ∧ cs1.size = cs.size := ⟨_, heap_setCell_same w b i cs t v h, by simp⟩; obtain ⟨cs1, h1, e1⟩ := h1; obtain ⟨cs', h2, e2⟩ := setL_row b vs _ (i + 1) cs1 t h1; exact ⟨cs', h2, e2.trans e1⟩
structure Put (w V : World) (b i : Nat) (vs : List Value) : Prop where
  chg : Chg [b] w V
  same : V.heap.size ≤ w.heap.size ∧ w.heap.size ≤ V.heap.size
  new : ∀ j v, nthV vs j = some v → V.cell? ⟨b, i + j, none⟩ = some v
  old : ∀ j, j < i ∨ i + vs.length ≤ j → V.cell? ⟨b, j, none⟩ = w.cell? ⟨b, j, none⟩
  fz : ∀ a, V.frozen? a = w.frozen? a
  row : ∀ cs t, w.heap[b]? = some (.cells cs t (0, 0)) → ∃ cs', V.heap[b]? = some (.cells cs' t (0, 0)) ∧ cs'.size = cs.size
  eq : V = setL w b i vs
theorem setL_put {w : World} {b i : Nat} {vs : List Value} (hs : ∀ j, j < vs.length → (w.cell? ⟨b, i + j, none⟩).isSome = true) : Put w (setL w b i vs) b i vs := by
  have hos : ∀ (vs : List Value) (w : World) (i : Nat), (setL w b i vs).os = w.os ∧ (setL w b i vs).tape = w.tape ∧ (setL w b i vs).output = w.output := by
    intro vs
    induction vs with
    | nil => exact fun _ _ => ⟨rfl, rfl, rfl⟩
    | cons v vs ih => exact fun w i => ih _ _
  exact ⟨⟨(hos vs w i).1, (hos vs w i).2.1, (hos vs w i).2.2, by rw [setL_size]; exact Nat.le_refl _, fun k _ hk => setL_heap b vs w i k (by simpa using hk)⟩, ⟨by rw [setL_size]; exact Nat.le_refl _, by rw [setL_size]; exact Nat.le_refl _⟩, fun j v h => setL_on b vs w i hs j v (by rw [← nthV_eq]; exact h), fun j hj => setL_off b vs w i j hj, fun a => setL_frozen b vs w i a, fun cs t h => setL_row b vs w i cs t h, rfl⟩
theorem Put.cell {w V : World} {b i : Nat} {vs : List Value} (h : Put w V b i vs) {k j : Nat} {v : Value} (c : w.cell? ⟨k, j, none⟩ = some v) (hk : k ≠ b) : V.cell? ⟨k, j, none⟩ = some v := h.chg.cell c (by simpa using hk)
theorem Put.cellOff {w V : World} {b i : Nat} {vs : List Value} (h : Put w V b i vs) {j : Nat} {v : Value} (c : w.cell? ⟨b, j, none⟩ = some v) (hk : j < i ∨ i + vs.length ≤ j) : V.cell? ⟨b, j, none⟩ = some v := (h.old j hk).trans c
theorem Put.frz {w V : World} {b i : Nat} {vs : List Value} (h : Put w V b i vs) {k : Nat} (f : ∀ j, w.frozen? ⟨k, j, none⟩ = false) : ∀ j, V.frozen? ⟨k, j, none⟩ = false := fun j => (h.fz _).trans (f j)
theorem Put.to {X w V : World} {b i : Nat} {vs : List Value} (x : Ext X w) (h : Put w V b i vs) (hb : X.heap.size ≤ b) : Ext X V := Chg.to x h.chg (by simpa using hb)
theorem Put.more {L : List Nat} {X w V : World} {b i : Nat} {vs : List Value} (x : Chg L X w) (h : Put w V b i vs) (hb : X.heap.size ≤ b ∨ b ∈ L) : Chg L X V := Chg.more x h.chg (by simpa using hb)
structure New (w V : World) (n : Nat) (cs : Array Value) : Prop where
  at_ : w.heap.size = n
  ext : Ext w V
  size : V.heap.size ≤ n + 1 ∧ n + 1 ≤ V.heap.size
  cell : ∀ i v, nthV cs.toList i = some v → V.cell? ⟨n, i, none⟩ = some v
  fz : ∀ i, V.frozen? ⟨n, i, none⟩ = false
  row : ∃ t, V.heap[n]? = some (.cells cs t (0, 0))
theorem new_alloc (w : World) (cs : Array Value) (t : TypeId) : New w (w.alloc (.cells cs t)) w.heap.size cs :=
  ⟨rfl, (Ext.refl _).alloc _, ⟨by simp, by simp⟩, fun i v h => by rw [cell_nw]; rw [nthV_eq] at h; simpa using h, fun i => frozen_nw .., t, World.alloc_heap_new w _⟩
theorem _root_.Go.World.ownsRow.put {w V : World} {base e size n b i : Nat} {v : Value} {xs vs : List Value} (h : w.ownsRow base e size v n xs) (p : Put w V b i vs) (hb : b < base) : V.ownsRow base e size v n xs := by
  refine ⟨h.1, ?_⟩
  rcases h.2 with hn | ⟨g, cap, cur, rfl, hg0, hg, rest⟩
  · exact .inl hn
  · exact .inr ⟨g, cap, cur, rfl, hg0, (p.chg.block g (Array.getElem?_eq_some_iff.1 hg).1 (by simp; omega)).trans hg, rest⟩
section
variable {F : Fence} {P : Program} {N : Nat} {gd : Nat → Option Nat} {K : (Nat → Value) → World → Prop} {ρ : Nat → Value} {w : World}
theorem Wops.absA {L : List Oper} {cs : Array Value} {t : TypeId} (h : ∀ V n, New w V n cs → Wops F P N gd K L ρ V) : Wops F P N gd K L ρ (w.alloc (.cells cs t)) := h _ _ (new_alloc w cs t)
theorem Mops.absA {S : List (List Oper × Option (Oper × Bool))} {cs : Array Value} {t : TypeId} (h : ∀ V n, New w V n cs → Mops F P N gd K S ρ V) : Mops F P N gd K S ρ (w.alloc (.cells cs t)) := h _ _ (new_alloc w cs t)
theorem Mops.absD {S : List (List Oper × Option (Oper × Bool))} (h : ∀ V, Ext w V → (V.heap.size ≤ w.heap.size ∧ w.heap.size ≤ V.heap.size) → Mops F P N gd K S ρ V) : Mops F P N gd K S ρ w.drew := h _ (Ext.refl w).drew ⟨Nat.le_refl _, Nat.le_refl _⟩
theorem Wops.absS {L : List Oper} {b i : Nat} (vs : List Value) (hs : ∀ j, j < vs.length → (w.cell? ⟨b, i + j, none⟩).isSome = true) (h : ∀ V, Put w V b i vs → Wops F P N gd K L ρ V) : Wops F P N gd K L ρ (setL w b i vs) := h _ (setL_put hs)
theorem Mops.absS {S : List (List Oper × Option (Oper × Bool))} {b i : Nat} (vs : List Value) (hs : ∀ j, j < vs.length → (w.cell? ⟨b, i + j, Option.none⟩).isSome = true) (h : ∀ V, Put w V b i vs → Mops F P N gd K S ρ V) : Mops F P N gd K S ρ (setL w b i vs) := h _ (setL_put hs)
theorem Wp.absS {c : Code} {ds : List Deferred} {Q : Post} {b i : Nat} (vs : List Value) (hs : ∀ j, j < vs.length → (w.cell? ⟨b, i + j, none⟩).isSome = true) (h : ∀ V, Put w V b i vs → Wp F P N c Q ρ ds V) : Wp F P N c Q ρ ds (setL w b i vs) := h _ (setL_put hs)
end
theorem somes {w : World} {b i : Nat} {vs : List Value} (l : List Value) (hl : vs.length ≤ l.length) (h : ∀ j v, l[j]? = some v → w.cell? ⟨b, i + j, none⟩ = some v) : ∀ j, j < vs.length → (w.cell? ⟨b, i + j, none⟩).isSome = true := fun j hj => by
  rw [h j (l[j]'(by omega)) (List.getElem?_eq_getElem _)]; rfl
@[reducible] def cellVal {w : World} {a : Addr} {v : Value} (_ : w.cell? a = some v) : Value := v
theorem grown_chg {w w' : World} {row : Option Nat} (h : w.grownBy w' row) : Chg row.toList w w' :=
  ⟨h.os, h.tape, h.output, h.size, fun k hk hn => h.block k hk (fun e => hn (by rw [← e]; simp))⟩
theorem lt_off {row : Option Nat} {S T b : Nat} (LT : ∀ k, row = some k → S ≤ k ∧ k < T) (h : b < S ∨ T ≤ b) : b ∉ row.toList := fun hm => by
  have := LT b (by simpa using hm); omega
theorem lt_ge {row : Option Nat} {S T X : Nat} (LT : ∀ k, row = some k → S ≤ k ∧ k < T) (h : X ≤ S) : ∀ b ∈ row.toList, X ≤ b := fun b hm => by
  have := LT b (by simpa using hm); omega
theorem lt_gm {row : Option Nat} {S T X : Nat} {L : List Nat} (LT : ∀ k, row = some k → S ≤ k ∧ k < T) (h : X ≤ S) : ∀ b ∈ row.toList, X ≤ b ∨ b ∈ L := fun b hm => .inl (lt_ge LT h b hm)
end Go.Wk
namespace Go.Wk
open Go.RowKit
set_option linter.unusedVariables false
def IterG (P : Program) (gf : Nat) (lb : Array Value) {α : Type} (encs : Nat → α → Array Value) (C : World → Nat → α → Prop) (D : World → Prop) (xs : List α) : Prop :=
  ∀ (l : Nat) (J : Nat → Nat → World → Prop) (Jx : World → Prop) (W0 : World),
    (∀ g k W, J g k W → D W) → (∀ g k W W', Ext W W' → J g k W → J g k W') → (∀ W W', Ext W W' → Jx W → Jx W') →
    (∀ g k W W', Chg [g] W W' → J g k W → J g k W') → (∀ g W, W0.heap.size ≤ g → Ext W0 W → J g 0 W) →
    (∀ g k x W, xs[k]? = some x → J g k W → C W g x → YieldAt Fence.wide 0 P l (encs g x) W fun e W' => (e = .returned (.bool true) ∧ J g (k + 1) W' ∧ C W' g x) ∨ (e = .returned (.bool false) ∧ Jx W')) →
    CallsV P gf (#[.func (.yield l) #[] #[]] ++ lb) W0 fun _ W' => (∃ g, J g xs.length W') ∨ Jx W'
section
variable {P : Program} {N : Nat} {K : Post} {ρ : Nat → Value} {ds : List Deferred} {w : World}
theorem Wp.rangeG {α : Type} {g : Operand} {ps : Array Nat} {assign body : Code} {gf : Nat} {lb : Array Value} {encs : Nat → α → Array Value} {C : World → Nat → α → Prop} {D : World → Prop} {xs : List α}
    (hit : IterG P gf lb encs C D xs) (hg : evN N ρ g = .func (.func gf) #[] lb) (eg : ∀ args w, (callFunc gf args).run P w = .ok (.enter gf args) w) (hps : ∀ (g : Nat) (x : α), (encs g x).size = ps.size)
    (I : Nat → Nat → World → Prop) (Ix : Code → World → Prop) (hD : ∀ g k W, I g k W → D W)
    (hI0 : (∀ g k, Stab w.heap.size (I g k)) ∧ (∀ g k W W', w.heap.size ≤ g → Chg [g] W W' → I g k W → I g k W') ∧ ∀ g x, Stab w.heap.size (fun W => C W g x)) (hIx : ∀ c, Stab w.heap.size (Ix c)) (h0 : ∀ g W, w.heap.size ≤ g → Adm w.heap.size w W → I g 0 W)
    (hbody : ∀ (l g k : Nat) (x : α) (W : World), xs[k]? = some x → I g k W → C W g x → w.heap.size ≤ l → w.heap.size ≤ g →
      Wp (Fence.wide.inRound l) P N assign (thenK (fun ρ₁ ds₁ W₁ => KeepsOthers W W₁ ∧ ∀ W₂, Adm w.heap.size W₁ W₂ → (∃ r, W₂.heap[l]? = some (.loop r)) →
        Wp (Fence.wide.inRound l) P N body (roundK (fun W' => I g (k + 1) W' ∧ C W' g x) Ix W₂) ρ₁ ds₁ W₂) (fun _ _ _ _ => False)) (putL ρ (ps.zip (encs g x)).toList) [] W)
    (hdone : ∀ (r g : Nat) (W : World), w.heap.size ≤ r → I g xs.length W → W.heap[r]? = some (.deferred (some [])) → K .normal ρ (markOf r :: ds) W)
    (hstop : ∀ (r : Nat) (c : Code) (W : World), w.heap.size ≤ r → Ix c W → W.heap[r]? = some (.deferred (some [])) → Wp Fence.wide P N c K ρ (markOf r :: ds) W) :
    Wp Fence.wide P N (.rangeFunc g ps assign body) K ρ ds w := by
  obtain ⟨hI, hIg, hC⟩ := hI0; refine wpIn_rangeFunc ?_; intro fn hfn; obtain ⟨rec, hrec⟩ : ∃ rec : LoopState → Option Code → Loop, rec = fun st pe => { state := st, pending := pe, fn, tmps := (actOf N ρ ds).tmps, params := ps, assign, body, defers := w.heap.size } := ⟨_, rfl⟩; obtain ⟨W1, hW1⟩ : ∃ W1, (w.alloc (.deferred (some []))).alloc (.loop (rec .ready none)) = W1 := ⟨_, rfl⟩
  have hL1 : W1.heap[w.heap.size + 1]? = some (.loop (rec .ready none)) := by
    rw [← hW1]; have := World.alloc_heap_new (w.alloc (.deferred (some []))) (.loop (rec .ready none)); rwa [World.size_alloc] at this
  have hK1 : W1.heap[w.heap.size]? = some (.deferred (some [])) := by
    rw [← hW1]; exact (Below.heap_alloc _ _ _ (by simp)).trans (World.alloc_heap_new w _)
  have hE1 : Ext w W1 := by rw [← hW1]; exact ((Ext.refl _).alloc _).alloc _
  have hz1 : W1.heap.size = w.heap.size + 2 := by rw [← hW1]; simp
  refine ⟨w.heap.size + 1, [markOf w.heap.size], W1, { target := .fn (.func gf) lb, args := #[.func (.yield (w.heap.size + 1)) #[] #[]] }, W1, gf,
    #[.func (.yield (w.heap.size + 1)) #[] #[]] ++ lb, W1, ?_, ?_, fun _ _ => trivial, ?_, fun e => by simp [Fence.wide] at e, ?_⟩
  · rw [← hW1, hrec]; exact run_enterLoop_outer _ _ _ _ _
  · simp only [resolve, eval_act, hg]; simp [go_sem]
  · simp [invoke, go_sem, eg]
  · have hext : ∀ {X Y : World} {k : Nat} {o : Obj}, Ext X Y → X.heap[k]? = some o → Y.heap[k]? = some o := fun h hk => (Below.block h _ (Array.getElem?_eq_some_iff.1 hk).1).trans hk
    refine (callsIn_wide (n := 0 - 1)).2 ((hit (w.heap.size + 1)
      (fun g k W => w.heap.size + 2 ≤ g ∧ I g k W ∧ W.heap[w.heap.size + 1]? = some (.loop (rec .ready none)) ∧ W.heap[w.heap.size]? = some (.deferred (some [])))
      (fun W => ∃ c, Ix c W ∧ W.heap[w.heap.size + 1]? = some (.loop (rec .done (some c))) ∧ W.heap[w.heap.size]? = some (.deferred (some [])))
      W1 (fun g k W h => hD g k W h.2.1)
      (fun g k X Y he h => ⟨h.1, hI g k _ _ (Adm.of_ext he) h.2.1, hext he h.2.2.1, hext he h.2.2.2⟩)
      (fun X Y he h => by obtain ⟨c, h1, h2, h3⟩ := h; exact ⟨c, hIx c _ _ (Adm.of_ext he) h1, hext he h2, hext he h3⟩)
      (fun g k X Y hg2 h => ⟨h.1, hIg g k _ _ (by omega) hg2 h.2.1, (hg2.block _ (Array.getElem?_eq_some_iff.1 h.2.2.1).1 (by simp; omega)).trans h.2.2.1, (hg2.block _ (Array.getElem?_eq_some_iff.1 h.2.2.2).1 (by simp; omega)).trans h.2.2.2⟩)
      (fun g W hg0 hE0 => ⟨by omega, h0 g W (by omega) (Adm.of_ext (hE1.trans hE0)), hext hE0 hL1, hext hE0 hK1⟩) ?_).calls.mono ?_)
    · rintro g k x W hx ⟨hgw, hi, hl, hk⟩ hCg; have hlt : w.heap.size + 1 < W.heap.size := (Array.getElem?_eq_some_iff.1 hl).1; have hy := run_yield (P := P) (args := encs g x) hl (by rw [hrec]; exact hps g x); rw [hrec] at hy; refine ⟨fn, _, assign, body, hy, roundIn_of_wpIn (F := Fence.wide) trivial ?_⟩
      dsimp only
      rw [put_fold]; refine Go.wpIn_mono (hbody (w.heap.size + 1) g k x W hx hi hCg (by omega) (by omega)) ?_; rintro e a1 W₁ ⟨ρ₁, ds₁, rfl, hq⟩
      cases e <;> first | exact hq.elim | skip
      obtain ⟨hko, hq⟩ := hq; have hl1 := hko.same _ _ hl rfl; have hk1 := hko.same _ _ hk rfl; refine ⟨_, run_beginRound hl1 (by rw [hrec]), ?_⟩; have hlt1 : w.heap.size + 1 < W₁.heap.size := (Array.getElem?_eq_some_iff.1 hl1).1; have hl2 : (W₁.putObj (w.heap.size + 1) (.loop { rec .ready none with state := .busy })).heap[w.heap.size + 1]? = some (.loop { rec .ready none with state := .busy }) := World.putObj_heap_same hlt1; have hk2 : (W₁.putObj (w.heap.size + 1) (.loop { rec .ready none with state := .busy })).heap[w.heap.size]? = some (.deferred (some [])) := (World.putObj_heap_other (by omega)).trans hk1; refine Go.wpIn_mono (hq _ (Adm.putObj _ hl1 rfl (by omega)) ⟨_, hl2⟩) ?_
      have fin : ∀ (jump : Option Code) (W3 : World), KeepsOthers (W₁.putObj (w.heap.size + 1) (.loop { rec .ready none with state := .busy })) W3 →
          (Instr.endRound (w.heap.size + 1) jump).run P W3 = .ok (.bool jump.isNone) (W3.putObj (w.heap.size + 1) (.loop (rec (if jump.isNone then .ready else .done) jump))) ∧
          W3.heap[w.heap.size + 1]? = some (.loop { rec .ready none with state := .busy }) ∧
          (W3.putObj (w.heap.size + 1) (.loop (rec (if jump.isNone then .ready else .done) jump))).heap[w.heap.size + 1]? = some (.loop (rec (if jump.isNone then .ready else .done) jump)) ∧
          (W3.putObj (w.heap.size + 1) (.loop (rec (if jump.isNone then .ready else .done) jump))).heap[w.heap.size]? = some (.deferred (some [])) := fun jump W3 hk3 => by
        have hl3 := hk3.same _ _ hl2 rfl; have := run_endRound (P := P) jump hl3; rw [hrec] at this ⊢; exact ⟨this, by rw [hrec] at hl3; exact hl3, World.putObj_heap_same (Array.getElem?_eq_some_iff.1 hl3).1, (World.putObj_heap_other (by omega)).trans (hk3.same _ _ hk2 rfl)⟩
      rintro e a3 W3 ⟨ρ₃, ds₃, rfl, hp⟩
      cases e with
      | normal =>
        obtain ⟨hk3, hi3⟩ := hp; obtain ⟨hr, hl3, hl4, hk4⟩ := fin none W3 hk3; exact ⟨_, _, hr, .inl ⟨rfl, ⟨hgw, hI _ _ _ _ (Adm.putObj _ hl3 rfl (by omega)) hi3.1, hl4, hk4⟩, hC _ _ _ _ (Adm.putObj _ hl3 rfl (by omega)) hi3.2⟩⟩
      | ret =>
        obtain ⟨hk3, hi3⟩ := hp; obtain ⟨hr, hl3, hl4, hk4⟩ := fin (some .ret) W3 hk3; exact ⟨_, _, hr, .inr ⟨rfl, .ret, hIx _ _ _ (Adm.putObj _ hl3 rfl (by omega)) hi3, hl4, hk4⟩⟩
      | exit id =>
        obtain ⟨hk3, hi3⟩ := hp; obtain ⟨hr, hl3, hl4, hk4⟩ := fin (some (.exit id)) W3 hk3; exact ⟨_, _, hr, .inr ⟨rfl, .exit id, hIx _ _ _ (Adm.putObj _ hl3 rfl (by omega)) hi3, hl4, hk4⟩⟩
      | goto t =>
        obtain ⟨hk3, hi3⟩ := hp; obtain ⟨hr, hl3, hl4, hk4⟩ := fin (some (.goto t)) W3 hk3; exact ⟨_, _, hr, .inr ⟨rfl, .goto t, hIx _ _ _ (Adm.putObj _ hl3 rfl (by omega)) hi3, hl4, hk4⟩⟩
      | panic ch => exact hp.elim
      | outgrown => exact hp.elim
    · rintro e W2 ⟨v, rfl, (⟨g, hgw, hi, hl, hk⟩ | ⟨c, hi, hl, hk⟩)⟩
      · refine ⟨none, _, by have := run_endLoop (P := P) hl (by rw [hrec]; simp); rw [hrec] at this; exact this, ρ, _, rfl, hdone _ g _ (Nat.le_refl _) (hI _ _ _ _ (Adm.putObj _ hl rfl (by omega)) hi) ((World.putObj_heap_other (by omega)).trans hk)⟩
      · exact ⟨some c, _, by have := run_endLoop (P := P) hl (by rw [hrec]; simp); rw [hrec] at this; exact this, hstop _ c _ (Nat.le_refl _) (hIx c _ _ (Adm.putObj _ hl rfl (by omega)) hi) ((World.putObj_heap_other (by omega)).trans hk)⟩
end
end Go.Wk
namespace Go.Wk
open Go.RowKit
set_option linter.unusedVariables false
theorem Adm.fz {m : Nat} {W W' : World} (h : Adm m W W') {b i : Nat} {v : Value} (c : W.cell? ⟨b, i, none⟩ = some v) (f : ∀ k, W.frozen? ⟨b, k, none⟩ = false) : ∀ k, W'.frozen? ⟨b, k, none⟩ = false := fun k => by
  obtain ⟨o, ho, hc⟩ := cells_of_cell c; exact (World.frozen?_of_block (a := ⟨b, k, none⟩) ((h.block b o ho (.inr hc)).trans ho.symm)).trans (f k)
theorem Adm.chg {m : Nat} {L : List Nat} {X W W' : World} (h : Adm m W W') (x : Chg L X W) (hX : X.heap.size ≤ m) : Chg L X W' :=
  ⟨h.os.trans x.os, h.tape.trans x.tape, h.output.trans x.output, Nat.le_trans x.size h.size, fun k hk hn => by
    have hlt : k < W.heap.size := Nat.lt_of_lt_of_le hk x.size; have e : W.heap[k]? = some W.heap[k] := by simp [hlt]
    rw [h.block k W.heap[k] e (.inl (by omega)), ← x.block k hk hn, e]⟩
theorem Adm.toE {m : Nat} {X W W' : World} (h : Adm m W W') (x : Ext X W) (hX : X.heap.size ≤ m) : Ext X W' := h.below x (Nat.le_refl _) hX
def IsC (W : World) (b : Nat) : Prop := ∃ o, W.heap[b]? = some o ∧ o.isCells = true
theorem IsC.of {W : World} {b i : Nat} {v : Value} (c : W.cell? ⟨b, i, none⟩ = some v) : IsC W b := by
  obtain ⟨o, ho, hc⟩ := cells_of_cell c; exact ⟨o, ho, hc⟩
theorem KeepsOthers.of_chg {L : List Nat} {A B : World} (h : Chg L A B) (hL : ∀ b ∈ L, IsC A b) : KeepsOthers A B :=
  ⟨h.size, fun k o hk ho => (h.block k (Array.getElem?_eq_some_iff.1 hk).1 (fun hm => by
    obtain ⟨o', h1, h2⟩ := hL k hm; rw [hk] at h1; cases h1
    rw [ho] at h2; cases h2)).trans hk⟩
theorem RowC.put {w V : World} {b i k : Nat} {e : TypeId} {cs vs : List Value} (h : RowC w k e cs) (p : Put w V b i vs) (hb : k ≠ b) : RowC V k e cs :=
  (p.chg.block k h.lt (by simpa using hb)).trans h
theorem RowC.chg {w V : World} {L : List Nat} {k : Nat} {e : TypeId} {cs : List Value} (h : RowC w k e cs) (p : Chg L w V) (hb : k ∉ L) : RowC V k e cs := (p.block k h.lt hb).trans h
theorem RowC.adm {m : Nat} {w V : World} {k : Nat} {e : TypeId} {cs : List Value} (h : RowC w k e cs) (p : Adm m w V) : RowC V k e cs := p.block k _ h (.inr rfl)
theorem mem1 {P : Nat → Prop} {a : Nat} (h : P a) : ∀ b ∈ [a], P b := by simpa using h
end Go.Wk
namespace Go.Proofs.Ytnfagcccgmakdaa
open Go.RowKit Go.Wk Go.Proofs
attribute [local irreducible] Go.Wk.Wops Go.Wk.Wp Go.Wk.Mtree Go.Wk.Mops
set_option maxHeartbeats 4000000
theorem RowB.put {w V : World} {b i n k : Nat} {e : TypeId} {vs : List Value} (h : RowB w k e n) (p : Put w V b i vs) : RowB V k e n := by
  obtain ⟨cs, h1, h2⟩ := h
  by_cases hk : k = b
  · subst hk; obtain ⟨cs', h3, h4⟩ := p.row cs e h1; exact ⟨cs', h3, h4.trans h2⟩
  · exact ⟨cs, (p.chg.block k (Array.getElem?_eq_some_iff.1 h1).1 (by simpa using hk)).trans h1, h2⟩
section
variable {o : Ord} {n : Nat}
end
theorem CopyF.put {w V : World} {base b i : Nat} {a : OA} {o : Ord} {vs : List Value} (h : CopyF w base a o) (p : Put w V b i vs) (hb : b < base) : CopyF V base a o :=
  h.other p.chg.size fun k hk => by
    have hne : k ≠ b := by
      rcases hk with rfl | rfl | ⟨i, hi, rfl⟩
      · have := h.gC; omega
      · have := h.gR; omega
      · have := h.gT i hi; omega
    refine p.chg.block k ?_ (by simpa using hne)
    rcases hk with rfl | rfl | ⟨i, hi, rfl⟩
    · exact h.rC.lt
    · exact h.rR.lt
    · exact (h.rT i hi).lt
end Go.Proofs.Ytnfagcccgmakdaa
namespace Go.Proofs.Ytnfagcccgmakdaa
open Go.RowKit Go.Wk Go.Proofs
attribute [local irreducible] Go.Wk.Wops Go.Wk.Wp Go.Wk.Mtree Go.Wk.Mops
set_option maxHeartbeats 4000000
section
variable {o : Ord} {i : Nat}
end
structure OrdB (w : World) (base : Nat) (a : OA) (o : Ord) : Prop where
  ord : OrdF w w.heap.size a o
  gC : base ≤ a.cb
  gR : 0 < o.n → base ≤ a.rb
  gT : ∀ i, i < o.n → base ≤ a.tb i
theorem OrdB.other {w w' : World} {base : Nat} {a : OA} {o : Ord} (h : OrdB w base a o) (hs : w.heap.size ≤ w'.heap.size) (hb : ∀ k, base ≤ k → k < w.heap.size → w'.heap[k]? = w.heap[k]?) : OrdB w' base a o := by
  have hO := h.ord; have bC := hb _ h.gC hO.bC; have bR : 0 < o.n → w'.heap[a.rb]? = w.heap[a.rb]? := fun h' => hb _ (h.gR h') (hO.bR h'); have bT : ∀ i, i < o.n → w'.heap[a.tb i]? = w.heap[a.tb i]? := fun i hi => hb _ (h.gT i hi) (hO.bT i hi)
  exact { h with
    ord := { hO.more hs with
      hC := fun j hj => (World.cell?_of_block (a := ⟨a.cb, a.co + j, none⟩) bC).trans (hO.hC j hj)
      hI := fun i hi => (World.cell?_of_block (a := ⟨a.rb, a.ro + i * 3, none⟩) (bR (by omega))).trans (hO.hI i hi)
      hA := fun i hi => (World.cell?_of_block (a := ⟨a.rb, a.ro + i * 3 + 1, none⟩) (bR (by omega))).trans (hO.hA i hi)
      hT := fun i hi => (World.cell?_of_block (a := ⟨a.rb, a.ro + i * 3 + 2, none⟩) (bR (by omega))).trans (hO.hT i hi)
      hTT := fun i j hi hj => (World.cell?_of_block (a := ⟨a.tb i, a.to_ i + j, none⟩) (bT i hi)).trans (hO.hTT i j hi hj) } }
theorem OrdB.ext {w w' : World} {base : Nat} {a : OA} {o : Ord} (h : OrdB w base a o) (hE : Ext w w') : OrdB w' base a o := h.other hE.size fun k _ hk => Below.block hE k hk
theorem OrdB.put {w V : World} {base b i : Nat} {a : OA} {o : Ord} {vs : List Value} (h : OrdB w base a o) (p : Put w V b i vs) (hb : b < base) : OrdB V base a o := h.other p.chg.size fun k hk hl => p.chg.block k hl (by simp; omega)
end Go.Proofs.Ytnfagcccgmakdaa
namespace Go.Proofs.Ytnfagcccgmakdaa
open Go.RowKit Go.Wk Go.Proofs
attribute [local irreducible] Go.Wk.Wops Go.Wk.Wp Go.Wk.Mtree Go.Wk.Mops
set_option maxHeartbeats 4000000
def IntsP (w : World) (P : Nat → Prop) (v : Value) (xs : List Int) : Prop :=
  ∃ (A : Option Addr) (c : Nat), v = .slice A xs.length c ∧ (xs ≠ [] → ∃ b o, A = some ⟨b, o, none⟩ ∧ P b ∧ ∀ k (h : k < xs.length), w.cell? ⟨b, o + k, none⟩ = some (.int .i64 xs[k])) ∧ xs.length ≤ c
theorem IntsP.keep {w w' : World} {P : Nat → Prop} {v : Value} {xs : List Int} (h : IntsP w P v xs) (hb : ∀ k, P k → k < w.heap.size → w'.heap[k]? = w.heap[k]?) : IntsP w' P v xs := by
  obtain ⟨A, c, hv, hx, hcap⟩ := h
  exact ⟨A, c, hv, fun hne => by
    obtain ⟨b, o, hA, hp, hc⟩ := hx hne
    exact ⟨b, o, hA, hp, fun k hk => (World.cell?_of_block (a := ⟨b, o + k, none⟩) (hb b hp (cell_lt (hc k hk)))).trans (hc k hk)⟩, hcap⟩
theorem IntsP.weak {w : World} {P Q : Nat → Prop} {v : Value} {xs : List Int} (h : IntsP w P v xs) (hq : ∀ k, P k → k < w.heap.size → Q k) : IntsP w Q v xs := by
  obtain ⟨A, c, hv, hx, hcap⟩ := h
  exact ⟨A, c, hv, fun hne => by
    obtain ⟨b, o, hA, hp, hc⟩ := hx hne
    exact ⟨b, o, hA, hq b hp (by obtain ⟨k, hk⟩ : ∃ k, k < xs.length := ⟨0, List.length_pos_iff.2 hne⟩; exact cell_lt (hc k hk)), hc⟩, hcap⟩
theorem IntsP.intsV {w : World} {P : Nat → Prop} {v : Value} {xs : List Int} (h : IntsP w P v xs) : IntsV w w.heap.size v xs := by
  obtain ⟨A, c, hv, hx, hcap⟩ := h
  exact ⟨A, c, hv, fun hne => by
    obtain ⟨b, o, hA, hp, hc⟩ := hx hne
    exact ⟨b, o, hA, (by obtain ⟨k, hk⟩ : ∃ k, k < xs.length := ⟨0, List.length_pos_iff.2 hne⟩; exact cell_lt (hc k hk)), hc⟩, hcap⟩
def RunsP (w : World) (P : Nat → Prop) (v : Value) (rs : List Run) : Prop :=
  ∃ (A : Option Addr) (c : Nat) (tv : Nat → Value), v = .slice A rs.length c ∧
    (rs ≠ [] → ∃ b o, A = some ⟨b, o, none⟩ ∧ P b ∧ ∀ k (h : k < rs.length), w.cell? ⟨b, o + k * 3, none⟩ = some (.int .i64 rs[k].id) ∧ w.cell? ⟨b, o + k * 3 + 1, none⟩ = some (.int .i64 rs[k].arr) ∧ w.cell? ⟨b, o + k * 3 + 2, none⟩ = some (tv k)) ∧
    (∀ k (h : k < rs.length), IntsP w P (tv k) rs[k].takes) ∧ rs.length ≤ c
theorem RunsP.keep {w w' : World} {P : Nat → Prop} {v : Value} {rs : List Run} (h : RunsP w P v rs) (hb : ∀ k, P k → k < w.heap.size → w'.heap[k]? = w.heap[k]?) : RunsP w' P v rs := by
  obtain ⟨A, c, tv, hv, hx, ht, hcap⟩ := h; refine ⟨A, c, tv, hv, fun hne => ?_, fun k hk => (ht k hk).keep hb, hcap⟩; obtain ⟨b, o, hA, hp, hc⟩ := hx hne; have e : ∀ {j : Nat} {u : Value}, w.cell? ⟨b, j, none⟩ = some u → w'.cell? ⟨b, j, none⟩ = some u := fun {j u} c => (World.cell?_of_block (a := ⟨b, j, none⟩) (hb b hp (cell_lt c))).trans c; exact ⟨b, o, hA, hp, fun k hk => ⟨e (hc k hk).1, e (hc k hk).2.1, e (hc k hk).2.2⟩⟩
def OrderP (w : World) (P : Nat → Prop) (v : Value) (o : Ord) : Prop := ∃ cv rv, v = .agg #[cv, rv] ∧ IntsP w P cv o.cop ∧ RunsP w P rv o.runs
theorem OrderP.keep {w w' : World} {P : Nat → Prop} {v : Value} {o : Ord} (h : OrderP w P v o) (hb : ∀ k, P k → k < w.heap.size → w'.heap[k]? = w.heap[k]?) : OrderP w' P v o := by
  obtain ⟨cv, rv, rfl, h1, h2⟩ := h; exact ⟨cv, rv, rfl, h1.keep hb, h2.keep hb⟩
theorem OrderP.ext {w w' : World} {P : Nat → Prop} {v : Value} {o : Ord} (h : OrderP w P v o) (hE : Ext w w') : OrderP w' P v o := h.keep fun k _ hk => Below.block hE k hk
theorem OrderP.put {w V : World} {b i : Nat} {P : Nat → Prop} {v : Value} {o : Ord} {vs : List Value} (h : OrderP w P v o) (p : Put w V b i vs) (hb : ¬ P b) : OrderP V P v o := h.keep fun k hp hl => p.chg.block k hl (by simp; intro e; subst e; exact hb hp)
def Ord.app (a b : Ord) : Ord := ⟨a.cop, a.runs ++ b.runs⟩
@[go_sem] theorem field1 (u : Value) (A : Option Addr) (n c : Nat) (w : World) : (Instr.field 25 (.agg #[u, .slice A n c]) 1).run Try.prog w = .ok (.slice A n c) w := by kernel_rfl
end Go.Proofs.Ytnfagcccgmakdaa
namespace Go.Proofs.Ytnfagcccgmakdaa
open Go.RowKit Go.Wk Go.Proofs
def ChnTo {α : Type} (f : α → Option α) (e : Option α) : List α → Prop
  | [] => True
  | a :: L => f a = (L.head?.or e) ∧ ChnTo f e L
theorem ChnTo.app {α : Type} {f : α → Option α} {e : Option α} {B : List α} (hB : ChnTo f e B) : ∀ {A : List α}, ChnTo f (B.head?.or e) A → ChnTo f e (A ++ B)
  | [], _ => hB
  | a :: A, h => by
    refine ⟨?_, ChnTo.app hB h.2⟩; rw [h.1]
    cases A <;> simp
theorem ChnTo.get {α : Type} {f : α → Option α} : ∀ {L : List α}, ChnTo f none L → ∀ k a, L[k]? = some a → f a = L[k + 1]?
  | [], _, k, a, h => by simp at h
  | b :: L, hL, 0, a, h => by
    simp at h; subst h; rw [hL.1]; cases L <;> simp
  | b :: L, hL, k + 1, a, h => by
    rw [List.getElem?_cons_succ] at h ⊢; exact ChnTo.get hL.2 k a h
def nextC (g : Int) : List Int → Option (List Int)
  | [] => none
  | x :: l => match nextC g l with
    | some l' => some (x :: l')
    | none => if x < g then some ((x + 1) :: List.replicate l.length 1) else none
theorem nextC_all (g : Int) : ∀ t, nextC g (List.replicate t g) = none
  | 0 => rfl
  | t + 1 => by rw [List.replicate_succ]; unfold nextC; rw [nextC_all g t]; simp
theorem nextC_at {g x : Int} (hx : x < g) (t : Nat) : ∀ p : List Int, nextC g (p ++ x :: List.replicate t g) = some (p ++ (x + 1) :: List.replicate t 1)
  | [] => by
    show nextC g (x :: List.replicate t g) = _
    unfold nextC; rw [nextC_all g t]; simp [hx]
  | y :: p => by
    show nextC g (y :: (p ++ x :: List.replicate t g)) = _
    unfold nextC; rw [nextC_at hx t p]; rfl
def blkL (g : Nat) (T : List (List Int)) : Nat → List (List Int)
  | 0 => []
  | j + 1 => T.map (((g : Int) - j) :: ·) ++ blkL g T j
def triedL (g : Nat) : Nat → List (List Int)
  | 0 => [[]]
  | m + 1 => blkL g (triedL g m) g
theorem blkL_get (g : Nat) (T : List (List Int)) : ∀ j q i (hi : i < T.length), q < j → (blkL g T j)[q * T.length + i]? = some (((g : Int) - (j : Int) + 1 + q) :: T[i])
  | 0, q, i, _, h => absurd h (Nat.not_lt_zero _)
  | j + 1, 0, i, hi, _ => by
    rw [blkL, Nat.zero_mul, Nat.zero_add, List.getElem?_append_left (by simpa using hi), List.getElem?_map, List.getElem?_eq_getElem hi]; simp; omega
  | j + 1, q + 1, i, hi, h => by
    rw [blkL, List.getElem?_append_right (by rw [List.length_map, Nat.add_mul]; omega), List.length_map, show (q + 1) * T.length + i - T.length = q * T.length + i by rw [Nat.add_mul]; omega, blkL_get g T j q i hi (by omega)]
    congr 2
    omega
theorem tried_len {g : Nat} : ∀ {m : Nat} {l : List Int}, l ∈ triedL g m → l.length = m
  | 0, l, h => by simp [triedL] at h; subst h; rfl
  | m + 1, l, h => by
    have key : ∀ j, l ∈ blkL g (triedL g m) j → l.length = m + 1 := by
      intro j
      induction j with
      | zero => intro h; simp [blkL] at h
      | succ j ih =>
        intro h; rw [blkL, List.mem_append] at h
        rcases h with h | h
        · obtain ⟨l', h1, rfl⟩ := List.mem_map.1 h; simp [tried_len h1]
        · exact ih h
    exact key g h
theorem tried_in {g : Nat} : ∀ {m : Nat} {l : List Int}, l ∈ triedL g m → ∀ x ∈ l, 1 ≤ x ∧ x ≤ g
  | 0, l, h => by simp [triedL] at h; subst h; simp
  | m + 1, l, h => by
    have key : ∀ j, j ≤ g → l ∈ blkL g (triedL g m) j → ∀ x ∈ l, 1 ≤ x ∧ x ≤ g := by
      intro j
      induction j with
      | zero => intro _ h; simp [blkL] at h
      | succ j ih =>
        intro hj h; rw [blkL, List.mem_append] at h
        rcases h with h | h
        · obtain ⟨l', h1, rfl⟩ := List.mem_map.1 h; intro x hx
          rcases List.mem_cons.1 hx with rfl | hx
          · omega
          · exact tried_in h1 x hx
        · exact ih (by omega) h
    exact key g (Nat.le_refl _) h
theorem tried_mem {g : Nat} : ∀ {m : Nat} {l : List Int}, l.length = m → (∀ x ∈ l, 1 ≤ x ∧ x ≤ g) → l ∈ triedL g m
  | 0, l, h, _ => by simp [triedL]; exact List.length_eq_zero_iff.1 h
  | m + 1, [], h, _ => by simp at h
  | m + 1, x :: l, h, hx => by
    have h1 : l ∈ triedL g m := tried_mem (by simpa using h) fun y hy => hx y (List.mem_cons_of_mem _ hy); have h2 := hx x (List.mem_cons_self ..); obtain ⟨i, hi, rfl⟩ := List.getElem_of_mem h1; have := blkL_get g (triedL g m) g (x.toNat - 1) i hi (by omega); rw [show (g : Int) - (g : Int) + 1 + ((x.toNat - 1 : Nat) : Int) = x by omega] at this; exact List.mem_of_getElem? this
theorem tried_head {g : Nat} (hg : 1 ≤ g) : ∀ m, (triedL g m).head? = some (List.replicate m 1)
  | 0 => rfl
  | m + 1 => by
    obtain ⟨g', rfl⟩ : ∃ g', g = g' + 1 := ⟨g - 1, by omega⟩; have := tried_head hg m
    show (blkL (g' + 1) (triedL (g' + 1) m) (g' + 1)).head? = _
    rw [blkL, List.head?_append, List.head?_map, this]; simp [List.replicate_succ]; omega
theorem chn_map {g x : Int} {m : Nat} : ∀ {A : List (List Int)}, (∀ l ∈ A, l.length = m) → ChnTo (nextC g) none A → ChnTo (nextC g) (if x < g then some ((x + 1) :: List.replicate m 1) else none) (A.map (x :: ·))
  | [], _, _ => trivial
  | a :: A, hl, h => by
    refine ⟨?_, chn_map (fun l hl' => hl l (List.mem_cons_of_mem _ hl')) h.2⟩; have h1 := h.1; have h2 := hl a (List.mem_cons_self ..)
    show nextC g (x :: a) = _
    unfold nextC; rw [h1, h2]
    cases A <;> simp
theorem tried_chn {g : Nat} (hg : 1 ≤ g) : ∀ m, ChnTo (nextC g) none (triedL g m)
  | 0 => ⟨rfl, trivial⟩
  | m + 1 => by
    have hT := tried_chn hg m; have hh := tried_head hg m
    have key : ∀ j, j ≤ g → ChnTo (nextC g) none (blkL g (triedL g m) j) ∧ (blkL g (triedL g m) j).head? = if 0 < j then some (((g : Int) - j + 1) :: List.replicate m 1) else none := by
      intro j
      induction j with
      | zero => intro _; exact ⟨trivial, rfl⟩
      | succ j ih =>
        intro hj; obtain ⟨h1, h2⟩ := ih (by omega); refine ⟨?_, ?_⟩
        · rw [blkL]; refine ChnTo.app h1 ?_; have := chn_map (x := (g : Int) - j) (fun l hl => tried_len hl) hT; rw [h2]
          by_cases h0 : 0 < j
          · rw [if_pos (by omega)] at this; rw [if_pos h0]; exact this
          · rw [if_neg (by omega)] at this; rw [if_neg h0]; exact this
        · rw [blkL, List.head?_append, List.head?_map, hh, if_pos (by omega)]; simp; omega
    exact (key g (Nat.le_refl _)).1
theorem tried_next {g m k : Nat} {l : List Int} (hg : 1 ≤ g) (h : (triedL g m)[k]? = some l) : nextC g l = (triedL g m)[k + 1]? := (tried_chn hg m).get k l h
theorem tried_zero {g m : Nat} (hg : 1 ≤ g) : (triedL g m)[0]? = some (List.replicate m 1) := by rw [← List.head?_eq_getElem?]; exact tried_head hg m
def Ord.cops (o : Ord) (l : List Int) : Ord := { o with cop := l }
def fewStep (o : Ord) (d : Int) (b l : List Int) : List Int := if endS (o.cops l) ≤ d ∧ (b = [] ∨ l.sum < b.sum) then l else b
def fewL (o : Ord) (d : Int) (L : List (List Int)) : List Int := L.foldl (fewStep o d) []
theorem fewL_take {o : Ord} {d : Int} {L : List (List Int)} {k : Nat} {l : List Int} (h : L[k]? = some l) : fewL o d (L.take (k + 1)) = fewStep o d (fewL o d (L.take k)) l := by
  unfold fewL; rw [List.take_add_one, h, List.foldl_append]; rfl
theorem fewL_in {o : Ord} {d : Int} {L : List (List Int)} : fewL o d L = [] ∨ fewL o d L ∈ L := by
  have key : ∀ (L : List (List Int)) (b : List Int), L.foldl (fewStep o d) b = b ∨ L.foldl (fewStep o d) b ∈ L := by
    intro L
    induction L with
    | nil => exact fun b => .inl rfl
    | cons l L ih =>
      intro b; rw [List.foldl_cons]
      rcases ih (fewStep o d b l) with h | h
      · rw [h]; unfold fewStep; split
        · exact .inr (List.mem_cons_self ..)
        · exact .inl rfl
      · exact .inr (List.mem_cons_of_mem _ h)
  exact key L []
theorem fewL_spec {o : Ord} {d : Int} {L : List (List Int)} (hL : ∀ l ∈ L, l ≠ []) :
    (fewL o d L ≠ [] → endS (o.cops (fewL o d L)) ≤ d) ∧ ∀ l ∈ L, endS (o.cops l) ≤ d → fewL o d L ≠ [] ∧ (fewL o d L).sum ≤ l.sum := by
  have key : ∀ (L : List (List Int)) (b : List Int), (∀ l ∈ L, l ≠ []) → (b ≠ [] → endS (o.cops b) ≤ d) →
      (L.foldl (fewStep o d) b ≠ [] → endS (o.cops (L.foldl (fewStep o d) b)) ≤ d) ∧ (b ≠ [] → L.foldl (fewStep o d) b ≠ [] ∧ (L.foldl (fewStep o d) b).sum ≤ b.sum) ∧
      ∀ l ∈ L, endS (o.cops l) ≤ d → L.foldl (fewStep o d) b ≠ [] ∧ (L.foldl (fewStep o d) b).sum ≤ l.sum := by
    intro L
    induction L with
    | nil => exact fun b _ hb => ⟨hb, fun h => ⟨h, Int.le_refl _⟩, fun l h => by simp at h⟩
    | cons l L ih =>
      intro b hL hb; rw [List.foldl_cons]; have hl := hL l (List.mem_cons_self ..)
      have hb2 : fewStep o d b l ≠ [] → endS (o.cops (fewStep o d b l)) ≤ d := by
        unfold fewStep; split
        · rename_i h; exact fun _ => h.1
        · exact hb
      obtain ⟨h1, h2, h3⟩ := ih (fewStep o d b l) (fun x hx => hL x (List.mem_cons_of_mem _ hx)) hb2; refine ⟨h1, fun hne => ?_, fun x hx hxe => ?_⟩
      · by_cases hc : endS (o.cops l) ≤ d ∧ (b = [] ∨ l.sum < b.sum)
        · have e : fewStep o d b l = l := by unfold fewStep; rw [if_pos hc]
          rw [e] at h2 ⊢; obtain ⟨h4, h5⟩ := h2 hl
          rcases hc.2 with h6 | h6
          · exact absurd h6 hne
          · exact ⟨h4, by omega⟩
        · have e : fewStep o d b l = b := by unfold fewStep; rw [if_neg hc]
          rw [e] at h2 ⊢; exact h2 hne
      · rcases List.mem_cons.1 hx with rfl | hx
        · by_cases hc : b = [] ∨ x.sum < b.sum
          · have e : fewStep o d b x = x := by unfold fewStep; rw [if_pos ⟨hxe, hc⟩]
            rw [e] at h2 ⊢; exact h2 hl
          · have e : fewStep o d b x = b := by unfold fewStep; rw [if_neg (fun h => hc h.2)]
            rw [e] at h2 ⊢; have hne : b ≠ [] := fun h => hc (.inl h); obtain ⟨h4, h5⟩ := h2 hne; exact ⟨h4, by have : ¬ x.sum < b.sum := fun h => hc (.inr h); omega⟩
        · exact h3 x hx hxe
  obtain ⟨h1, -, h3⟩ := key L [] hL (fun h => absurd rfl h); exact ⟨h1, h3⟩
end Go.Proofs.Ytnfagcccgmakdaa
namespace Go.Proofs.Ytnfagcccgmakdaa
open Go.RowKit Go.Wk Go.Proofs
theorem good_cops {o : Ord} (hg : OrdGood o) {l : List Int} (hl : l.length = o.m) (hx : ∀ x ∈ l, 1 ≤ x ∧ x ≤ 20) : OrdGood (o.cops l) := by
  have hl' : l.length = o.cop.length := hl; have e : (o.cops l).cop.length = o.cop.length := hl; exact ⟨by rw [e]; exact hg.m1, by rw [e]; exact hg.m2, hg.n2, hx, fun r hr => by rw [e]; exact hg.runs r hr, hg.ids⟩
theorem good_tried {o : Ord} (hg : OrdGood o) {g : Nat} (hg2 : g ≤ 20) {l : List Int} (h : l ∈ triedL g o.m) : OrdGood (o.cops l) :=
  good_cops hg (tried_len h) fun x hx => by have := tried_in h x hx; omega
theorem foldmax_ge : ∀ (L : List Run) (b : Int), b ≤ L.foldl (fun m r => max m (ampleR r)) b
  | [], _ => Int.le_refl _
  | r :: L, b => Int.le_trans (Int.le_max_left ..) (foldmax_ge L _)
theorem foldmax_mem : ∀ (L : List Run) (b : Int) {r : Run}, r ∈ L → ampleR r ≤ L.foldl (fun m r => max m (ampleR r)) b
  | x :: L, b, r, h => by
    rcases List.mem_cons.1 h with rfl | h
    · exact Int.le_trans (Int.le_max_right ..) (foldmax_ge L _)
    · exact foldmax_mem L _ h
theorem foldmax_le : ∀ (L : List Run) (b B : Int), b ≤ B → (∀ r ∈ L, ampleR r ≤ B) → L.foldl (fun m r => max m (ampleR r)) b ≤ B
  | [], _, _, h, _ => h
  | x :: L, b, B, h, hL => foldmax_le L _ B (Int.max_le.2 ⟨h, hL x (List.mem_cons_self ..)⟩) fun r hr => hL r (List.mem_cons_of_mem _ hr)
theorem sum_take_le : ∀ (l : List Int) (k : Nat), (∀ x ∈ l, 0 ≤ x) → 0 ≤ (l.take k).sum ∧ (l.take k).sum ≤ l.sum
  | [], k, _ => by simp
  | x :: l, 0, h => by
    have h1 := sum_take_le l 0 fun y hy => h y (List.mem_cons_of_mem _ hy); have h2 := h x (List.mem_cons_self ..); simp at h1 ⊢; omega
  | x :: l, k + 1, h => by
    have h1 := sum_take_le l k fun y hy => h y (List.mem_cons_of_mem _ hy); have h2 := h x (List.mem_cons_self ..); simp; omega
def Ord.tk (o : Ord) (i : Nat) : List Int := (o.runs[i]?.getD default).takes
section
variable {o : Ord}
theorem tk_step (hg : OrdGood o) {i j : Nat} (hi : i < o.n) (hj : j < o.m) : ((o.tk i).take (j + 1)).sum = ((o.tk i).take j).sum + o.T i j := by
  have hl := hg.takes_len hi; have hj2 : j < (o.tk i).length := by unfold Ord.tk; rw [hl]; exact hj
  rw [sumI_take _ _ hj2]
  congr 1
  unfold Ord.T
  show _ = (o.tk i)[j]?.getD 0
  rw [List.getElem?_eq_getElem hj2]; rfl
theorem tk_all (hg : OrdGood o) {i : Nat} (hi : i < o.n) : (o.tk i).take o.m = o.tk i := by
  have hl := hg.takes_len hi; exact List.take_of_length_le (by unfold Ord.tk; rw [hl]; exact Nat.le_refl _)
theorem tk_pos (hg : OrdGood o) {i : Nat} (hi : i < o.n) : ∀ x ∈ o.tk i, 0 ≤ x := by
  intro x hx; unfold Ord.tk at hx; rw [List.getElem?_eq_getElem (show i < o.runs.length from hi)] at hx; have := (hg.runs _ (List.getElem_mem _)).takes x hx; omega
theorem amp_i {i : Nat} (hi : i < o.runs.length) : ampleR o.runs[i] = o.A i + (o.tk i).sum := by
  unfold ampleR Ord.A Ord.tk; rw [List.getElem?_eq_getElem (show i < o.runs.length from hi)]; rfl
theorem keeps_ge (hg : OrdGood o) {t : Nat → Nat → Int} (hk : KeepsP o t) {i : Nat} (hi : i < o.n) : ∀ j, j < o.m → o.A i + ((o.tk i).take j).sum ≤ t i j
  | 0, _ => by have := hk.arr i hi; simp; exact this
  | j + 1, h => by
    have h1 := keeps_ge hg hk hi j (by omega); have h2 := hk.piece i j hi h; rw [tk_step hg hi (by omega)]; omega
theorem ample_end (hg : OrdGood o) : ampleV o ≤ endS o := by
  refine foldmax_le _ _ _ end_nonneg fun r hr => ?_; obtain ⟨i, hi, rfl⟩ := List.getElem_of_mem hr; have hi' : i < o.n := hi; have hm := hg.ok.hm1; rw [amp_i hi]; have h1 := keeps_ge hg (beg_keeps hg.ok) hi' (o.m - 1) (by omega); have h2 := end_ge (o := o) hi' (show o.m - 1 < o.m by omega); have h3 := tk_step hg hi' (show o.m - 1 < o.m by omega); rw [show o.m - 1 + 1 = o.m by omega, tk_all hg hi'] at h3; omega
theorem end_free (hg : OrdGood o) (hC : ∀ j, j < o.m → (o.n : Int) ≤ o.C j) : endS o ≤ ampleV o := by
  have hA0 : 0 ≤ ampleV o := foldmax_ge _ _
  have hk : KeepsP o (fun i j => o.A i + ((o.tk i).take j).sum) := by
    refine ⟨fun i hi => by simp, fun i j hi hj => by show _ ≤ o.A i + ((o.tk i).take (j + 1)).sum; rw [tk_step hg hi (by omega)]; omega, fun i k j hi hj h => ?_⟩; have := hC j hj; omega
  refine end_le hA0 fun i j hi hj => ?_
  have h1 := beg_least hg.ok hk (fun i j hi hj => by
    have := (sum_take_le (o.tk i) j (tk_pos hg hi)).1; have := (hg.ok.vA i hi).1
    show 0 ≤ o.A i + _
    omega) (i + j) i j rfl hi hj
  have h1 : begA o i j ≤ o.A i + ((o.tk i).take j).sum := h1; have h2 := tk_step hg hi hj; have h3 := (sum_take_le (o.tk i) (j + 1) (tk_pos hg hi)).2; have hi' : i < o.runs.length := hi; have h4 := foldmax_mem o.runs 0 (List.getElem_mem hi'); rw [amp_i hi'] at h4; have h5 : o.A i + (o.tk i).sum ≤ ampleV o := h4; omega
theorem few_ample (hg : OrdGood o) (hn : 0 < o.n) (d : Int) : fewL o d (triedL o.n o.m) ≠ [] ↔ ampleV o ≤ d := by
  have hn2 := hg.ok.hn2; have hm := hg.ok.hm1; have hne : ∀ l ∈ triedL o.n o.m, l ≠ [] := fun l hl e => by have := tried_len hl; rw [e] at this; simp at this; omega
  obtain ⟨h1, h2⟩ := fewL_spec (o := o) (d := d) hne
  constructor
  · intro h
    rcases fewL_in (o := o) (d := d) (L := triedL o.n o.m) with he | he
    · exact absurd he h
    · have h3 := ample_end (good_tried hg (by omega) he); exact Int.le_trans h3 (h1 h)
  · intro h
    have hr : List.replicate o.m (o.n : Int) ∈ triedL o.n o.m := tried_mem (by simp) fun x hx => by
      rw [List.eq_of_mem_replicate hx]; omega
    refine (h2 _ hr (Int.le_trans (end_free (good_tried hg (by omega) hr) fun j hj => ?_) h)).1; have hj' : j < o.m := by rw [show (o.cops (List.replicate o.m (o.n : Int))).m = (List.replicate o.m (o.n : Int)).length from rfl, List.length_replicate] at hj; exact hj
    show (o.n : Int) ≤ (List.replicate o.m (o.n : Int))[j]?.getD 0
    rw [List.getElem?_replicate, if_pos hj']; exact Int.le_refl _
end
end Go.Proofs.Ytnfagcccgmakdaa
namespace Go.Proofs.Ytnfagcccgmakdaa
open Go.RowKit Go.Wk Go.Proofs
attribute [local irreducible] Go.Wk.Wops Go.Wk.Wp Go.Wk.Mtree Go.Wk.Mops
set_option maxHeartbeats 4000000
theorem copy_patI {w : World} {g n c sb so sLen cap1 cap2 : Nat} {cur : Array Value} {e0 : Value} (ty : TypeId) (o0 : e0.oneCell' = true) (hg : w.heap[g]? = some (.cells cur 3 (0, 0))) (hc : cur.size = c) (hn : n ≤ c)
    (hp : ∀ j, j < n → cur[j]? = some e0) (hs : ∀ j, j < sLen → w.cell? ⟨sb, so + j, none⟩ = some e0) :
    ∃ w', (Builtin.copy_ #[22, 22] ty #[.slice (some ⟨g, n, none⟩) (c - n) cap1, .slice (some ⟨sb, so, none⟩) sLen cap2]).run Try.prog w = .ok (goInt (Nat.min sLen (c - n))) w' ∧
      (∃ cur', w'.heap[g]? = some (.cells cur' 3 (0, 0)) ∧ cur'.size = c ∧ ∀ j, j < n + Nat.min sLen (c - n) → cur'[j]? = some e0) ∧ w.grownBy w' (some g) ∧ w'.heap.size = w.heap.size := by
  obtain ⟨i, z, h1', h2, h3, h4, h5, h6, h7⟩ := ints_T.ex; have hs' : (Try.prog.info? 3).map (·.size) = some 1 := by rw [h2]; simp [h4]
  obtain ⟨m, hm⟩ : ∃ m, Nat.min sLen (c - n) = m := ⟨_, rfl⟩; have hm1 : m ≤ sLen := by rw [← hm]; exact Nat.min_le_left _ _
  have hm2 : m ≤ c - n := by rw [← hm]; exact Nat.min_le_right _ _
  have hl : (List.replicate m e0).length = m := by simp
  have hr := run_copy_rowN (P := Try.prog) w 22 22 ty 3 1 g n (c - n) cap1 ⟨sb, so, none⟩ sLen cap2 cur 3 (List.replicate m e0) h1' hs' hg (by rw [hl, hm]; omega)
    (fun j v hv => by
      have hj : j < m := by have := (List.getElem?_eq_some_iff.1 hv).1; simpa using this
      rw [List.getElem?_replicate, if_pos hj] at hv; have hv := Option.some.inj hv; subst hv
      rw [Addr.add_lit]; exact hs j (by omega))
    (by rw [hl, hc]; omega)
    (fun v hv => by rw [List.eq_of_mem_replicate hv]; exact o0)
  rw [hm] at hr ⊢; refine ⟨_, hr, ⟨_, setRow_heap w g cur _ _ _ hg, ?_, fun j hj => ?_⟩, ⟨rfl, rfl, rfl, by simp [World.setRow], fun k _ hk => setRow_other w g k _ (fun e => hk (by rw [e]))⟩, by simp [World.setRow]⟩
  · simp only [List.size_toArray, List.length_append, List.length_take, List.length_drop, hl, Array.length_toList, hc]; omega
  · rw [List.getElem?_toArray]; have ht : (cur.toList.take n).length = n := by simp [hc]; omega
    by_cases h1 : j < n
    · rw [List.getElem?_append_left (by rw [List.length_append, ht, hl]; omega), List.getElem?_append_left (by rw [ht]; exact h1), List.getElem?_take, if_pos h1, Array.getElem?_toList]; exact hp j h1
    · rw [List.getElem?_append_left (by rw [List.length_append, ht, hl]; omega), List.getElem?_append_right (by rw [ht]; omega), ht, List.getElem?_replicate, if_pos (by omega)]
theorem repeatI_c (b k rc c : Nat) (e0 : Value) (o0 : e0.oneCell' = true) (hc : 1 ≤ c ∧ c ≤ 20) (w : World) (h0 : w.cell? ⟨b, k, none⟩ = some e0) :
    CallsV Try.prog 114 #[.slice (some ⟨b, k, none⟩) 1 rc, .int .i64 (c : Int)] w fun v w' => ∃ g, v = .slice (some ⟨g, 0, none⟩) c c ∧ w.heap.size ≤ g ∧ RowC w' g 3 (List.replicate c e0) ∧ Ext w w' := by
  have hu1 : IntKind.u64.wrap 1 = 1 := by decide
  have hu2 : IntKind.u64.wrap (c : Int) = (c : Int) := by rcases upTo20 hc.2 with rfl | rfl | rfl | rfl | rfl | rfl | rfl | rfl | rfl | rfl | rfl | rfl | rfl | rfl | rfl | rfl | rfl | rfl | rfl | rfl | rfl <;> decide
  have hu3 : IntKind.i64.wrap (c : Int) = (c : Int) := IntWalk.i64_in _ (by omega); have hc9 : c ≤ 1000000000 := by omega
  have hc8 : (c : Int) ≤ 9223372036854775807 := by omega
  refine Wp.fn Try.func114 rfl Try.ntmps114 (by simp) ?_; refine Wp.keep [0, 1] fun r1 hkeep => ?_; obtain ⟨e0_1, e1_1, -⟩ := hkeep; simp [go_sem] at e0_1 e1_1; refine Wp.seqRegion (.inl rfl) (by kernel_rfl) fun K' gd hK hg => ?_; clear hg; go_simp; refine hK _ _ ?_; clear hK K' gd; refine Wp.keep [0, 1] fun r2 hkeep => ?_; obtain ⟨e0_2, e1_2, -⟩ := hkeep; simp [go_sem, e0_1, e1_1] at e0_2 e1_2; clear e0_1 e1_1; refine Wp.seq ?_; refine Wp.seqRegion (.inl rfl) (by kernel_rfl) fun K' gd hK hg => ?_; clear hg; go_simp; refine hK _ _ ?_; clear hK K' gd; refine Wp.keep [0, 1, 10] fun r3 hkeep => ?_; obtain ⟨e0_3, e1_3, e10_3, -⟩ := hkeep; simp [go_sem, e0_2, e1_2] at e0_3 e1_3 e10_3; clear e0_2 e1_2; refine Wp.condF (by go_simp) ?_; refine Wp.skip ?_; refine thenK_normal ?_; refine Wp.seqRegion (.inl rfl) (by kernel_rfl) fun K' gd hK hg => ?_; clear hg; go_simp; refine Wcall (.inl rfl) (mul_c c hc.2 _) ?_; rintro v w2 ⟨rfl, hE⟩; go_simp; refine hK _ _ ?_; clear hK K' gd; refine Wp.keep [0, 5, 6] fun r4 hkeep => ?_; obtain ⟨e0_4, e5_4, e6_4, -⟩ := hkeep; simp [go_sem, e0_3, e1_3, e10_3] at e0_4 e5_4 e6_4; clear e0_3 e1_3 e10_3; refine Wp.seq ?_; refine Wp.seqRegion (.inl rfl) (by kernel_rfl) fun K' gd hK hg => ?_; have g2 : gd 2 = some 23 := hg 2; clear hg; go_simp; refine hK _ _ ?_; clear hK K' gd g2; refine Wp.keep [0, 6, 26] fun r5 hkeep => ?_; obtain ⟨e0_5, e6_5, e26_5, -⟩ := hkeep; simp [go_sem, e0_4, e5_4, e6_4] at e0_5 e6_5 e26_5; clear e0_4 e5_4 e6_4; refine Wp.condF (by go_simp) ?_
  have hEw2 : Ext w w2 := (by repeat (first | assumption | exact Ext.refl _ | refine Ext.drew ?_ | refine Ext.alloc ?_ _ | refine Ext.trans ?_ (by assumption))); have p0 := hEw2.cell h0; refine Wp.skip ?_; refine thenK_normal ?_; refine Wp.seqRegion (.inl rfl) (by kernel_rfl) fun K' gd hK hg => ?_; clear hg; go_simp; refine hK _ _ ?_; clear hK K' gd; refine Wp.keep [0, 7] fun r6 hkeep => ?_; obtain ⟨e0_6, e7_6, -⟩ := hkeep; simp [go_sem, e0_5, e6_5, e26_5] at e0_6 e7_6; clear e0_5 e6_5 e26_5; have hg0 : (w2.alloc (.cells (madeC Try.prog 3 c) 3)).heap[w2.heap.size]? = some (.cells (madeC Try.prog 3 c) 3 (0, 0)) := World.alloc_heap_new _ _; obtain ⟨V1, hV1⟩ : ∃ V1, w2.alloc (.cells (madeC Try.prog 3 c) 3) = V1 := ⟨_, rfl⟩; have hEV : Ext w V1 := by rw [← hV1]; exact (by repeat (first | assumption | exact Ext.refl _ | refine Ext.drew ?_ | refine Ext.alloc ?_ _ | refine Ext.trans ?_ (by assumption)))
  obtain ⟨g, hgg⟩ : ∃ g, g = w2.heap.size := ⟨_, rfl⟩; have hgw : w.heap.size ≤ g := by rw [hgg]; exact Below.size hEw2
  rw [← hgg] at hg0 e7_6; rw [hV1] at hg0 ⊢; clear hgg; have hs0 : ∀ j, j < 1 → V1.cell? ⟨b, k + j, none⟩ = some e0 := fun j hj => by obtain rfl : j = 0 := (by omega); exact hEV.cell h0
  refine Wp.seqRegion (.inl rfl) (by kernel_rfl) fun K' gd hK hg => ?_; clear hg; refine Wops.cut 2 fun K1 hK1 => ?_; simp only [List.take_succ_cons, List.take_zero]; go_simp; refine hK1 _ _ ?_; clear hK1 K1; simp only [List.drop_succ_cons, List.drop_zero]; obtain ⟨W1, hrun, ⟨cur, g1, g2, g3⟩, hgr, hsz⟩ := copy_patI (n := 0) (cap1 := c) (cap2 := rc) (sLen := 1) 3 o0 hg0 (by rw [madeC_size ints_T c, Nat.mul_one]) (Nat.zero_le _) (fun j hj => absurd hj (by omega)) hs0; refine Wops.law rfl (exec_copy2 rfl hrun (by go_simp) (by go_simp)) ?_; go_simp; refine hK _ _ ?_; clear hK K' gd; refine Wp.keep [7, 8] fun r7 hkeep => ?_; obtain ⟨e7_7, e8_7, -⟩ := hkeep; simp [go_sem, e0_6, e7_6] at e7_7 e8_7; clear e0_6 e7_6; have hmin : Nat.min 1 (c - 0) = 1 := Nat.min_eq_left (by omega); rw [hmin] at g3; have hEW : Ext w W1 := Go.RowKit.Below.grown hEV hgr (Below.size hEV) (fun q e => by have e := Option.some.inj e; omega); refine Wp.seq ?_; refine Wp.block ?_; refine Wp.loop (fun k ρ ds wk => AllEq [7] ρ r7 ∧ ds = [] ∧ (∃ n cur, ρ 8 = .int .i64 ((n : Nat) : Int) ∧ k + 1 ≤ n ∧ n ≤ c ∧ wk.heap[g]? = some (.cells cur 3 (0, 0)) ∧ cur.size = c ∧ (∀ j, j < n → cur[j]? = some e0) ∧ Ext w wk)) (c) ?_ ?_
  · refine ⟨AllEq.refl _ _, rfl, ?_⟩; exact ⟨1, cur, by rw [e8_7]; rfl, by omega, hc.1, g1, g2, fun j hj => g3 j (by omega), hEW⟩
  · rintro k r8 _ wk hk ⟨hA, rfl, ⟨n, cur, e8, hkn, hnc, i1, i2, i3, i4⟩⟩; obtain ⟨e7_8, -⟩ := hA; rw [e7_7] at e7_8; refine Wp.seq ?_; refine Wp.seqRegion (.inl rfl) (by kernel_rfl) fun K' gd hK hg => ?_; clear hg; go_simp; refine hK _ _ ?_; clear hK K' gd; refine Wp.keep [7, 8, 37] fun r9 hkeep => ?_; obtain ⟨e7_9, e8_9, e37_9, -⟩ := hkeep; simp [go_sem, e7_8, e8] at e7_9 e8_9 e37_9; clear e7_8 e8
    by_cases h : n < c
    · refine Wp.condT (by go_simp) ?_; have b1 : (n : Int) ≤ (c : Int) := by omega
      have b2 : (0 : Int) ≤ (n : Int) := by omega
      have hcn : ¬ c = n := by omega
      obtain ⟨mm, hmm⟩ : ∃ mm, Nat.min n (c - n) = mm := ⟨_, rfl⟩; have hm1 : mm ≤ c - n := by rw [← hmm]; exact Nat.min_le_right _ _
      have hm2 : 0 < mm := by rw [← hmm]; exact Nat.lt_min.2 ⟨by omega, by omega⟩
      have hwc : IntKind.i64.wrap ((n : Int) + (mm : Int)) = ((n + mm : Nat) : Int) := by rw [IntWalk.i64_in _ (by omega)]; omega
      have hwd : IntKind.i64.wrap ((n : Int) + (mm : Int)) = (n : Int) + (mm : Int) := IntWalk.i64_in _ (by omega); have hs1 : ∀ j, j < n → wk.drew.cell? ⟨g, 0 + j, none⟩ = some e0 := fun j hj => by rw [Nat.zero_add]; exact (cell_of_row wk g j cur _ _ i1).trans (i3 j hj)
      refine Wp.skip ?_; refine thenK_normal ?_; refine Wp.block ?_; refine Wp.loneDrawT (.inl rfl) mixed (.rd [1, 2, 3, 4, 5, 6] (.both (.act 0 false (.act 7 true (.act 8 true (.act 9 true .done)))) (.act 7 true (.act 0 false (.act 8 true (.act 9 true .done)))))) (by kernel_rfl) (fun ρ W => AllEq [7] ρ r9 ∧ (∃ n2 cur2, ρ 8 = .int .i64 ((n2 : Nat) : Int) ∧ n < n2 ∧ n2 ≤ c ∧ W.heap[g]? = some (.cells cur2 3 (0, 0)) ∧ cur2.size = c ∧ (∀ j, j < n2 → cur2[j]? = some e0) ∧ Ext w W)) (fun K' gd hK hg => ?_) ?_
      · skip; clear hg; simp only [pickT, nth, List.map_cons, List.map_nil]; apply Mtree.reads
        · intro w' hE'; have hC' := hE'.cellsS; go_simp; with_reducible rfl
        refine Mtree.two ?_ ?_
        · skip; refine Mtree.step fun K1 hK1 => ?_; go_simp; refine hK1 _ _ (by first | exact (Ext.refl _).alloc _ | exact Ext.refl _) ?_; clear hK1 K1; refine Mtree.stepT fun K1 hK1 => ?_; obtain ⟨W3, hrun, ⟨cur3, k1, k2, k3⟩, hgr3, hsz3⟩ := copy_patI (w := wk.drew) (n := n) (cap1 := c - n) (cap2 := c) (sLen := n) (sb := g) (so := 0) 3 o0 i1 i2 hnc i3 hs1; rw [hmm] at hrun k3; refine if_pos_of rfl (Wstep.law (exec_copy2 rfl hrun (by go_simp) (by go_simp)) ?_); refine hK1 _ _ ?_; clear hK1 K1; refine Mtree.stepT fun K1 hK1 => ?_; go_simp; refine hK1 _ _ ?_; clear hK1 K1; refine Mtree.stepT fun K1 hK1 => ?_; go_simp; refine hK1 _ _ ?_; clear hK1 K1; refine Mtree.fin ?_; refine hK _ _ ⟨by simp [AllEq, go_sem], ?_⟩; exact ⟨n + mm, cur3, by go_simp, by omega, by omega, k1, k2, k3, Go.RowKit.Below.grown (Ext.drew i4) hgr3 (Below.size (Ext.drew i4)) (fun q e => by have e := Option.some.inj e; omega)⟩
        · skip; refine Mtree.stepT fun K1 hK1 => ?_; obtain ⟨W3, hrun, ⟨cur3, k1, k2, k3⟩, hgr3, hsz3⟩ := copy_patI (w := wk.drew) (n := n) (cap1 := c - n) (cap2 := c) (sLen := n) (sb := g) (so := 0) 3 o0 i1 i2 hnc i3 hs1; rw [hmm] at hrun k3; refine if_pos_of rfl (Wstep.law (exec_copy2 rfl hrun (by go_simp) (by go_simp)) ?_); refine hK1 _ _ ?_; clear hK1 K1; refine Mtree.step fun K1 hK1 => ?_; go_simp; refine hK1 _ _ (by first | exact (Ext.refl _).alloc _ | exact Ext.refl _) ?_; clear hK1 K1; refine Mtree.stepT fun K1 hK1 => ?_; go_simp; refine hK1 _ _ ?_; clear hK1 K1; refine Mtree.stepT fun K1 hK1 => ?_; go_simp; refine hK1 _ _ ?_; clear hK1 K1; refine Mtree.fin ?_; refine hK _ _ ⟨by simp [AllEq, go_sem], ?_⟩; exact ⟨n + mm, cur3, by go_simp, by omega, by omega, k1, k2, k3, Go.RowKit.Below.grown (Ext.drew i4) hgr3 (Below.size (Ext.drew i4)) (fun q e => by have e := Option.some.inj e; omega)⟩
      · rintro r10 W ⟨hA, ⟨n2, cur2, e8, hn1, hn2, m1, m2, m3, m4⟩⟩; obtain ⟨e7_10, -⟩ := hA; rw [e7_9] at e7_10; clear e7_9 e8_9 e37_9; refine Ends.mk ?_; refine blockK_normal ?_; refine thenK_normal ⟨by omega, ⟨by rw [e7_10, e7_7], trivial⟩, rfl, ?_⟩; exact ⟨n2, cur2, e8, by omega, hn2, m1, m2, m3, m4⟩
    · refine Wp.condF (by go_simp) ?_; obtain rfl : n = c := by omega
      refine Wp.exit ?_; refine thenK_exit ?_; refine thenK_exit ?_; refine blockK_here ?_; refine thenK_normal ?_; refine Wp.seqRegion (.inl rfl) (by kernel_rfl) fun K' gd hK hg => ?_; clear hg; go_simp; refine hK _ _ ?_; clear hK K' gd; refine Wp.keep [4] fun r11 hkeep => ?_; obtain ⟨e4_11, -⟩ := hkeep; simp [go_sem, e7_9, e8_9, e37_9] at e4_11; clear e7_9 e8_9 e37_9; refine Wp.ret ?_; refine endK_tmp Try.results114 (by decide) ?_; rw [e4_11]; refine ⟨g, rfl, hgw, ?_, i4⟩; have e : cur = (List.replicate n e0).toArray := by apply Array.ext'; apply List.ext_getElem?; intro j; rw [Array.getElem?_toList]; by_cases hj : j < n; (rw [i3 j hj]; simp [hj]); (rw [Array.getElem?_eq_none (by omega)]; simp [hj])
      unfold RowC; rw [← e]; exact i1
end Go.Proofs.Ytnfagcccgmakdaa
namespace Go.Proofs.Ytnfagcccgmakdaa
open Go.RowKit Go.Wk Go.Proofs
attribute [local irreducible] Go.Wk.Wops Go.Wk.Wp Go.Wk.Mtree Go.Wk.Mops
set_option maxHeartbeats 4000000
theorem RowC.set {w : World} {b : Nat} {e : TypeId} {cs : List Value} (h : RowC w b e cs) (i : Nat) (v : Value) : RowC (w.setCell ⟨b, i, none⟩ v) b e (cs.set i v) := by
  unfold RowC at *; have := heap_setCell_same w b i cs.toArray e v h
  simpa using this
theorem Chg.one {w V : World} {b i : Nat} {v : Value} {L : List Nat} (h : Chg L w V) (hb : b ∈ L) : Chg L w (V.setCell ⟨b, i, none⟩ v) := h.setC hb
theorem setTail (q : List Int) (x : Int) (i : Nat) : ((q ++ [x] ++ List.replicate i 1).map (Value.int .i64)).set q.length (.int .i64 1) = (q ++ List.replicate (i + 1) 1).map (Value.int .i64) := by
  rw [List.replicate_succ]; simp [List.set_append]
theorem setOne (q : List Int) (x y : Int) (r : List Int) : ((q ++ [x] ++ r).map (Value.int .i64)).set q.length (.int .i64 y) = (q ++ y :: r).map (Value.int .i64) := by
  simp [List.set_append]
theorem counts_c (m g : Int) (w : World) : CallsV Try.prog 90 #[.int .i64 m, .int .i64 g] w fun v w' => ∃ bm bg, v = .func (.func 113) #[] #[.pointer (some ⟨bm, 0, none⟩), .pointer (some ⟨bg, 0, none⟩)] ∧
    Ext w w' ∧ w'.cell? ⟨bm, 0, none⟩ = some (.int .i64 m) ∧ w'.cell? ⟨bg, 0, none⟩ = some (.int .i64 g) ∧ w.heap.size ≤ bm ∧ w.heap.size ≤ bg := by
  refine Wp.fn Try.func90 rfl Try.ntmps90 (by simp) ?_; have xw := Ext.refl w; refine Wp.keep [0, 1] fun r1 hkeep => ?_; obtain ⟨e0_1, e1_1, -⟩ := hkeep; simp [go_sem] at e0_1 e1_1; refine Wp.seqRegion (.inl rfl) (by kernel_rfl) fun K' gd hK hg => ?_; clear hg; refine Wops.cut 1 fun K1 hK1 => ?_; simp only [List.take_succ_cons, List.take_zero]; go_simp; refine hK1 _ _ ?_; clear hK1 K1; simp only [List.drop_succ_cons, List.drop_zero]; refine Wops.absA fun V2_1 n2 hV2_1 => ?_; obtain ⟨q2, hV2_1, s2, kV2_1, f2, r2⟩ := hV2_1; try simp only [q2] at kV2_1 f2 r2 ⊢
  replace xw := Ext.trans xw hV2_1; have c2_0 := kV2_1 0 _ rfl; clear kV2_1 hV2_1; clear r2; refine Wops.cut 1 fun K1 hK1 => ?_; simp only [List.take_succ_cons, List.take_zero]; go_simp; refine hK1 _ _ ?_; clear hK1 K1; simp only [List.drop_succ_cons, List.drop_zero]; refine Wops.absA fun V3_2 n3 hV3_2 => ?_; obtain ⟨q3, hV3_2, s3, kV3_2, f3, r3⟩ := hV3_2; try simp only [q3] at kV3_2 f3 r3 ⊢
  replace f2 := Ext.fz hV3_2 c2_0 f2; replace xw := Ext.trans xw hV3_2; replace c2_0 := Ext.cell hV3_2 c2_0; have c3_0 := kV3_2 0 _ rfl; clear kV3_2 hV3_2; clear r3; go_simp; refine hK _ _ ?_; clear hK K' gd; refine Wp.keep [2, 3] fun r2 hkeep => ?_; obtain ⟨e2_2, e3_2, -⟩ := hkeep; simp [go_sem, e0_1, e1_1] at e2_2 e3_2; clear e0_1 e1_1; refine Wp.seqRegion (.inl rfl) (by kernel_rfl) fun K' gd hK hg => ?_; clear hg; go_simp; refine hK _ _ ?_; clear hK K' gd; refine Wp.keep [4] fun r3 hkeep => ?_; obtain ⟨e4_3, -⟩ := hkeep; simp [go_sem, e2_2, e3_2] at e4_3; clear e2_2 e3_2; refine Wp.ret ?_; refine endK_tmp Try.results90 (by decide) ?_; rw [e4_3]; exact ⟨_, _, rfl, xw, c2_0, c3_0, by omega, by omega⟩
def cntC (W : World) (g : Nat) (l : List Int) : Prop := RowC W g 3 (l.map (Value.int .i64))
def cntE (m : Nat) (g : Nat) (_ : List Int) : Array Value := #[.slice (some ⟨g, 0, none⟩) m m]
theorem counts_it (m gr bm bg : Nat) (hm : 1 ≤ m ∧ m ≤ 20) (hg : 1 ≤ gr ∧ gr ≤ 20) :
    IterG Try.prog 113 #[.pointer (some ⟨bm, 0, none⟩), .pointer (some ⟨bg, 0, none⟩)] (cntE m) cntC (fun W => W.cell? ⟨bm, 0, none⟩ = some (.int .i64 (m : Int)) ∧ W.cell? ⟨bg, 0, none⟩ = some (.int .i64 (gr : Int))) (triedL gr m) := by
  intro l J Jx w hD hJE hJxE hJg h0 hY
  show CallsV _ _ #[.func (.yield l) #[] #[], .pointer (some ⟨bm, 0, none⟩), .pointer (some ⟨bg, 0, none⟩)] _ _
  have hw1 : IntKind.i64.wrap ((m : Int) - 1) = (m : Int) - 1 := IntWalk.i64_in _ (by omega); refine Wp.fn Try.func113 rfl Try.ntmps113 (by simp) ?_; refine Wp.keep [0, 1, 2] fun r1 hkeep => ?_; obtain ⟨e0_1, e1_1, e2_1, -⟩ := hkeep; simp [go_sem] at e0_1 e1_1 e2_1; obtain ⟨d0, d1⟩ := hD _ _ _ (h0 w.heap.size w (Nat.le_refl _) (Ext.refl _)); refine Wp.seqRegion (.inl rfl) (by kernel_rfl) fun K' gd hK hg => ?_; clear hg; go_simp; refine Wcall (.inl rfl) (repeatI_c w.heap.size 0 1 m (.int .i64 1) rfl hm _ (cell_nw _ _ _ 0)) ?_; rintro v w2 ⟨g, rfl, hgw, hR0, hE⟩; go_simp; refine hK _ _ ?_; clear hK K' gd; refine Wp.keep [0, 1, 2, 4] fun r2 hkeep => ?_; obtain ⟨e0_2, e1_2, e2_2, e4_2, -⟩ := hkeep; simp [go_sem, e0_1, e1_1, e2_1] at e0_2 e1_2 e2_2 e4_2; clear e0_1 e1_1 e2_1; have hE2 : Ext w w2 := (by repeat (first | assumption | exact Ext.refl _ | refine Ext.drew ?_ | refine Ext.alloc ?_ _ | refine Ext.trans ?_ (by assumption))); have hgw2 : w.heap.size ≤ g := Nat.le_trans (by simp) hgw; refine Wp.block ?_; refine Wp.loop (fun k ρ ds wk => AllEq [0, 1, 2, 4] ρ r2 ∧ ds = [] ∧ (∃ x, J g k wk ∧ (triedL gr m)[k]? = some x ∧ cntC wk g x)) ((triedL gr m).length) ?_ ?_
  · refine ⟨AllEq.refl _ _, rfl, ?_⟩; exact ⟨_, h0 g _ hgw2 hE2, tried_zero hg.1, by unfold cntC; rw [List.map_replicate]; exact hR0⟩
  · rintro k r3 _ wk hk ⟨hA, rfl, ⟨x, hJ, hl, hRk⟩⟩; obtain ⟨e0_3, e1_3, e2_3, e4_3, -⟩ := hA; rw [e0_2] at e0_3; rw [e1_2] at e1_3; rw [e2_2] at e2_3; rw [e4_2] at e4_3; have hlk := (List.getElem?_eq_some_iff.1 hl).1; obtain ⟨fn, tmps, as_, bo, hy, hR1⟩ := hY g k x _ hl hJ hRk; simp only [cntE] at hy; refine Wp.block ?_; refine Wp.seq ?_; refine Wp.seqRegion (.inl rfl) (by kernel_rfl) fun K' gd hK hg => ?_; clear hg; go_simp; refine Wyield (hR1) ?_; rintro e w1 (⟨rfl, hJ1⟩ | ⟨rfl, hJx⟩)
    · refine ⟨_, rfl, ?_⟩; obtain ⟨hJ2, hR2⟩ := hJ1; clear hy hRk hJ; obtain ⟨d0, d1⟩ := hD _ _ _ hJ2; have hlx := tried_len (List.mem_of_getElem? hl); go_simp; refine hK _ _ ?_; clear hK K' gd; refine Wp.keep [0, 1, 2, 4, 12] fun r4 hkeep => ?_; obtain ⟨e0_4, e1_4, e2_4, e4_4, e12_4, -⟩ := hkeep; simp [go_sem, e0_3, e1_3, e2_3, e4_3] at e0_4 e1_4 e2_4 e4_4 e12_4; clear e0_3 e1_3 e2_3 e4_3; refine Wp.condF (by go_simp) ?_; refine Wp.skip ?_; refine thenK_normal ?_; refine Wp.seqRegion (.inl rfl) (by kernel_rfl) fun K' gd hK hg => ?_; clear hg; go_simp; refine hK _ _ ?_; clear hK K' gd; refine Wp.keep [0, 1, 2, 4, 5] fun r5 hkeep => ?_; obtain ⟨e0_5, e1_5, e2_5, e4_5, e5_5, -⟩ := hkeep; simp [go_sem, e0_4, e1_4, e2_4, e4_4, e12_4] at e0_5 e1_5 e2_5 e4_5 e5_5; clear e0_4 e1_4 e2_4 e4_4 e12_4; refine Wp.seq ?_; refine Wp.block ?_; refine Wp.loop (fun i ρ ds wi => AllEq [0, 1, 2, 4] ρ r5 ∧ ds = [] ∧ (∃ p z, ρ 5 = .int .i64 z ∧ z = (p.length : Int) - 1 ∧ p.length + i = m ∧ x = p ++ List.replicate i (gr : Int) ∧ cntC wi g (p ++ List.replicate i 1) ∧ Chg [g] w1 wi)) (m) ?_ ?_
      · refine ⟨AllEq.refl _ _, rfl, ?_⟩; exact ⟨x, _, e5_5, by rw [hlx], by omega, by simp, by simpa using hR2, Chg.refl _ _⟩
      · rintro i r6 _ wi hi ⟨hA, rfl, ⟨p, z, e5, hz, hpl, hpe, hRi, hCi⟩⟩; obtain ⟨e0_6, e1_6, e2_6, e4_6, -⟩ := hA; rw [e0_5] at e0_6; rw [e1_5] at e1_6; rw [e2_5] at e2_6; rw [e4_5] at e4_6; have hJi := hJg g (k + 1) _ _ hCi hJ2; obtain ⟨d0, d1⟩ := hD _ _ _ hJi
        by_cases hp : p = []
        · skip; obtain rfl : z = -1 := by rw [hz, hp]; rfl
          clear hz hpl; refine Wp.seq ?_; refine Wp.seqDraw (.inl rfl) mixed [([0, 1, 2], none), ([3, 4, 5, 6, 7], none), ([8, 9], none)] (by kernel_rfl) fun K' gd hK hg => ?_; have g2 : gd 2 = some 17 := hg 2; clear hg; simp only [pick, nth, List.map_cons, List.map_nil, Option.map_none, Option.map_some]; apply Mops.none
          · intro w' hE'; have hC' := hE'.cellsS; go_simp; with_reducible rfl
          apply Mops.none
          · intro w' hE'; have hC' := hE'.cellsS; go_simp; with_reducible rfl
          apply Mops.none
          · intro w' hE'; have hC' := hE'.cellsS; go_simp; with_reducible rfl
          refine Mops.done ?_; refine hK _ _ ?_; clear hK K' gd g2; refine Wp.keep [0, 1, 2, 4, 5, 24] fun r7 hkeep => ?_; obtain ⟨e0_7, e1_7, e2_7, e4_7, e5_7, e24_7, -⟩ := hkeep; simp [go_sem, e0_6, e1_6, e2_6, e4_6, e5] at e0_7 e1_7 e2_7 e4_7 e5_7 e24_7; clear e0_6 e1_6 e2_6 e4_6 e5; refine Wp.condF (by go_simp) ?_; refine Wp.exit ?_; refine thenK_exit ?_; refine thenK_exit ?_; refine blockK_here ?_; refine thenK_normal ?_; refine Wp.seq ?_; refine Wp.seqRegion (.inl rfl) (by kernel_rfl) fun K' gd hK hg => ?_; clear hg; go_simp; refine hK _ _ ?_; clear hK K' gd; refine Wp.keep [0, 1, 2, 4, 5, 31] fun r8 hkeep => ?_; obtain ⟨e0_8, e1_8, e2_8, e4_8, e5_8, e31_8, -⟩ := hkeep; simp [go_sem, e0_7, e1_7, e2_7, e4_7, e5_7, e24_7] at e0_8 e1_8 e2_8 e4_8 e5_8 e31_8; clear e0_7 e1_7 e2_7 e4_7 e5_7 e24_7; refine Wp.condT (by go_simp) ?_; refine Wp.ret ?_; refine thenK_ret ?_; refine blockK_ret ?_; refine thenK_ret ?_; refine blockK_ret ?_; refine endK_none Try.results113 ?_; have hn := tried_next hg.1 hl; rw [hpe, hp, List.nil_append, nextC_all] at hn; have h1 := List.getElem?_eq_none_iff.1 hn.symm; have h2 := (List.getElem?_eq_some_iff.1 hl).1; refine .inl ⟨g, ?_⟩; rw [show (triedL gr m).length = k + 1 by omega]; exact hJE _ _ _ _ (Ext.refl _).drew hJi
        · skip; obtain ⟨q, y, rfl⟩ : ∃ q y, p = q ++ [y] := by rcases List.eq_nil_or_concat p with h | ⟨q, y, h⟩; exact absurd h hp; exact ⟨q, y, by simpa using h⟩
          obtain ⟨nq, hnq⟩ : ∃ nq, q.length = nq := ⟨_, rfl⟩; have hl1 : (q ++ [y]).length = nq + 1 := by rw [List.length_append, hnq]; rfl
          obtain rfl : z = (nq : Int) := by rw [hz, hl1]; omega
          have b1 : (nq : Int) < (m : Int) := by omega
          have b2 : (0 : Int) ≤ (nq : Int) := by omega
          have hw3 : IntKind.i64.wrap ((nq : Int) - 1) = (nq : Int) - 1 := IntWalk.i64_in _ (by omega); have c1 : wi.cell? ⟨g, nq, none⟩ = some (.int .i64 y) := by rw [RowC.cell hRi, ← hnq]; simp
          have hfz : wi.frozen? ⟨g, nq, none⟩ = false := RowC.frozen hRi nq; have hyg : 1 ≤ y ∧ y ≤ gr := tried_in (List.mem_of_getElem? hl) y (by rw [hpe]; simp); have hS1 : cntC (wi.drew.setCell ⟨g, nq, none⟩ (.int .i64 1)) g (q ++ List.replicate (i + 1) 1) := by unfold cntC; rw [← setTail q y i, hnq]; exact RowC.set (RowC.ext hRi (Ext.refl _).drew) nq _
          have hS2 : cntC (wi.drew.setCell ⟨g, nq, none⟩ (.int .i64 (y + 1))) g (q ++ (y + 1) :: List.replicate i 1) := by unfold cntC; rw [← setOne q y (y + 1) (List.replicate i 1), hnq]; exact RowC.set (RowC.ext hRi (Ext.refl _).drew) nq _
          have hw4 : IntKind.i64.wrap (y + 1) = y + 1 := IntWalk.i64_in _ (by omega); clear hRi hz; refine Wp.seq ?_; refine Wp.seqDraw (.inl rfl) mixed [([0, 1, 2], none), ([3, 4, 5, 6, 7], none), ([8, 9], none)] (by kernel_rfl) fun K' gd hK hg => ?_; have g2 : gd 2 = some 17 := hg 2; clear hg; simp only [pick, nth, List.map_cons, List.map_nil, Option.map_none, Option.map_some]; apply Mops.none
          · intro w' hE'; have hC' := hE'.cellsS; go_simp; with_reducible rfl
          apply Mops.none
          · intro w' hE'; have hC' := hE'.cellsS; go_simp; with_reducible rfl
          apply Mops.none
          · intro w' hE'; have hC' := hE'.cellsS; go_simp; with_reducible rfl
          refine Mops.done ?_; refine hK _ _ ?_; clear hK K' gd g2; refine Wp.keep [0, 1, 2, 4, 5, 24] fun r9 hkeep => ?_; obtain ⟨e0_9, e1_9, e2_9, e4_9, e5_9, e24_9, -⟩ := hkeep; simp [go_sem, e0_6, e1_6, e2_6, e4_6, e5] at e0_9 e1_9 e2_9 e4_9 e5_9 e24_9; clear e0_6 e1_6 e2_6 e4_6 e5
          by_cases hy2 : y = (gr : Int)
          · refine Wp.condT (by go_simp) ?_; refine Wp.skip ?_; refine thenK_normal ?_; refine Wp.block ?_; refine Wp.seqRegion (.inl rfl) (by kernel_rfl) fun K' gd hK hg => ?_; clear hg; go_simp; refine hK _ _ ?_; clear hK K' gd; refine Wp.keep [0, 1, 2, 4, 5] fun r10 hkeep => ?_; obtain ⟨e0_10, e1_10, e2_10, e4_10, e5_10, -⟩ := hkeep; simp [go_sem, e0_9, e1_9, e2_9, e4_9, e5_9, e24_9] at e0_10 e1_10 e2_10 e4_10 e5_10; clear e0_9 e1_9 e2_9 e4_9 e5_9 e24_9; refine Wp.loneRegion (.inl rfl) (by kernel_rfl) fun K' gd hK hg => ?_; clear hg; go_simp; refine hK _ _ ?_; clear hK K' gd; refine Ends.keep [0, 1, 2, 4, 5] fun r11 hkeep => ?_; obtain ⟨e0_11, e1_11, e2_11, e4_11, e5_11, -⟩ := hkeep; simp [go_sem, e0_10, e1_10, e2_10, e4_10, e5_10] at e0_11 e1_11 e2_11 e4_11 e5_11; clear e0_10 e1_10 e2_10 e4_10 e5_10; refine Ends.mk ?_; refine blockK_normal ?_; refine thenK_normal ⟨by omega, ⟨by rw [e0_11, e0_5], by rw [e1_11, e1_5], by rw [e2_11, e2_5], by rw [e4_11, e4_5], trivial⟩, rfl, ?_⟩; refine ⟨q, (nq : Int) - 1, e5_11, by rw [hnq], by omega, ?_, hS1, Chg.setC hCi.drew (by simp)⟩; rw [hpe, hy2, List.replicate_succ]; simp
          · refine Wp.condF (by go_simp) ?_; refine Wp.exit ?_; refine thenK_exit ?_; refine thenK_exit ?_; refine blockK_here ?_; refine thenK_normal ?_; refine Wp.seq ?_; refine Wp.seqRegion (.inl rfl) (by kernel_rfl) fun K' gd hK hg => ?_; clear hg; go_simp; refine hK _ _ ?_; clear hK K' gd; refine Wp.keep [0, 1, 2, 4, 5, 31] fun r12 hkeep => ?_; obtain ⟨e0_12, e1_12, e2_12, e4_12, e5_12, e31_12, -⟩ := hkeep; simp [go_sem, e0_9, e1_9, e2_9, e4_9, e5_9, e24_9] at e0_12 e1_12 e2_12 e4_12 e5_12 e31_12; clear e0_9 e1_9 e2_9 e4_9 e5_9 e24_9; refine Wp.condF (by go_simp) ?_; have hn := tried_next hg.1 hl; have hpe2 : x = q ++ y :: List.replicate i (gr : Int) := by rw [hpe]; simp
            rw [hpe2, nextC_at (by omega)] at hn; refine Wp.skip ?_; refine thenK_normal ?_; refine Wp.loneRegion (.inl rfl) (by kernel_rfl) fun K' gd hK hg => ?_; clear hg; go_simp; refine hK _ _ ?_; clear hK K' gd; refine Ends.keep [0, 1, 2, 4] fun r13 hkeep => ?_; obtain ⟨e0_13, e1_13, e2_13, e4_13, -⟩ := hkeep; simp [go_sem, e0_12, e1_12, e2_12, e4_12, e5_12, e31_12] at e0_13 e1_13 e2_13 e4_13; clear e0_12 e1_12 e2_12 e4_12 e5_12 e31_12; refine Ends.mk ?_; refine blockK_normal ?_; refine thenK_normal ⟨by omega, ⟨by rw [e0_13, e0_2], by rw [e1_13, e1_2], by rw [e2_13, e2_2], by rw [e4_13, e4_2], trivial⟩, rfl, ?_⟩; refine ⟨_, hJg g (k + 1) _ _ (Chg.setC hCi.drew (by simp)) hJ2, hn.symm, hS2⟩
    · refine ⟨_, rfl, ?_⟩; go_simp; refine hK _ _ ?_; clear hK K' gd; refine Wp.keep [0, 1, 2, 4, 12] fun r14 hkeep => ?_; obtain ⟨e0_14, e1_14, e2_14, e4_14, e12_14, -⟩ := hkeep; simp [go_sem, e0_3, e1_3, e2_3, e4_3] at e0_14 e1_14 e2_14 e4_14 e12_14; clear e0_3 e1_3 e2_3 e4_3; refine Wp.condT (by go_simp) ?_; refine Wp.ret ?_; refine thenK_ret ?_; refine blockK_ret ?_; refine thenK_ret ?_; refine blockK_ret ?_; refine endK_none Try.results113 ?_; exact .inr hJx
end Go.Proofs.Ytnfagcccgmakdaa
namespace Go.Proofs.Ytnfagcccgmakdaa
open Go.RowKit Go.Wk Go.Proofs
attribute [local irreducible] Go.Wk.Wops Go.Wk.Wp Go.Wk.Mtree Go.Wk.Mops
set_option maxHeartbeats 4000000
@[go_sem] theorem neqI_nil (w : World) (a : Option Addr) (n c n' c' : Nat) : (binOp .neq 22 (.slice a n c) (.slice none n' c')).run Try.prog w = .ok (.bool (!a.isNone)) w := by
  simp only [binOp]; have h : Try.prog.underlying 22 = some (.slice 3) := by kernel_rfl
  simp [Op.equal, Op.maxDepth, Lib.run_equalIn_slice_nil w 9999 22 3 a n c n' c' h]
theorem IntsP.cells {w w' : World} {P : Nat → Prop} {v : Value} {xs : List Int} (h : IntsP w P v xs) (hb : ∀ b i u, w.cell? ⟨b, i, none⟩ = some u → w'.cell? ⟨b, i, none⟩ = some u) : IntsP w' P v xs := by
  obtain ⟨A, c, hv, hx, hcap⟩ := h
  exact ⟨A, c, hv, fun hne => by
    obtain ⟨b, o, hA, hp, hc⟩ := hx hne
    exact ⟨b, o, hA, hp, fun k hk => hb _ _ _ (hc k hk)⟩, hcap⟩
theorem IntsP.adm {m : Nat} {w w' : World} {P : Nat → Prop} {v : Value} {xs : List Int} (h : IntsP w P v xs) (hA : Adm m w w') : IntsP w' P v xs := h.cells fun _ _ _ c => hA.cell c
theorem IntsP.shut {m : Nat} {w w' : World} {P : Nat → Prop} {v : Value} {xs : List Int} (h : IntsP w P v xs) (hA : Shut m w w') : IntsP w' P v xs := h.cells fun _ _ _ c => hA.cell c
theorem IntsP.chg {L : List Nat} {w w' : World} {P : Nat → Prop} {v : Value} {xs : List Int} (h : IntsP w P v xs) (hC : Chg L w w') (hP : ∀ b, P b → b ∉ L) : IntsP w' P v xs := h.keep fun k hk hl => hC.block k hl (hP k hk)
theorem IntsP.ext {w w' : World} {P : Nat → Prop} {v : Value} {xs : List Int} (h : IntsP w P v xs) (hE : Ext w w') : IntsP w' P v xs := h.cells fun _ _ _ c => hE.cell c
theorem IntsP.put {w V : World} {b i : Nat} {P : Nat → Prop} {v : Value} {xs : List Int} {vs : List Value} (h : IntsP w P v xs) (p : Put w V b i vs) (hb : ¬ P b) : IntsP V P v xs := h.chg p.chg fun k hk => by
  simp; intro e; subst e; exact hb hk
theorem OwnI.intsP {w : World} {base : Nat} {v : Value} {xs : List Int} (h : OwnI w base v xs) : IntsP w (fun b => base ≤ b) v xs := by
  obtain ⟨A, c, hv, hx, hcap⟩ := h.intsV; refine ⟨A, c, hv, fun hne => ?_, hcap⟩; obtain ⟨b, o, hA, hb, hc⟩ := hx hne; refine ⟨b, o, hA, ?_, hc⟩
  rcases h.2 with ⟨rfl, hn⟩ | ⟨g, cap, cur, e, hg, -⟩
  · exact absurd (List.length_eq_zero_iff.1 hn) hne
  · rw [hv] at e; injection e with e; rw [hA] at e; injection e with e; injection e with e; omega
theorem total_e (v : Value) (xs : List Int) (w : World) (hx : IntsV w w.heap.size v xs) (hs : ∀ x ∈ xs, 0 ≤ x ∧ x ≤ 1000) (hl : xs.length ≤ 1000) :
    CallsV Try.prog 91 #[v] w fun v w' => v = .int .i64 xs.sum ∧ Ext w w' := by
  have key : ∀ (l : List Int), (∀ x ∈ l, 0 ≤ x ∧ x ≤ 1000) → 0 ≤ l.sum ∧ l.sum ≤ 1000 * (l.length : Int) := by
    intro l
    induction l with
    | nil => intro _; simp
    | cons x l ih =>
      intro h; have h1 := h x (List.mem_cons_self ..); have h2 := ih fun y hy => h y (List.mem_cons_of_mem _ hy); simp only [List.sum_cons, List.length_cons]; omega
  refine (total_c v xs w hx (fun k hk => ?_) (by omega)).mono fun _ _ ⟨h1, h2⟩ => ⟨h1, by rw [h2]; exact Ext.refl _⟩; have := key (xs.take k) fun x hx => hs x (List.mem_of_mem_take hx); rw [List.length_take] at this; omega
theorem cntC.intsV {W : World} {g m : Nat} {l : List Int} (h : cntC W g l) (hl : l.length = m) : IntsV W W.heap.size (.slice (some ⟨g, 0, none⟩) m m) l :=
  ⟨_, m, by rw [hl], fun _ => ⟨g, 0, rfl, RowC.lt h, fun k hk => by rw [Nat.zero_add, RowC.cell h]; simp [hk]⟩, by omega⟩
theorem cntC.ext {w w' : World} {g : Nat} {l : List Int} (h : cntC w g l) (hE : Ext w w') : cntC w' g l := RowC.ext h hE
theorem cntC.adm {m : Nat} {w w' : World} {g : Nat} {l : List Int} (h : cntC w g l) (hE : Adm m w w') : cntC w' g l := RowC.adm h hE
theorem cntC.put {w V : World} {b i g : Nat} {l : List Int} {vs : List Value} (h : cntC w g l) (p : Put w V b i vs) (hb : g ≠ b) : cntC V g l := RowC.put h p hb
theorem clone_s (v : Value) (xs : List Int) (w : World) (hx : IntsV w w.heap.size v xs) (hne : xs ≠ []) (hl : xs.length ≤ 1000000000) :
    CallsV Try.prog 92 #[v] w fun v' w' => ∃ A c, v' = .slice A xs.length c ∧ IntsP w' (fun b => w.heap.size ≤ b) (.slice A xs.length c) xs ∧ Ext w w' :=
  (clone_c v xs w hx hl).mono fun _ _ ⟨h1, h2⟩ => by
    obtain ⟨A, c, rfl⟩ := h1.slice; exact ⟨A, c, rfl, h1.intsP, h2⟩
theorem timed_cops (a : OA) (o : Ord) (x : List Int) (g base : Nat) (w : World) (hF : CopyF w base a o) (hC : cntC w g x) (hx : x.length = o.m) (hv : ∀ y ∈ x, 1 ≤ y ∧ y ≤ 20) :
    CallsV Try.prog 49 #[.agg #[.slice (some ⟨g, 0, none⟩) o.m o.m, .slice a.rA o.n a.rc]] w fun v w' => ∃ b a2, v = .pointer (some ⟨b, 0, none⟩) ∧ RowF w' b a2 (o.cops x) (begA (o.cops x)) ∧ OrdF w' w'.heap.size a2 (o.cops x) ∧ Ext w w' := by
  have hO := hF.ord; have hm : (o.cops x).m = o.m := hx
  have hO2 : OrdF w w.heap.size { a with cb := g, co := 0, cc := o.m } (o.cops x) := by
    refine ⟨by rw [hm]; exact hO.hm1, by rw [hm]; exact hO.hm2, hO.hn2, fun j hj => ?_, hO.hr, hO.hI, hO.hA, fun i hi => by rw [hm]; exact hO.hT i hi, fun i j hi hj => hO.hTT i j hi (by rw [hm] at hj; exact hj), RowC.lt hC, hO.bR, hO.bT, by rw [hm]; exact Nat.le_refl _, hO.hrc, fun i hi => by rw [hm]; exact hO.htc i hi, fun j hj => ?_, hO.vA, fun i j hi hj => hO.vT i j hi (by rw [hm] at hj; exact hj)⟩
    · have hj' : j < x.length := hj
      show w.cell? ⟨g, 0 + j, none⟩ = some (.int .i64 (x[j]?.getD 0))
      rw [Nat.zero_add, RowC.cell hC]; simp [hj']
    · have hj' : j < x.length := hj
      show 1 ≤ x[j]?.getD 0 ∧ x[j]?.getD 0 ≤ 20
      rw [List.getElem?_eq_getElem hj']; exact hv _ (List.getElem_mem _)
  have := timed_c _ _ w hO2; simp only [OA.cv, OA.rv, hm] at this; exact this.mono fun _ _ ⟨b, h1, h2, h3⟩ => ⟨b, _, h1, h2, hO2.ext h3, h3⟩
def fewG (o : Ord) : Nat := max 1 o.n
def fewR (o : Ord) (d : Int) : List Int := fewL o d (triedL (fewG o) o.m)
def fewE (o : Ord) (d : Int) : Int := if askS o (okDay d) = 0 then (if 4 < o.m ∨ 6 < o.n then 2 else if fewR o d = [] then 5 else 0) else askS o (okDay d)
theorem fewL_ok {o : Ord} {d : Int} {g m k : Nat} (hg : g ≤ 20) : ∀ x ∈ fewL o d ((triedL g m).take k), 0 ≤ x ∧ x ≤ 1000 := by
  intro x hx
  rcases fewL_in (o := o) (d := d) (L := (triedL g m).take k) with h | h
  · rw [h] at hx; cases hx
  · have := tried_in (List.mem_of_mem_take h) x hx; omega
theorem fewL_len {o : Ord} {d : Int} {g m k : Nat} : (fewL o d ((triedL g m).take k)).length ≤ m := by
  rcases fewL_in (o := o) (d := d) (L := (triedL g m).take k) with h | h
  · rw [h]; simp
  · rw [tried_len (List.mem_of_mem_take h)]; exact Nat.le_refl _
theorem Fewest_c (v : Value) (o : Ord) (d : Int) (w : World) (hV : OrderV w w.heap.size v o) (hf : Fits o) :
    CallsV Try.prog 39 #[v, .int .i64 d] w fun v w' => ∃ t, v = .tuple #[t, .int .i64 (fewE o d)] ∧ IntsP w' (fun _ => True) t (if fewE o d = 0 then fewR o d else []) ∧ Ext w w' := by
  obtain ⟨cA, cc, rA, rc, rfl⟩ := hV.slices; refine Wp.fnM Try.func39 rfl Try.ntmps39 (by simp) ?_; have xw := Ext.refl w; refine Wp.keep [0, 1] fun r1 hkeep => ?_; obtain ⟨e0_1, e1_1, -⟩ := hkeep; simp [go_sem] at e0_1 e1_1; refine Wp.seqRegion (.inl rfl) (by kernel_rfl) fun K' gd hK hg => ?_; clear hg; refine Wops.cut 1 fun K1 hK1 => ?_; simp only [List.take_succ_cons, List.take_zero]; go_simp; refine hK1 _ _ ?_; clear hK1 K1; simp only [List.drop_succ_cons, List.drop_zero]; refine Wops.absA fun V2_1 n2 hV2_1 => ?_; obtain ⟨q2, hV2_1, s2, kV2_1, f2, r2⟩ := hV2_1; try simp only [q2] at kV2_1 f2 r2 ⊢
  replace xw := Ext.trans xw hV2_1; have c2_0 := kV2_1 0 _ rfl; have c2_1 := kV2_1 1 _ rfl; clear kV2_1 hV2_1; clear r2; refine Wops.cut 1 fun K1 hK1 => ?_; simp only [List.take_succ_cons, List.take_zero]; go_simp; refine hK1 _ _ ?_; clear hK1 K1; simp only [List.drop_succ_cons, List.drop_zero]; refine Wops.absA fun V3_2 n3 hV3_2 => ?_; obtain ⟨q3, hV3_2, s3, kV3_2, f3, r3⟩ := hV3_2; try simp only [q3] at kV3_2 f3 r3 ⊢
  replace f2 := Ext.fz hV3_2 c2_0 f2; replace xw := Ext.trans xw hV3_2; replace c2_0 := Ext.cell hV3_2 c2_0; replace c2_1 := Ext.cell hV3_2 c2_1; have c3_0 := kV3_2 0 _ rfl; clear kV3_2 hV3_2; clear r3; go_simp; refine hK _ _ ?_; clear hK K' gd; refine Wp.keep [2, 3] fun r2 hkeep => ?_; obtain ⟨e2_2, e3_2, -⟩ := hkeep; simp [go_sem, e0_1, e1_1] at e2_2 e3_2; clear e0_1 e1_1; refine Wp.seq ?_; refine Wp.seqRegion (.inl rfl) (by kernel_rfl) fun K' gd hK hg => ?_; clear hg; refine Wops.cut 3 fun K1 hK1 => ?_; simp only [List.take_succ_cons, List.take_zero]; go_simp; refine Wcall (.inl rfl) (asked_c _ o (okDay d) 89 #[.pointer (some ⟨n3, 0, none⟩)] _ (hV.ext xw) hf (enters_of Try.func89 (by kernel_rfl) rfl) (fun _ W hW => askF_c _ d W (hW.cell c3_0))) ?_; rintro v w2 ⟨rfl, hE⟩; go_simp; refine hK1 _ _ ?_; clear hK1 K1; simp only [List.drop_succ_cons, List.drop_zero]; have z3 := Below.size hE; replace f2 := Ext.fz hE c2_0 f2; replace f3 := Ext.fz hE c3_0 f3; replace xw := Ext.trans xw hE; replace c2_0 := Ext.cell hE c2_0; replace c2_1 := Ext.cell hE c2_1; replace c3_0 := Ext.cell hE c3_0; clear hE; go_simp; refine hK _ _ ?_; clear hK K' gd; refine Wp.keep [2, 3, 6] fun r4 hkeep => ?_; obtain ⟨e2_4, e3_4, e6_4, -⟩ := hkeep; simp [go_sem, e2_2, e3_2] at e2_4 e3_4 e6_4; clear e2_2 e3_2
  by_cases h0 : askS o (okDay d) = 0
  · skip; refine Wp.seqRegion (.inl rfl) (by kernel_rfl) fun K' gd hK hg => ?_; clear hg; go_simp; refine hK _ _ ?_; clear hK K' gd; refine Wp.keep [2, 3, 6, 14] fun r5 hkeep => ?_; obtain ⟨e2_5, e3_5, e6_5, e14_5, -⟩ := hkeep; simp [go_sem, e2_4, e3_4, e6_4] at e2_5 e3_5 e6_5 e14_5; clear e2_4 e3_4 e6_4; refine Wp.condF (by go_simp) ?_; have hg := (askS_zero.1 h0).1; have ho := hg.ok; have hm := ho.hm2; have hm1 := ho.hm1; have hn := ho.hn2; obtain ⟨a, hcv, hrv, hO0⟩ := hV.ordF2 hg; simp only [OA.cv, OA.rv] at hcv hrv
    injection hcv with p1 p2 p3
    injection hrv with p4 p5 p6
    subst p1 p3 p4 p6; have hm' : o.cop.length = o.m := rfl; have hn' : o.runs.length = o.n := rfl; rw [hm', hn'] at hV
    by_cases h1 : (4 : Int) < (o.m : Int)
    · skip; refine Wp.skip ?_; refine thenK_normal ?_; refine Wp.seq ?_; refine Wp.seqRegion (.inl rfl) (by kernel_rfl) fun K' gd hK hg => ?_; have g4 : gd 4 = some 20 := hg 4; clear hg; go_simp; refine hK _ _ ?_; clear hK K' gd g4; refine Wp.keep [2, 3, 25] fun r6 hkeep => ?_; obtain ⟨e2_6, e3_6, e25_6, -⟩ := hkeep; simp [go_sem, e2_5, e3_5, e6_5, e14_5] at e2_6 e3_6 e25_6; clear e2_5 e3_5 e6_5 e14_5; refine Wp.condT (by go_simp) ?_; refine Wp.seqRegion (.inl rfl) (by kernel_rfl) fun K' gd hK hg => ?_; clear hg; go_simp; refine hK _ _ ?_; clear hK K' gd; refine Wp.keep [4, 5] fun r7 hkeep => ?_; obtain ⟨e4_7, e5_7, -⟩ := hkeep; simp [go_sem, e2_6, e3_6, e25_6] at e4_7 e5_7; clear e2_6 e3_6 e25_6; refine Wp.ret ?_; refine thenK_ret ?_; refine endM_tmp2 Try.results39 (by decide) (by decide) (trivial) fun wz hS => ?_; rw [e4_7, e5_7]; have e : fewE o d = 2 := by unfold fewE; rw [if_pos h0, if_pos (.inl (by omega))]
      exact ⟨_, by rw [e], by rw [e, if_neg (by decide)]; exact ⟨none, 0, rfl, fun h => absurd rfl h, Nat.le_refl _⟩, Shut.ext xw hS⟩
    · skip
      by_cases h2 : (6 : Int) < (o.n : Int)
      · skip; refine Wp.skip ?_; refine thenK_normal ?_; refine Wp.seq ?_; refine Wp.seqRegion (.inl rfl) (by kernel_rfl) fun K' gd hK hg => ?_; have g4 : gd 4 = some 20 := hg 4; clear hg; go_simp; refine hK _ _ ?_; clear hK K' gd g4; refine Wp.keep [2, 3, 25] fun r8 hkeep => ?_; obtain ⟨e2_8, e3_8, e25_8, -⟩ := hkeep; simp [go_sem, e2_5, e3_5, e6_5, e14_5] at e2_8 e3_8 e25_8; clear e2_5 e3_5 e6_5 e14_5; refine Wp.condT (by go_simp) ?_; refine Wp.seqRegion (.inl rfl) (by kernel_rfl) fun K' gd hK hg => ?_; clear hg; go_simp; refine hK _ _ ?_; clear hK K' gd; refine Wp.keep [4, 5] fun r9 hkeep => ?_; obtain ⟨e4_9, e5_9, -⟩ := hkeep; simp [go_sem, e2_8, e3_8, e25_8] at e4_9 e5_9; clear e2_8 e3_8 e25_8; refine Wp.ret ?_; refine thenK_ret ?_; refine endM_tmp2 Try.results39 (by decide) (by decide) (trivial) fun wz hS => ?_; rw [e4_9, e5_9]; have e : fewE o d = 2 := by unfold fewE; rw [if_pos h0, if_pos (.inr (by omega))]
        exact ⟨_, by rw [e], by rw [e, if_neg (by decide)]; exact ⟨none, 0, rfl, fun h => absurd rfl h, Nat.le_refl _⟩, Shut.ext xw hS⟩
      · skip; refine Wp.skip ?_; refine thenK_normal ?_; refine Wp.seq ?_; refine Wp.seqRegion (.inl rfl) (by kernel_rfl) fun K' gd hK hg => ?_; have g4 : gd 4 = some 20 := hg 4; clear hg; go_simp; refine hK _ _ ?_; clear hK K' gd g4; refine Wp.keep [2, 3, 25] fun r10 hkeep => ?_; obtain ⟨e2_10, e3_10, e25_10, -⟩ := hkeep; simp [go_sem, e2_5, e3_5, e6_5, e14_5] at e2_10 e3_10 e25_10; clear e2_5 e3_5 e6_5 e14_5; refine Wp.condF (by go_simp) ?_; obtain ⟨gr, hgr, hgr2⟩ : ∃ gr : Nat, (if (1 : Int) < (o.n : Int) then (o.n : Int) else 1) = (gr : Int) ∧ ∃ _u : Unit, gr = fewG o := ⟨fewG o, by unfold fewG; split <;> omega, (), rfl⟩; have hgr3 : 1 ≤ gr ∧ gr ≤ 6 := by obtain ⟨-, e⟩ := hgr2; unfold fewG at e; omega
        refine Wp.skip ?_; refine thenK_normal ?_; refine Wp.seqRegion (.inl rfl) (by kernel_rfl) fun K' gd hK hg => ?_; clear hg; refine Wops.cut 1 fun K1 hK1 => ?_; simp only [List.take_succ_cons, List.take_zero]; go_simp; refine hK1 _ _ ?_; clear hK1 K1; simp only [List.drop_succ_cons, List.drop_zero]; refine Wops.absA fun V7_3 n7 hV7_3 => ?_; obtain ⟨q7, hV7_3, s7, kV7_3, f7, r7⟩ := hV7_3; try simp only [q7] at kV7_3 f7 r7 ⊢
        replace f2 := Ext.fz hV7_3 c2_0 f2; replace f3 := Ext.fz hV7_3 c3_0 f3; replace xw := Ext.trans xw hV7_3; replace c2_0 := Ext.cell hV7_3 c2_0; replace c2_1 := Ext.cell hV7_3 c2_1; replace c3_0 := Ext.cell hV7_3 c3_0; have c7_0 := kV7_3 0 _ rfl; clear kV7_3 hV7_3; clear r7; try simp only [Wops_nil, updO_some, updO_none]
        refine hK _ _ ?_; clear hK K' gd; refine Wp.keep [2, 3, 7] fun r11 hkeep => ?_; obtain ⟨e2_11, e3_11, e7_11, -⟩ := hkeep; simp [go_sem, e2_10, e3_10, e25_10] at e2_11 e3_11 e7_11; clear e2_10 e3_10 e25_10; refine Wp.seq ?_; refine Wp.seqRegion (.inl rfl) (by kernel_rfl) fun K' gd hK hg => ?_; clear hg; refine Wops.cut 8 fun K1 hK1 => ?_; simp only [List.take_succ_cons, List.take_zero]; go_simp; refine Wcall (.inl rfl) (counts_c (o.m : Int) (gr : Int) _) ?_; rintro v w3 ⟨bm, bg, rfl, hE, s0, s1, hbm, hbg⟩; go_simp; refine hK1 _ _ ?_; clear hK1 K1; simp only [List.drop_succ_cons, List.drop_zero]; have z12 := Below.size hE; replace f2 := Ext.fz hE c2_0 f2; replace f3 := Ext.fz hE c3_0 f3; replace f7 := Ext.fz hE c7_0 f7; replace xw := Ext.trans xw hE; replace c2_0 := Ext.cell hE c2_0; replace c2_1 := Ext.cell hE c2_1; replace c3_0 := Ext.cell hE c3_0; replace c7_0 := Ext.cell hE c7_0; clear hE; try simp only [Wops_nil, updO_some, updO_none]
        refine hK _ _ ?_; clear hK K' gd; refine Wp.keep [2, 3, 7, 33] fun r13 hkeep => ?_; obtain ⟨e2_13, e3_13, e7_13, e33_13, -⟩ := hkeep; simp [go_sem, e2_11, e3_11, e7_11] at e2_13 e3_13 e7_13 e33_13; clear e2_11 e3_11 e7_11; obtain ⟨xs, hxs⟩ : ∃ xs, triedL gr o.m = xs := ⟨_, rfl⟩; have hit := counts_it o.m gr bm bg ⟨hm1, by omega⟩ ⟨hgr3.1, by omega⟩; rw [hxs] at hit; refine Wp.block ?_; refine Wp.rangeG (hit) (by go_simp) (enters_of Try.func113 (by kernel_rfl) rfl) (fun _ _ => rfl) (fun g k W => (Chg [n7] w3 W ∧ (∀ i, W.frozen? ⟨n7, i, none⟩ = false)) ∧ (∃ A7 c7, W.cell? ⟨n7, 0, none⟩ = some (.slice A7 (fewL o d (xs.take k)).length c7) ∧ IntsP W (fun b => b ≠ g ∧ b ≠ n7) (.slice A7 (fewL o d (xs.take k)).length c7) (fewL o d (xs.take k)) ∧ (fewL o d (xs.take k) = [] → A7 = none))) (fun _ _ => False) ?_ ?_ ?_ ?_ ?_ ?_ ?_
        · rintro g k W ⟨⟨xr4, gf7⟩, ⟨A7, c7, gc7_0, hI, hnil⟩⟩; exact ⟨Chg.cell xr4 s0 (by simp; omega), Chg.cell xr4 s1 (by simp; omega)⟩
        · refine ⟨?_, ?_, ?_⟩
          · rintro g k W W' hA ⟨⟨xr4, gf7⟩, ⟨A7, c7, gc7_0, hI, hnil⟩⟩; refine ⟨⟨Adm.chg hA xr4 (Nat.le_refl _), Adm.fz hA gc7_0 gf7⟩, ?_⟩; exact ⟨A7, c7, hA.cell gc7_0, hI.adm hA, hnil⟩
          · rintro g k W W' hgn hA ⟨⟨xr4, gf7⟩, ⟨A7, c7, gc7_0, hI, hnil⟩⟩; refine ⟨⟨Chg.more xr4 hA (mem1 (.inl hgn)), Chg.fz hA gc7_0 gf7 (by simp; omega)⟩, ?_⟩; exact ⟨A7, c7, Chg.cell hA gc7_0 (by simp; omega), hI.chg hA (fun b hb => by simp; exact hb.1), hnil⟩
          · skip; exact fun g x W W' hA h => cntC.adm h hA
        · skip; exact fun _ _ _ _ h => h
        · intro g W hgn hA; refine ⟨⟨Adm.chg hA (Chg.refl _ _) (Nat.le_refl _), Adm.fz hA c7_0 f7⟩, ?_⟩; exact ⟨none, 0, hA.cell c7_0, ⟨none, 0, rfl, fun h => absurd rfl h, Nat.le_refl _⟩, fun _ => rfl⟩
        · rintro l g k x W hx ⟨⟨xr4, gf7⟩, ⟨A7, c7, gc7_0, hI, hnil⟩⟩ hCg hl hgn; have zxr4 := Chg.size xr4; replace f2 := Chg.fz xr4 c2_0 f2 (by intro hm; simp only [List.mem_cons, List.not_mem_nil, or_false] at hm; omega); replace f3 := Chg.fz xr4 c3_0 f3 (by intro hm; simp only [List.mem_cons, List.not_mem_nil, or_false] at hm; omega); clear f7; replace xw := Chg.to xw xr4 (by intro b hm; simp only [List.mem_cons, List.not_mem_nil, or_false] at hm; omega); replace c2_0 := Chg.cell xr4 c2_0 (by intro hm; simp only [List.mem_cons, List.not_mem_nil, or_false] at hm; omega); replace c2_1 := Chg.cell xr4 c2_1 (by intro hm; simp only [List.mem_cons, List.not_mem_nil, or_false] at hm; omega); replace c3_0 := Chg.cell xr4 c3_0 (by intro hm; simp only [List.mem_cons, List.not_mem_nil, or_false] at hm; omega); clear c7_0; replace s0 := Chg.cell xr4 s0 (by intro hm; simp only [List.mem_cons, List.not_mem_nil, or_false] at hm; omega); replace s1 := Chg.cell xr4 s1 (by intro hm; simp only [List.mem_cons, List.not_mem_nil, or_false] at hm; omega); have f7 := gf7; clear gf7; have c7_0 := gc7_0; clear gc7_0; have xb := Ext.refl W; simp only [cntE, List.zip_toArray, List.zip_cons_cons, List.zip_nil_left, putL_cons, putL_nil]; refine Wp.keep [2, 3, 7, 34] fun r14 hkeep => ?_; obtain ⟨e2_14, e3_14, e7_14, e34_14, -⟩ := hkeep; simp [go_sem, e2_13, e3_13, e7_13, e33_13] at e2_14 e3_14 e7_14 e34_14; refine Wp.loneRegion (.inr ⟨_, rfl⟩) (by kernel_rfl) fun K' gd hK hg => ?_; clear hg; go_simp; refine hK _ _ ?_
          clear hK K' gd; refine Ends.keep [2, 3, 7, 8] fun r15 hkeep => ?_; obtain ⟨e2_15, e3_15, e7_15, e8_15, -⟩ := hkeep; simp [go_sem, e2_14, e3_14, e7_14, e34_14] at e2_15 e3_15 e7_15 e8_15; clear e2_14 e3_14 e7_14 e34_14; refine Ends.mk ?_; refine thenK_normal ?_; refine ⟨KeepsOthers.of_ext xb, fun W2 hA2 hl2 => ?_⟩; replace f2 := Adm.fz hA2 c2_0 f2; replace f3 := Adm.fz hA2 c3_0 f3; replace f7 := Adm.fz hA2 c7_0 f7; replace xw := Adm.toE hA2 xw (by omega); replace xr4 := Adm.chg hA2 xr4 (by omega); clear xb; replace hI := hI.adm hA2; replace hCg := hCg.adm hA2; replace c2_0 := Adm.cell hA2 c2_0; replace c2_1 := Adm.cell hA2 c2_1; replace c3_0 := Adm.cell hA2 c3_0; replace s0 := Adm.cell hA2 s0; replace s1 := Adm.cell hA2 s1; replace c7_0 := Adm.cell hA2 c7_0; obtain ⟨lr, hl2⟩ := hl2; have xk := Chg.refl [n7] W2; have kb_n7 := IsC.of c7_0; have hxm : x ∈ triedL gr o.m := by rw [hxs]; exact List.mem_of_getElem? hx
          have hxl := tried_len hxm; have hxi := tried_in hxm; have hne : x ≠ [] := by intro e; rw [e] at hxl; simp at hxl; omega
          have hst := fewL_take (o := o) (d := d) hx; have hbl : (fewL o d (xs.take k)).length ≤ o.m := by rw [← hxs]; exact fewL_len
          have hbo : ∀ y ∈ fewL o d (xs.take k), 0 ≤ y ∧ y ≤ 1000 := by rw [← hxs]; exact fewL_ok (by omega)
          obtain ⟨bs, hbs⟩ : ∃ bs, fewL o d (xs.take k) = bs := ⟨_, rfl⟩; obtain ⟨bs2, hbs2⟩ : ∃ bs2, fewL o d (xs.take (k + 1)) = bs2 := ⟨_, rfl⟩; rw [hbs] at c7_0 hI hnil hst hbl hbo; rw [hbs2] at hst ⊢; have lg := RowC.lt hCg
          by_cases hb : bs = []
          · skip; obtain rfl := hnil hb; refine Wp.block ?_; refine Wp.seq ?_; refine Wp.seqDraw (.inr ⟨_, rfl⟩) mixed [([0, 1, 2], none), ([3, 5], some (4, false)), ([], some (6, false)), ([7, 8], none)] (by kernel_rfl) fun K' gd hK hg => ?_; have g2 : gd 2 = some 37 := hg 2; clear hg; simp only [pick, nth, List.map_cons, List.map_nil, Option.map_none, Option.map_some]; refine Mops.absD fun D7 hD7 zD7 => ?_; replace f2 := Ext.fz hD7 c2_0 f2; replace f3 := Ext.fz hD7 c3_0 f3; replace f7 := Ext.fz hD7 c7_0 f7; replace hCg := hCg.ext hD7; replace xw := Ext.trans xw hD7; replace xr4 := Chg.ext xr4 hD7; replace xk := Chg.ext xk hD7; replace c2_0 := Ext.cell hD7 c2_0; replace c2_1 := Ext.cell hD7 c2_1; replace c3_0 := Ext.cell hD7 c3_0; replace c7_0 := Ext.cell hD7 c7_0; clear hD7; apply Mops.none
            · intro w' hE'; have hC' := hE'.cellsS; go_simp; with_reducible rfl
            apply Mops.act
            · intro w' hE'; have hC' := hE'.cellsS; go_simp; with_reducible rfl
            intro K1 hK1; go_simp; refine hK1 _ _ (Ext.refl _) ?_; clear hK1 K1; apply Mops.act
            · exact fun _ _ => Rops_done
            intro K1 hK1; go_simp; refine hK1 _ _ (Ext.refl _) ?_; clear hK1 K1; apply Mops.none
            · intro w' hE'; have hC' := hE'.cellsS; go_simp; with_reducible rfl
            refine Mops.done ?_; refine hK _ _ ?_; clear hK K' gd g2; refine Wp.keep [2, 3, 7, 8, 43] fun r16 hkeep => ?_; obtain ⟨e2_16, e3_16, e7_16, e8_16, e43_16, -⟩ := hkeep; simp [go_sem, e2_15, e3_15, e7_15, e8_15] at e2_16 e3_16 e7_16 e8_16 e43_16; clear e2_15 e3_15 e7_15 e8_15; refine Wp.condF (by go_simp) ?_; refine Wp.skip ?_; refine thenK_normal ?_; refine Wp.seqRegion (.inr ⟨_, rfl⟩) (by kernel_rfl) fun K' gd hK hg => ?_; clear hg; refine Wops.cut 2 fun K1 hK1 => ?_; simp only [List.take_succ_cons, List.take_zero]; go_simp; refine Wcall (.inr ⟨_, rfl⟩) (copied_c a o _ (hO0.ext xw)) ?_; rintro v w4 ⟨a', rfl, hF, hE⟩; simp only [OA.cv, OA.rv]; have xc := Ext.refl w4; go_simp; refine hK1 _ _ ?_; clear hK1 K1; simp only [List.drop_succ_cons, List.drop_zero]; have z17 := Below.size hE; replace f2 := Ext.fz hE c2_0 f2; replace f3 := Ext.fz hE c3_0 f3; replace f7 := Ext.fz hE c7_0 f7; replace hCg := hCg.ext hE; replace xw := Ext.trans xw hE; replace xr4 := Chg.ext xr4 hE; replace xk := Chg.ext xk hE; replace c2_0 := Ext.cell hE c2_0; replace c2_1 := Ext.cell hE c2_1; replace c3_0 := Ext.cell hE c3_0; replace c7_0 := Ext.cell hE c7_0; clear hE; refine Wops.cut 2 fun K1 hK1 => ?_; simp only [List.take_succ_cons, List.take_zero]; go_simp; refine hK1 _ _ ?_; clear hK1 K1; simp only [List.drop_succ_cons, List.drop_zero]; refine Wops.absA fun V9_9 n9 hV9_9 => ?_; obtain ⟨q9, hV9_9, s9, kV9_9, f9, r9⟩ := hV9_9; try simp only [q9] at kV9_9 f9 r9 ⊢
            replace f2 := Ext.fz hV9_9 c2_0 f2; replace f3 := Ext.fz hV9_9 c3_0 f3; replace f7 := Ext.fz hV9_9 c7_0 f7; replace hCg := hCg.ext hV9_9; replace xw := Ext.trans xw hV9_9; replace xr4 := Chg.ext xr4 hV9_9; replace xk := Chg.ext xk hV9_9; replace xc := Ext.trans xc hV9_9; replace c2_0 := Ext.cell hV9_9 c2_0; replace c2_1 := Ext.cell hV9_9 c2_1; replace c3_0 := Ext.cell hV9_9 c3_0; replace c7_0 := Ext.cell hV9_9 c7_0; have c9_0 := kV9_9 0 _ rfl; have c9_1 := kV9_9 1 _ rfl; clear kV9_9 hV9_9; clear r9; try simp only [Wops_nil, updO_some, updO_none]
            refine hK _ _ ?_; clear hK K' gd; refine Wp.keep [3, 7, 8, 9] fun r18 hkeep => ?_; obtain ⟨e3_18, e7_18, e8_18, e9_18, -⟩ := hkeep; simp [go_sem, e2_16, e3_16, e7_16, e8_16, e43_16] at e3_18 e7_18 e8_18 e9_18; clear e2_16 e3_16 e7_16 e8_16 e43_16; refine Wp.seqRegion (.inr ⟨_, rfl⟩) (by kernel_rfl) fun K' gd hK hg => ?_; clear hg; refine Wops.cut 3 fun K1 hK1 => ?_; simp only [List.take_succ_cons, List.take_zero]; go_simp; refine hK1 _ _ ?_; clear hK1 K1; simp only [List.drop_succ_cons, List.drop_zero]; refine Wops.absS (b := n9) (i := 0) [_] (somes [cellVal c9_0] (by simp) (by intro j v hj; match j, hj with | 0, hj => (simp at hj; subst hj; exact c9_0))) fun P10 hP10 => ?_; have zP10 := hP10.same; replace f2 := Put.frz hP10 f2; replace f3 := Put.frz hP10 f3; replace f7 := Put.frz hP10 f7; replace f9 := Put.frz hP10 f9; replace hCg := hCg.put hP10 (by omega); replace xw := Put.to xw hP10 (by omega); replace xr4 := Put.more xr4 hP10 (.inl (by omega)); replace xk := Put.more xk hP10 (.inl (by omega)); replace xc := Put.to xc hP10 (by omega); replace c2_0 := Put.cell hP10 c2_0 (by omega); replace c2_1 := Put.cell hP10 c2_1 (by omega); replace c3_0 := Put.cell hP10 c3_0 (by omega); replace c7_0 := Put.cell hP10 c7_0 (by omega); clear c9_0; replace c9_1 := Put.cellOff hP10 c9_1 (by simp); have c9_0 := hP10.new 0 _ rfl; try simp only [Nat.reduceAdd, Nat.zero_add, Nat.add_zero] at c9_0
            clear hP10; try simp only [Wops_nil, updO_some, updO_none]
            refine hK _ _ ?_; clear hK K' gd; refine Wp.keep [3, 7, 8, 9] fun r19 hkeep => ?_; obtain ⟨e3_19, e7_19, e8_19, e9_19, -⟩ := hkeep; simp [go_sem, e3_18, e7_18, e8_18, e9_18] at e3_19 e7_19 e8_19 e9_19; clear e3_18 e7_18 e8_18 e9_18; refine Wp.seqDraw (.inr ⟨_, rfl⟩) mixed [([0, 3], some (1, false)), ([], some (2, false)), ([4], none)] (by kernel_rfl) fun K' gd hK hg => ?_; clear hg; simp only [pick, nth, List.map_cons, List.map_nil, Option.map_none, Option.map_some]; refine Mops.absD fun D11 hD11 zD11 => ?_; replace f2 := Ext.fz hD11 c2_0 f2; replace f3 := Ext.fz hD11 c3_0 f3; replace f7 := Ext.fz hD11 c7_0 f7; replace f9 := Ext.fz hD11 c9_1 f9; replace hCg := hCg.ext hD11; replace xw := Ext.trans xw hD11; replace xr4 := Chg.ext xr4 hD11; replace xk := Chg.ext xk hD11; replace xc := Ext.trans xc hD11; replace c2_0 := Ext.cell hD11 c2_0; replace c2_1 := Ext.cell hD11 c2_1; replace c3_0 := Ext.cell hD11 c3_0; replace c7_0 := Ext.cell hD11 c7_0; replace c9_1 := Ext.cell hD11 c9_1; replace c9_0 := Ext.cell hD11 c9_0; clear hD11; apply Mops.act
            · intro w' hE'; have hC' := hE'.cellsS; go_simp; with_reducible rfl
            intro K1 hK1; go_simp; refine Wcall (.inr ⟨_, rfl⟩) (timed_cops a' o x g _ _ (hF.ext xc) hCg hxl (fun y hy => by have := hxi y hy; omega)) ?_; rintro v w5 ⟨b5, a5, rfl, hR5, hO5, hE⟩; go_simp; refine hK1 _ _ (by assumption) ?_; clear hK1 K1; have z20 := Below.size hE; replace f2 := Ext.fz hE c2_0 f2; replace f3 := Ext.fz hE c3_0 f3; replace f7 := Ext.fz hE c7_0 f7; replace f9 := Ext.fz hE c9_1 f9; replace hCg := hCg.ext hE; replace xw := Ext.trans xw hE; replace xr4 := Chg.ext xr4 hE; replace xk := Chg.ext xk hE; replace xc := Ext.trans xc hE; replace c2_0 := Ext.cell hE c2_0; replace c2_1 := Ext.cell hE c2_1; replace c3_0 := Ext.cell hE c3_0; replace c7_0 := Ext.cell hE c7_0; replace c9_1 := Ext.cell hE c9_1; replace c9_0 := Ext.cell hE c9_0; clear hE; apply Mops.act
            · exact fun _ _ => Rops_done
            intro K1 hK1; go_simp; refine Wcall (.inr ⟨_, rfl⟩) (end_c a5 (o.cops x) b5 _ hO5 hR5) ?_; rintro v w6 ⟨rfl, hE⟩; go_simp; refine hK1 _ _ (by assumption) ?_; clear hK1 K1; have z21 := Below.size hE; replace f2 := Ext.fz hE c2_0 f2; replace f3 := Ext.fz hE c3_0 f3; replace f7 := Ext.fz hE c7_0 f7; replace f9 := Ext.fz hE c9_1 f9; replace hCg := hCg.ext hE; replace xw := Ext.trans xw hE; replace xr4 := Chg.ext xr4 hE; replace xk := Chg.ext xk hE; replace xc := Ext.trans xc hE; replace c2_0 := Ext.cell hE c2_0; replace c2_1 := Ext.cell hE c2_1; replace c3_0 := Ext.cell hE c3_0; replace c7_0 := Ext.cell hE c7_0; replace c9_1 := Ext.cell hE c9_1; replace c9_0 := Ext.cell hE c9_0; clear hE; apply Mops.none
            · intro w' hE'; have hC' := hE'.cellsS; go_simp; with_reducible rfl
            refine Mops.done ?_; refine hK _ _ ?_; clear hK K' gd; refine Wp.keep [7, 8, 52] fun r22 hkeep => ?_; obtain ⟨e7_22, e8_22, e52_22, -⟩ := hkeep; simp [go_sem, e3_19, e7_19, e8_19, e9_19] at e7_22 e8_22 e52_22; clear e3_19 e7_19 e8_19 e9_19
            by_cases he : endS (o.cops x) ≤ d
            · refine Wp.condT (by go_simp) ?_; refine Wp.loneRegion (.inr ⟨_, rfl⟩) (by kernel_rfl) fun K' gd hK hg => ?_; clear hg; refine Wops.cut 2 fun K1 hK1 => ?_; simp only [List.take_succ_cons, List.take_zero]; go_simp; refine Wcall (.inr ⟨_, rfl⟩) (clone_s _ x _ (hCg.intsV hxl) hne (by omega)) ?_; rintro v w7 ⟨A9, c9, rfl, hN, hE⟩; go_simp; refine hK1 _ _ ?_; clear hK1 K1; simp only [List.drop_succ_cons, List.drop_zero]; have z23 := Below.size hE; replace f2 := Ext.fz hE c2_0 f2; replace f3 := Ext.fz hE c3_0 f3; replace f7 := Ext.fz hE c7_0 f7; replace f9 := Ext.fz hE c9_1 f9; replace hCg := hCg.ext hE; replace xw := Ext.trans xw hE; replace xr4 := Chg.ext xr4 hE; replace xk := Chg.ext xk hE; replace xc := Ext.trans xc hE; replace c2_0 := Ext.cell hE c2_0; replace c2_1 := Ext.cell hE c2_1; replace c3_0 := Ext.cell hE c3_0; replace c7_0 := Ext.cell hE c7_0; replace c9_1 := Ext.cell hE c9_1; replace c9_0 := Ext.cell hE c9_0; clear hE; refine Wops.cut 1 fun K1 hK1 => ?_; simp only [List.take_succ_cons, List.take_zero]; go_simp; refine hK1 _ _ ?_; clear hK1 K1; simp only [List.drop_succ_cons, List.drop_zero]; refine Wops.absS (b := n7) (i := 0) [_] (somes [cellVal c7_0] (by simp) (by intro j v hj; match j, hj with | 0, hj => (simp at hj; subst hj; exact c7_0))) fun P12 hP12 => ?_; have zP12 := hP12.same; replace f2 := Put.frz hP12 f2; replace f3 := Put.frz hP12 f3; replace f7 := Put.frz hP12 f7; replace f9 := Put.frz hP12 f9; replace hCg := hCg.put hP12 (by omega); replace hN := hN.put hP12 (by omega)
              replace xw := Put.to xw hP12 (by omega); replace xr4 := Put.more xr4 hP12 (.inr (by simp)); replace xk := Put.more xk hP12 (.inr (by simp)); clear xc; replace c2_0 := Put.cell hP12 c2_0 (by omega); replace c2_1 := Put.cell hP12 c2_1 (by omega); replace c3_0 := Put.cell hP12 c3_0 (by omega); clear c7_0; replace c9_1 := Put.cell hP12 c9_1 (by omega); replace c9_0 := Put.cell hP12 c9_0 (by omega); have c7_0 := hP12.new 0 _ rfl; try simp only [Nat.reduceAdd, Nat.zero_add, Nat.add_zero] at c7_0
              clear hP12; try simp only [Wops_nil, updO_some, updO_none]
              refine hK _ _ ?_; clear hK K' gd; refine Ends.keep [] fun r24 hkeep => ?_; clear hkeep; clear e7_22 e8_22 e52_22; refine Ends.mk ?_; refine blockK_normal ?_; refine ⟨KeepsOthers.of_chg xk (mem1 kb_n7), ⟨⟨xr4, f7⟩, ?_⟩, hCg⟩; have e : bs2 = x := by rw [hst]; unfold fewStep; rw [if_pos ⟨he, .inl hb⟩]
              subst e; exact ⟨A9, c9, by rw [hxl]; exact c7_0, hN.weak (fun b hb _ => by constructor <;> omega), fun e => absurd e hne⟩
            · refine Wp.condF (by go_simp) ?_; refine Wp.skip ?_; refine blockK_normal ?_; refine ⟨KeepsOthers.of_chg xk (mem1 kb_n7), ⟨⟨xr4, f7⟩, ?_⟩, hCg⟩; have e : bs2 = bs := by rw [hst]; unfold fewStep; rw [if_neg (fun h => he h.1)]
              subst e; exact ⟨none, c7, c7_0, hI.chg xk (fun b hb => by simp; exact hb.2), fun _ => rfl⟩
          · skip; obtain ⟨b7, o7, rfl⟩ : ∃ b7 o7, A7 = some ⟨b7, o7, none⟩ := by obtain ⟨A, c, e, h, -⟩ := hI; injection e with e; obtain ⟨b, o, h, -⟩ := h hb; rw [h] at e; exact ⟨b, o, e⟩
            by_cases hq : bs.sum ≤ x.sum
            · skip; refine Wp.block ?_; refine Wp.seq ?_; refine Wp.seqDraw (.inr ⟨_, rfl⟩) mixed [([0, 1, 2], none), ([3, 5], some (4, false)), ([], some (6, false)), ([7, 8], none)] (by kernel_rfl) fun K' gd hK hg => ?_; have g2 : gd 2 = some 37 := hg 2; clear hg; simp only [pick, nth, List.map_cons, List.map_nil, Option.map_none, Option.map_some]; refine Mops.absD fun D13 hD13 zD13 => ?_; replace f2 := Ext.fz hD13 c2_0 f2; replace f3 := Ext.fz hD13 c3_0 f3; replace f7 := Ext.fz hD13 c7_0 f7; replace hCg := hCg.ext hD13; replace xw := Ext.trans xw hD13; replace xr4 := Chg.ext xr4 hD13; replace xk := Chg.ext xk hD13; replace c2_0 := Ext.cell hD13 c2_0; replace c2_1 := Ext.cell hD13 c2_1; replace c3_0 := Ext.cell hD13 c3_0; replace c7_0 := Ext.cell hD13 c7_0; clear hD13; apply Mops.none
              · intro w' hE'; have hC' := hE'.cellsS; go_simp; with_reducible rfl
              apply Mops.act
              · intro w' hE'; have hC' := hE'.cellsS; go_simp; with_reducible rfl
              intro K1 hK1; go_simp; refine Wcall (.inr ⟨_, rfl⟩) (total_e _ x _ (hCg.intsV hxl) (fun y hy => by have := hxi y hy; omega) (by omega)) ?_; rintro v w4 ⟨rfl, hE⟩; go_simp; refine hK1 _ _ (by assumption) ?_; clear hK1 K1; have z25 := Below.size hE; replace f2 := Ext.fz hE c2_0 f2; replace f3 := Ext.fz hE c3_0 f3; replace f7 := Ext.fz hE c7_0 f7; replace hCg := hCg.ext hE; replace xw := Ext.trans xw hE; replace xr4 := Chg.ext xr4 hE; replace xk := Chg.ext xk hE; replace c2_0 := Ext.cell hE c2_0; replace c2_1 := Ext.cell hE c2_1; replace c3_0 := Ext.cell hE c3_0; replace c7_0 := Ext.cell hE c7_0; clear hE; apply Mops.act
              · exact fun _ _ => Rops_done
              intro K1 hK1; go_simp; refine Wcall (.inr ⟨_, rfl⟩) (total_e _ bs _ (hI.chg xk (fun b hb => by simp; exact hb.2)).intsV hbo (by omega)) ?_; rintro v w5 ⟨rfl, hE⟩; go_simp; refine hK1 _ _ (by assumption) ?_; clear hK1 K1; have z26 := Below.size hE; replace f2 := Ext.fz hE c2_0 f2; replace f3 := Ext.fz hE c3_0 f3; replace f7 := Ext.fz hE c7_0 f7; replace hCg := hCg.ext hE; replace xw := Ext.trans xw hE; replace xr4 := Chg.ext xr4 hE; replace xk := Chg.ext xk hE; replace c2_0 := Ext.cell hE c2_0; replace c2_1 := Ext.cell hE c2_1; replace c3_0 := Ext.cell hE c3_0; replace c7_0 := Ext.cell hE c7_0; clear hE; apply Mops.none
              · intro w' hE'; have hC' := hE'.cellsS; go_simp; with_reducible rfl
              refine Mops.done ?_; refine hK _ _ ?_; clear hK K' gd g2; refine Wp.keep [2, 3, 7, 8, 43] fun r27 hkeep => ?_; obtain ⟨e2_27, e3_27, e7_27, e8_27, e43_27, -⟩ := hkeep; simp [go_sem, e2_15, e3_15, e7_15, e8_15] at e2_27 e3_27 e7_27 e8_27 e43_27; clear e2_15 e3_15 e7_15 e8_15; refine Wp.condT (by go_simp) ?_; refine Wp.exit ?_; refine thenK_exit ?_; refine blockK_here ?_; refine ⟨KeepsOthers.of_chg xk (mem1 kb_n7), ⟨⟨xr4, f7⟩, ?_⟩, hCg⟩; have e : bs2 = bs := by rw [hst]; unfold fewStep; rw [if_neg (fun h => by rcases h.2 with h | h; exact hb h; omega)]
              subst e; exact ⟨_, c7, c7_0, hI.chg xk (fun b hb => by simp; exact hb.2), hnil⟩
            · skip; refine Wp.block ?_; refine Wp.seq ?_; refine Wp.seqDraw (.inr ⟨_, rfl⟩) mixed [([0, 1, 2], none), ([3, 5], some (4, false)), ([], some (6, false)), ([7, 8], none)] (by kernel_rfl) fun K' gd hK hg => ?_; have g2 : gd 2 = some 37 := hg 2; clear hg; simp only [pick, nth, List.map_cons, List.map_nil, Option.map_none, Option.map_some]; refine Mops.absD fun D14 hD14 zD14 => ?_; replace f2 := Ext.fz hD14 c2_0 f2; replace f3 := Ext.fz hD14 c3_0 f3; replace f7 := Ext.fz hD14 c7_0 f7; replace hCg := hCg.ext hD14; replace xw := Ext.trans xw hD14; replace xr4 := Chg.ext xr4 hD14; replace xk := Chg.ext xk hD14; replace c2_0 := Ext.cell hD14 c2_0; replace c2_1 := Ext.cell hD14 c2_1; replace c3_0 := Ext.cell hD14 c3_0; replace c7_0 := Ext.cell hD14 c7_0; clear hD14; apply Mops.none
              · intro w' hE'; have hC' := hE'.cellsS; go_simp; with_reducible rfl
              apply Mops.act
              · intro w' hE'; have hC' := hE'.cellsS; go_simp; with_reducible rfl
              intro K1 hK1; go_simp; refine Wcall (.inr ⟨_, rfl⟩) (total_e _ x _ (hCg.intsV hxl) (fun y hy => by have := hxi y hy; omega) (by omega)) ?_; rintro v w4 ⟨rfl, hE⟩; go_simp; refine hK1 _ _ (by assumption) ?_; clear hK1 K1; have z28 := Below.size hE; replace f2 := Ext.fz hE c2_0 f2; replace f3 := Ext.fz hE c3_0 f3; replace f7 := Ext.fz hE c7_0 f7; replace hCg := hCg.ext hE; replace xw := Ext.trans xw hE; replace xr4 := Chg.ext xr4 hE; replace xk := Chg.ext xk hE; replace c2_0 := Ext.cell hE c2_0; replace c2_1 := Ext.cell hE c2_1; replace c3_0 := Ext.cell hE c3_0; replace c7_0 := Ext.cell hE c7_0; clear hE; apply Mops.act
              · exact fun _ _ => Rops_done
              intro K1 hK1; go_simp; refine Wcall (.inr ⟨_, rfl⟩) (total_e _ bs _ (hI.chg xk (fun b hb => by simp; exact hb.2)).intsV hbo (by omega)) ?_; rintro v w5 ⟨rfl, hE⟩; go_simp; refine hK1 _ _ (by assumption) ?_; clear hK1 K1; have z29 := Below.size hE; replace f2 := Ext.fz hE c2_0 f2; replace f3 := Ext.fz hE c3_0 f3; replace f7 := Ext.fz hE c7_0 f7; replace hCg := hCg.ext hE; replace xw := Ext.trans xw hE; replace xr4 := Chg.ext xr4 hE; replace xk := Chg.ext xk hE; replace c2_0 := Ext.cell hE c2_0; replace c2_1 := Ext.cell hE c2_1; replace c3_0 := Ext.cell hE c3_0; replace c7_0 := Ext.cell hE c7_0; clear hE; apply Mops.none
              · intro w' hE'; have hC' := hE'.cellsS; go_simp; with_reducible rfl
              refine Mops.done ?_; refine hK _ _ ?_; clear hK K' gd g2; refine Wp.keep [2, 3, 7, 8, 43] fun r30 hkeep => ?_; obtain ⟨e2_30, e3_30, e7_30, e8_30, e43_30, -⟩ := hkeep; simp [go_sem, e2_15, e3_15, e7_15, e8_15] at e2_30 e3_30 e7_30 e8_30 e43_30; clear e2_15 e3_15 e7_15 e8_15; refine Wp.condF (by go_simp) ?_; refine Wp.skip ?_; refine thenK_normal ?_; refine Wp.seqRegion (.inr ⟨_, rfl⟩) (by kernel_rfl) fun K' gd hK hg => ?_; clear hg; refine Wops.cut 2 fun K1 hK1 => ?_; simp only [List.take_succ_cons, List.take_zero]; go_simp; refine Wcall (.inr ⟨_, rfl⟩) (copied_c a o _ (hO0.ext xw)) ?_; rintro v w4 ⟨a', rfl, hF, hE⟩; simp only [OA.cv, OA.rv]; have xc := Ext.refl w4; go_simp; refine hK1 _ _ ?_; clear hK1 K1; simp only [List.drop_succ_cons, List.drop_zero]; have z31 := Below.size hE; replace f2 := Ext.fz hE c2_0 f2; replace f3 := Ext.fz hE c3_0 f3; replace f7 := Ext.fz hE c7_0 f7; replace hCg := hCg.ext hE; replace xw := Ext.trans xw hE; replace xr4 := Chg.ext xr4 hE; replace xk := Chg.ext xk hE; replace c2_0 := Ext.cell hE c2_0; replace c2_1 := Ext.cell hE c2_1; replace c3_0 := Ext.cell hE c3_0; replace c7_0 := Ext.cell hE c7_0; clear hE; refine Wops.cut 2 fun K1 hK1 => ?_; simp only [List.take_succ_cons, List.take_zero]; go_simp; refine hK1 _ _ ?_; clear hK1 K1; simp only [List.drop_succ_cons, List.drop_zero]; refine Wops.absA fun V9_16 n9 hV9_16 => ?_; obtain ⟨q9, hV9_16, s9, kV9_16, f9, r9⟩ := hV9_16; try simp only [q9] at kV9_16 f9 r9 ⊢
              replace f2 := Ext.fz hV9_16 c2_0 f2; replace f3 := Ext.fz hV9_16 c3_0 f3; replace f7 := Ext.fz hV9_16 c7_0 f7; replace hCg := hCg.ext hV9_16; replace xw := Ext.trans xw hV9_16; replace xr4 := Chg.ext xr4 hV9_16; replace xk := Chg.ext xk hV9_16; replace xc := Ext.trans xc hV9_16; replace c2_0 := Ext.cell hV9_16 c2_0; replace c2_1 := Ext.cell hV9_16 c2_1; replace c3_0 := Ext.cell hV9_16 c3_0; replace c7_0 := Ext.cell hV9_16 c7_0; have c9_0 := kV9_16 0 _ rfl; have c9_1 := kV9_16 1 _ rfl; clear kV9_16 hV9_16; clear r9; try simp only [Wops_nil, updO_some, updO_none]
              refine hK _ _ ?_; clear hK K' gd; refine Wp.keep [3, 7, 8, 9] fun r32 hkeep => ?_; obtain ⟨e3_32, e7_32, e8_32, e9_32, -⟩ := hkeep; simp [go_sem, e2_30, e3_30, e7_30, e8_30, e43_30] at e3_32 e7_32 e8_32 e9_32; clear e2_30 e3_30 e7_30 e8_30 e43_30; refine Wp.seqRegion (.inr ⟨_, rfl⟩) (by kernel_rfl) fun K' gd hK hg => ?_; clear hg; refine Wops.cut 3 fun K1 hK1 => ?_; simp only [List.take_succ_cons, List.take_zero]; go_simp; refine hK1 _ _ ?_; clear hK1 K1; simp only [List.drop_succ_cons, List.drop_zero]; refine Wops.absS (b := n9) (i := 0) [_] (somes [cellVal c9_0] (by simp) (by intro j v hj; match j, hj with | 0, hj => (simp at hj; subst hj; exact c9_0))) fun P17 hP17 => ?_; have zP17 := hP17.same; replace f2 := Put.frz hP17 f2; replace f3 := Put.frz hP17 f3; replace f7 := Put.frz hP17 f7; replace f9 := Put.frz hP17 f9; replace hCg := hCg.put hP17 (by omega); replace xw := Put.to xw hP17 (by omega); replace xr4 := Put.more xr4 hP17 (.inl (by omega)); replace xk := Put.more xk hP17 (.inl (by omega)); replace xc := Put.to xc hP17 (by omega); replace c2_0 := Put.cell hP17 c2_0 (by omega); replace c2_1 := Put.cell hP17 c2_1 (by omega); replace c3_0 := Put.cell hP17 c3_0 (by omega); replace c7_0 := Put.cell hP17 c7_0 (by omega); clear c9_0; replace c9_1 := Put.cellOff hP17 c9_1 (by simp); have c9_0 := hP17.new 0 _ rfl; try simp only [Nat.reduceAdd, Nat.zero_add, Nat.add_zero] at c9_0
              clear hP17; try simp only [Wops_nil, updO_some, updO_none]
              refine hK _ _ ?_; clear hK K' gd; refine Wp.keep [3, 7, 8, 9] fun r33 hkeep => ?_; obtain ⟨e3_33, e7_33, e8_33, e9_33, -⟩ := hkeep; simp [go_sem, e3_32, e7_32, e8_32, e9_32] at e3_33 e7_33 e8_33 e9_33; clear e3_32 e7_32 e8_32 e9_32; refine Wp.seqDraw (.inr ⟨_, rfl⟩) mixed [([0, 3], some (1, false)), ([], some (2, false)), ([4], none)] (by kernel_rfl) fun K' gd hK hg => ?_; clear hg; simp only [pick, nth, List.map_cons, List.map_nil, Option.map_none, Option.map_some]; refine Mops.absD fun D18 hD18 zD18 => ?_; replace f2 := Ext.fz hD18 c2_0 f2; replace f3 := Ext.fz hD18 c3_0 f3; replace f7 := Ext.fz hD18 c7_0 f7; replace f9 := Ext.fz hD18 c9_1 f9; replace hCg := hCg.ext hD18; replace xw := Ext.trans xw hD18; replace xr4 := Chg.ext xr4 hD18; replace xk := Chg.ext xk hD18; replace xc := Ext.trans xc hD18; replace c2_0 := Ext.cell hD18 c2_0; replace c2_1 := Ext.cell hD18 c2_1; replace c3_0 := Ext.cell hD18 c3_0; replace c7_0 := Ext.cell hD18 c7_0; replace c9_1 := Ext.cell hD18 c9_1; replace c9_0 := Ext.cell hD18 c9_0; clear hD18; apply Mops.act
              · intro w' hE'; have hC' := hE'.cellsS; go_simp; with_reducible rfl
              intro K1 hK1; go_simp; refine Wcall (.inr ⟨_, rfl⟩) (timed_cops a' o x g _ _ (hF.ext xc) hCg hxl (fun y hy => by have := hxi y hy; omega)) ?_; rintro v w5 ⟨b5, a5, rfl, hR5, hO5, hE⟩; go_simp; refine hK1 _ _ (by assumption) ?_; clear hK1 K1; have z34 := Below.size hE; replace f2 := Ext.fz hE c2_0 f2; replace f3 := Ext.fz hE c3_0 f3; replace f7 := Ext.fz hE c7_0 f7; replace f9 := Ext.fz hE c9_1 f9; replace hCg := hCg.ext hE; replace xw := Ext.trans xw hE; replace xr4 := Chg.ext xr4 hE; replace xk := Chg.ext xk hE; replace xc := Ext.trans xc hE; replace c2_0 := Ext.cell hE c2_0; replace c2_1 := Ext.cell hE c2_1; replace c3_0 := Ext.cell hE c3_0; replace c7_0 := Ext.cell hE c7_0; replace c9_1 := Ext.cell hE c9_1; replace c9_0 := Ext.cell hE c9_0; clear hE; apply Mops.act
              · exact fun _ _ => Rops_done
              intro K1 hK1; go_simp; refine Wcall (.inr ⟨_, rfl⟩) (end_c a5 (o.cops x) b5 _ hO5 hR5) ?_; rintro v w6 ⟨rfl, hE⟩; go_simp; refine hK1 _ _ (by assumption) ?_; clear hK1 K1; have z35 := Below.size hE; replace f2 := Ext.fz hE c2_0 f2; replace f3 := Ext.fz hE c3_0 f3; replace f7 := Ext.fz hE c7_0 f7; replace f9 := Ext.fz hE c9_1 f9; replace hCg := hCg.ext hE; replace xw := Ext.trans xw hE; replace xr4 := Chg.ext xr4 hE; replace xk := Chg.ext xk hE; replace xc := Ext.trans xc hE; replace c2_0 := Ext.cell hE c2_0; replace c2_1 := Ext.cell hE c2_1; replace c3_0 := Ext.cell hE c3_0; replace c7_0 := Ext.cell hE c7_0; replace c9_1 := Ext.cell hE c9_1; replace c9_0 := Ext.cell hE c9_0; clear hE; apply Mops.none
              · intro w' hE'; have hC' := hE'.cellsS; go_simp; with_reducible rfl
              refine Mops.done ?_; refine hK _ _ ?_; clear hK K' gd; refine Wp.keep [7, 8, 52] fun r36 hkeep => ?_; obtain ⟨e7_36, e8_36, e52_36, -⟩ := hkeep; simp [go_sem, e3_33, e7_33, e8_33, e9_33] at e7_36 e8_36 e52_36; clear e3_33 e7_33 e8_33 e9_33
              by_cases he : endS (o.cops x) ≤ d
              · refine Wp.condT (by go_simp) ?_; refine Wp.loneRegion (.inr ⟨_, rfl⟩) (by kernel_rfl) fun K' gd hK hg => ?_; clear hg; refine Wops.cut 2 fun K1 hK1 => ?_; simp only [List.take_succ_cons, List.take_zero]; go_simp; refine Wcall (.inr ⟨_, rfl⟩) (clone_s _ x _ (hCg.intsV hxl) hne (by omega)) ?_; rintro v w7 ⟨A9, c9, rfl, hN, hE⟩; go_simp; refine hK1 _ _ ?_; clear hK1 K1; simp only [List.drop_succ_cons, List.drop_zero]; have z37 := Below.size hE; replace f2 := Ext.fz hE c2_0 f2; replace f3 := Ext.fz hE c3_0 f3; replace f7 := Ext.fz hE c7_0 f7; replace f9 := Ext.fz hE c9_1 f9; replace hCg := hCg.ext hE; replace xw := Ext.trans xw hE; replace xr4 := Chg.ext xr4 hE; replace xk := Chg.ext xk hE; replace xc := Ext.trans xc hE; replace c2_0 := Ext.cell hE c2_0; replace c2_1 := Ext.cell hE c2_1; replace c3_0 := Ext.cell hE c3_0; replace c7_0 := Ext.cell hE c7_0; replace c9_1 := Ext.cell hE c9_1; replace c9_0 := Ext.cell hE c9_0; clear hE; refine Wops.cut 1 fun K1 hK1 => ?_; simp only [List.take_succ_cons, List.take_zero]; go_simp; refine hK1 _ _ ?_; clear hK1 K1; simp only [List.drop_succ_cons, List.drop_zero]; refine Wops.absS (b := n7) (i := 0) [_] (somes [cellVal c7_0] (by simp) (by intro j v hj; match j, hj with | 0, hj => (simp at hj; subst hj; exact c7_0))) fun P19 hP19 => ?_; have zP19 := hP19.same; replace f2 := Put.frz hP19 f2; replace f3 := Put.frz hP19 f3; replace f7 := Put.frz hP19 f7; replace f9 := Put.frz hP19 f9; replace hCg := hCg.put hP19 (by omega); replace hN := hN.put hP19 (by omega)
                replace xw := Put.to xw hP19 (by omega); replace xr4 := Put.more xr4 hP19 (.inr (by simp)); replace xk := Put.more xk hP19 (.inr (by simp)); clear xc; replace c2_0 := Put.cell hP19 c2_0 (by omega); replace c2_1 := Put.cell hP19 c2_1 (by omega); replace c3_0 := Put.cell hP19 c3_0 (by omega); clear c7_0; replace c9_1 := Put.cell hP19 c9_1 (by omega); replace c9_0 := Put.cell hP19 c9_0 (by omega); have c7_0 := hP19.new 0 _ rfl; try simp only [Nat.reduceAdd, Nat.zero_add, Nat.add_zero] at c7_0
                clear hP19; try simp only [Wops_nil, updO_some, updO_none]
                refine hK _ _ ?_; clear hK K' gd; refine Ends.keep [] fun r38 hkeep => ?_; clear hkeep; clear e7_36 e8_36 e52_36; refine Ends.mk ?_; refine blockK_normal ?_; refine ⟨KeepsOthers.of_chg xk (mem1 kb_n7), ⟨⟨xr4, f7⟩, ?_⟩, hCg⟩; have e : bs2 = x := by rw [hst]; unfold fewStep; rw [if_pos ⟨he, .inr (by omega)⟩]
                subst e; exact ⟨A9, c9, by rw [hxl]; exact c7_0, hN.weak (fun b hb _ => by constructor <;> omega), fun e => absurd e hne⟩
              · refine Wp.condF (by go_simp) ?_; refine Wp.skip ?_; refine blockK_normal ?_; refine ⟨KeepsOthers.of_chg xk (mem1 kb_n7), ⟨⟨xr4, f7⟩, ?_⟩, hCg⟩; have e : bs2 = bs := by rw [hst]; unfold fewStep; rw [if_neg (fun h => he h.1)]
                subst e; exact ⟨_, c7, c7_0, hI.chg xk (fun b hb => by simp; exact hb.2), hnil⟩
        · rintro rm g W hrm ⟨⟨xr4, gf7⟩, ⟨A7, c7, gc7_0, hI, hnil⟩⟩ hmk; have zxr4 := Chg.size xr4; replace f2 := Chg.fz xr4 c2_0 f2 (by intro hm; simp only [List.mem_cons, List.not_mem_nil, or_false] at hm; omega); replace f3 := Chg.fz xr4 c3_0 f3 (by intro hm; simp only [List.mem_cons, List.not_mem_nil, or_false] at hm; omega); clear f7; replace xw := Chg.to xw xr4 (by intro b hm; simp only [List.mem_cons, List.not_mem_nil, or_false] at hm; omega); replace c2_0 := Chg.cell xr4 c2_0 (by intro hm; simp only [List.mem_cons, List.not_mem_nil, or_false] at hm; omega); replace c2_1 := Chg.cell xr4 c2_1 (by intro hm; simp only [List.mem_cons, List.not_mem_nil, or_false] at hm; omega); replace c3_0 := Chg.cell xr4 c3_0 (by intro hm; simp only [List.mem_cons, List.not_mem_nil, or_false] at hm; omega); clear c7_0; replace s0 := Chg.cell xr4 s0 (by intro hm; simp only [List.mem_cons, List.not_mem_nil, or_false] at hm; omega); replace s1 := Chg.cell xr4 s1 (by intro hm; simp only [List.mem_cons, List.not_mem_nil, or_false] at hm; omega); have f7 := gf7; clear gf7; have c7_0 := gc7_0; clear gc7_0; refine blockK_normal ?_; refine thenK_normal ?_; obtain ⟨bs, hbs⟩ : ∃ bs, fewL o d (xs.take xs.length) = bs := ⟨_, rfl⟩; rw [hbs] at c7_0 hI hnil; have hfr : ∃ _u : Unit, fewR o d = bs := ⟨(), by obtain ⟨-, e⟩ := hgr2; unfold fewR; rw [← hbs, List.take_length, ← hxs, ← e]⟩
          by_cases hb : bs = []
          · skip; obtain rfl := hnil hb; refine Wp.seq ?_; refine Wp.seqRegion (.inl rfl) (by kernel_rfl) fun K' gd hK hg => ?_; clear hg; go_simp; refine hK _ _ ?_; clear hK K' gd; refine Wp.keep [7, 56] fun r39 hkeep => ?_; obtain ⟨e7_39, e56_39, -⟩ := hkeep; simp [go_sem, e2_13, e3_13, e7_13, e33_13] at e7_39 e56_39; clear e2_13 e3_13 e7_13 e33_13; refine Wp.condT (by go_simp) ?_; refine Wp.seqRegion (.inl rfl) (by kernel_rfl) fun K' gd hK hg => ?_; clear hg; go_simp; refine hK _ _ ?_; clear hK K' gd; refine Wp.keep [4, 5] fun r40 hkeep => ?_; obtain ⟨e4_40, e5_40, -⟩ := hkeep; simp [go_sem, e7_39, e56_39] at e4_40 e5_40; clear e7_39 e56_39; refine Wp.ret ?_; refine thenK_ret ?_; refine endM_tmp2 Try.results39 (by decide) (by decide) ((Marks.one (by first | omega | (simp at hrm; omega)) hmk)) fun wz hS => ?_; rw [e4_40, e5_40]; have e : fewE o d = 5 := by obtain ⟨-, e⟩ := hfr; unfold fewE; rw [if_pos h0, if_neg (by omega), e, if_pos hb]
            exact ⟨_, by rw [e], by rw [e, if_neg (by decide)]; exact ⟨none, 0, rfl, fun h => absurd rfl h, Nat.le_refl _⟩, Shut.ext xw hS⟩
          · skip; obtain ⟨b7, o7, rfl⟩ : ∃ b7 o7, A7 = some ⟨b7, o7, none⟩ := by obtain ⟨A, c, e, h, -⟩ := hI; injection e with e; obtain ⟨b, o, h, -⟩ := h hb; rw [h] at e; exact ⟨b, o, e⟩
            refine Wp.seq ?_; refine Wp.seqRegion (.inl rfl) (by kernel_rfl) fun K' gd hK hg => ?_; clear hg; go_simp; refine hK _ _ ?_; clear hK K' gd; refine Wp.keep [7, 56] fun r41 hkeep => ?_; obtain ⟨e7_41, e56_41, -⟩ := hkeep; simp [go_sem, e2_13, e3_13, e7_13, e33_13] at e7_41 e56_41; clear e2_13 e3_13 e7_13 e33_13; refine Wp.condF (by go_simp) ?_; refine Wp.skip ?_; refine thenK_normal ?_; refine Wp.seqRegion (.inl rfl) (by kernel_rfl) fun K' gd hK hg => ?_; clear hg; go_simp; refine hK _ _ ?_; clear hK K' gd; refine Wp.keep [4, 5] fun r42 hkeep => ?_; obtain ⟨e4_42, e5_42, -⟩ := hkeep; simp [go_sem, e7_41, e56_41] at e4_42 e5_42; clear e7_41 e56_41; refine Wp.ret ?_; refine endM_tmp2 Try.results39 (by decide) (by decide) ((Marks.one (by first | omega | (simp at hrm; omega)) hmk)) fun wz hS => ?_; rw [e4_42, e5_42]; obtain ⟨-, e9⟩ := hfr; have e : fewE o d = 0 := by unfold fewE; rw [if_pos h0, if_neg (by omega), e9, if_neg hb]
            exact ⟨_, by rw [e], by rw [if_pos e, e9]; exact (hI.shut hS).weak (fun b hb _ => by trivial), Shut.ext xw hS⟩
        · rintro rm c W hrm hf hmk; exact hf.elim
  · skip; refine Wp.seqRegion (.inl rfl) (by kernel_rfl) fun K' gd hK hg => ?_; clear hg; go_simp; refine hK _ _ ?_; clear hK K' gd; refine Wp.keep [2, 3, 6, 14] fun r43 hkeep => ?_; obtain ⟨e2_43, e3_43, e6_43, e14_43, -⟩ := hkeep; simp [go_sem, e2_4, e3_4, e6_4] at e2_43 e3_43 e6_43 e14_43; clear e2_4 e3_4 e6_4; refine Wp.condT (by go_simp) ?_; refine Wp.seqRegion (.inl rfl) (by kernel_rfl) fun K' gd hK hg => ?_; clear hg; go_simp; refine hK _ _ ?_; clear hK K' gd; refine Wp.keep [4, 5] fun r44 hkeep => ?_; obtain ⟨e4_44, e5_44, -⟩ := hkeep; simp [go_sem, e2_43, e3_43, e6_43, e14_43] at e4_44 e5_44; clear e2_43 e3_43 e6_43 e14_43; refine Wp.ret ?_; refine thenK_ret ?_; refine endM_tmp2 Try.results39 (by decide) (by decide) (trivial) fun wz hS => ?_; rw [e4_44, e5_44]; have e : fewE o d = askS o (okDay d) := by unfold fewE; rw [if_neg h0]
    exact ⟨_, by rw [e], by rw [e, if_neg h0]; exact ⟨none, 0, rfl, fun h => absurd rfl h, Nat.le_refl _⟩, Shut.ext xw hS⟩
end Go.Proofs.Ytnfagcccgmakdaa
namespace Go.Proofs.Ytnfagcccgmakdaa
open Go.RowKit Go.Wk Go.Proofs
def UV (w : World) (B : Nat) (v : Value) (xs : List Int) : Prop :=
  ∃ (A : Option Addr) (c : Nat), v = .slice A xs.length c ∧ (xs ≠ [] → ∃ b o, A = some ⟨b, o, none⟩ ∧ b < B ∧ ∀ k (h : k < xs.length), w.cell? ⟨b, o + k, none⟩ = some (.int .u8 xs[k])) ∧ xs.length ≤ c
theorem openU {w : World} {v : Value} (h : Rd Try.prog w 70 [v]) : ∃ xs, UV w w.heap.size v xs ∧ xs.length ≤ farI ∧ ∀ x ∈ xs, 0 ≤ x ∧ x ≤ 255 := by
  have e1 : Try.prog.cellsOf 5 = 1 := by kernel_rfl
  have e2 : Try.prog.bytesOf 5 = 1 := by kernel_rfl
  obtain ⟨A, n, c, rfl, hn, hc, hx⟩ := h.list Try.underlying70 (by rw [e1]; decide) (by rw [e2]; decide); rw [e1] at hx; clear e1 e2
  obtain ⟨f, hf⟩ := Go.Deep.choose_lt (α := Int) (p := fun i z => ∃ b o, A = some ⟨b, o, none⟩ ∧ b < w.heap.size ∧ w.cell? ⟨b, o + i, none⟩ = some (.int .u8 z) ∧ 0 ≤ z ∧ z ≤ 255) fun i hi => by
    obtain ⟨b, o, cs, h1, h2, h3, h4, h5⟩ := hx i hi; obtain ⟨z, rfl, hz⟩ := h5.int Try.underlying5; have := Go.bounds_u8 hz; exact ⟨z, b, o, h1, h2, by have := h4 0 (by decide); simpa using this, by omega, by omega⟩
  have hl : ((List.range n).map f).length = n := by simp
  refine ⟨(List.range n).map f, ⟨A, c, by rw [hl], fun hne => ?_, by rw [hl]; exact hn⟩, by rw [hl]; omega, fun x hx => ?_⟩
  · have h0 : 0 < n := by
      rcases Nat.eq_zero_or_pos n with e | e
      · subst e; exact absurd rfl hne
      · exact e
    obtain ⟨b, o, h1, h2, -⟩ := hf 0 h0; refine ⟨b, o, h1, h2, fun k hk => ?_⟩; rw [hl] at hk; obtain ⟨b', o', h1', h2', h3', -⟩ := hf k hk; rw [h1] at h1'
    injection h1' with h1'
    injection h1' with hb ho
    subst hb; subst ho
    simpa using h3'
  · obtain ⟨i, hi, rfl⟩ := List.mem_map.1 hx; obtain ⟨_, _, _, _, _, h⟩ := hf i (List.mem_range.1 hi); exact h
theorem UV.at_ {w : World} {B n c : Nat} {A : Option Addr} {xs : List Int} (h : UV w B (.slice A n c) xs) {k : Nat} (hk : k < xs.length) : ∃ b o, A = some ⟨b, o, none⟩ ∧ w.cell? ⟨b, o + k, none⟩ = some (.int .u8 xs[k]) := by
  obtain ⟨A', c', e, hx, -⟩ := h
  injection e with e1
  subst e1; obtain ⟨b, o, hA, -, hc⟩ := hx (fun e => by rw [e] at hk; exact Nat.not_lt_zero _ hk); exact ⟨b, o, hA, hc k hk⟩
theorem UV.slice {w : World} {B : Nat} {v : Value} {xs : List Int} (h : UV w B v xs) : ∃ A c, v = .slice A xs.length c := by
  obtain ⟨A, c, e, -⟩ := h; exact ⟨A, c, e⟩
def PV (w : World) (B : Nat) (v : Value) (xs : List (Int × Int)) : Prop :=
  ∃ (A : Option Addr) (c : Nat), v = .slice A xs.length c ∧ (xs ≠ [] → ∃ b o, A = some ⟨b, o, none⟩ ∧ b < B ∧ ∀ k (h : k < xs.length), w.cell? ⟨b, o + k * 2, none⟩ = some (.int .u8 xs[k].1) ∧ w.cell? ⟨b, o + k * 2 + 1, none⟩ = some (.int .u8 xs[k].2)) ∧ xs.length ≤ c
theorem PV.at_ {w : World} {B n c : Nat} {A : Option Addr} {xs : List (Int × Int)} (h : PV w B (.slice A n c) xs) {k : Nat} (hk : k < xs.length) : ∃ b o, A = some ⟨b, o, none⟩ ∧ w.cell? ⟨b, o + k * 2, none⟩ = some (.int .u8 xs[k].1) ∧ w.cell? ⟨b, o + k * 2 + 1, none⟩ = some (.int .u8 xs[k].2) := by
  obtain ⟨A', c', e, hx, -⟩ := h
  injection e with e1
  subst e1; obtain ⟨b, o, hA, -, hc⟩ := hx (fun e => by rw [e] at hk; exact Nat.not_lt_zero _ hk); exact ⟨b, o, hA, hc k hk⟩
theorem PV.slice {w : World} {B : Nat} {v : Value} {xs : List (Int × Int)} (h : PV w B v xs) : ∃ A c, v = .slice A xs.length c := by
  obtain ⟨A, c, e, -⟩ := h; exact ⟨A, c, e⟩
end Go.Proofs.Ytnfagcccgmakdaa
namespace Go.Proofs.Ytnfagcccgmakdaa
open Go.RowKit Go.Wk Go.Proofs
attribute [local irreducible] Go.Wk.Wops Go.Wk.Wp Go.Wk.Mtree Go.Wk.Mops
set_option maxHeartbeats 4000000
def LowI (w : World) (S : Nat) (v : Value) (xs : List Int) : Prop := IntsP w (fun b => b < S) v xs
theorem LowI.ext {w w' : World} {S : Nat} {v : Value} {xs : List Int} (h : LowI w S v xs) (hE : Ext w w') : LowI w' S v xs := IntsP.ext h hE
theorem LowI.chg {L : List Nat} {w w' : World} {S : Nat} {v : Value} {xs : List Int} (h : LowI w S v xs) (hC : Chg L w w') (hb : ∀ b, b < S → b ∉ L) : LowI w' S v xs := IntsP.chg h hC hb
theorem LowI.put {w V : World} {b i S : Nat} {v : Value} {xs : List Int} {vs : List Value} (h : LowI w S v xs) (p : Put w V b i vs) (hb : S ≤ b) : LowI V S v xs := IntsP.put h p (by show ¬ b < S; omega)
theorem LowI.intsV {w : World} {S : Nat} {v : Value} {xs : List Int} (h : LowI w S v xs) : IntsV w w.heap.size v xs := IntsP.intsV h
theorem Few_g (v : Value) (o : Ord) (d : Int) (w : World) (hV : OrderV w w.heap.size v o) (hg : OrdGood o) (hm : o.m ≤ 4) (hn : o.n ≤ 6) (hd : 0 ≤ d ∧ d ≤ 1048576) :
    CallsV Try.prog 39 #[v, .int .i64 d] w fun v w' => ∃ A c, v = .tuple #[.slice A (fewR o d).length c, .int .i64 (if fewR o d = [] then 5 else 0)] ∧ LowI w' w'.heap.size (.slice A (fewR o d).length c) (fewR o d) ∧ Ext w w' :=
  (Fewest_c v o d w hV hg.fits).mono fun _ w' ⟨t, h1, h2, h3⟩ => by
    have e : fewE o d = if fewR o d = [] then 5 else 0 := by
      unfold fewE; rw [if_pos (askS_good hg (by unfold okDay; exact decide_eq_true hd)), if_neg (by omega)]
    have e2 : (if fewE o d = 0 then fewR o d else []) = fewR o d := by
      rw [e]
      by_cases h : fewR o d = []
      · rw [if_pos h, if_neg (by decide), h]
      · rw [if_neg h, if_pos rfl]
    rw [e2] at h2; rw [e] at h1; obtain ⟨A, c, e3, -⟩ := id h2; subst e3; exact ⟨A, c, h1, h2.weak fun k _ hk => hk, h3⟩
theorem lawTotal_c (v : Value) (xs : List Int) (w : World) (hx : IntsV w w.heap.size v xs) (hs : ∀ x ∈ xs, 0 ≤ x ∧ x ≤ 1000) (hl : xs.length ≤ 1000) :
    CallsV Try.prog 40 #[v] w fun v w' => v = .int .i64 xs.sum ∧ Ext w w' := by
  have key : ∀ (l : List Int), (∀ x ∈ l, 0 ≤ x ∧ x ≤ 1000) → 0 ≤ l.sum ∧ l.sum ≤ 1000 * (l.length : Int) := by
    intro l
    induction l with
    | nil => intro _; simp
    | cons x l ih =>
      intro h; have h1 := h x (List.mem_cons_self ..); have h2 := ih fun y hy => h y (List.mem_cons_of_mem _ hy); simp only [List.sum_cons, List.length_cons]; omega
  have hsum : ∀ k, k ≤ xs.length → 0 ≤ (xs.take k).sum ∧ (xs.take k).sum ≤ 1000000 := fun k hk => by
    have := key (xs.take k) fun x hx => hs x (List.mem_of_mem_take hx); rw [List.length_take] at this; omega
  obtain ⟨A, c, rfl, hx, -⟩ := hx; refine Wp.fn Try.func40 rfl Try.ntmps40 (by simp) ?_; refine Wp.keep [0] fun r1 hkeep => ?_; obtain ⟨e0_1, -⟩ := hkeep; simp [go_sem] at e0_1; refine Wp.seqRegion (.inl rfl) (by kernel_rfl) fun K' gd hK hg => ?_; clear hg; go_simp; refine hK _ _ ?_; clear hK K' gd; refine Wp.keep [0] fun r2 hkeep => ?_; obtain ⟨e0_2, -⟩ := hkeep; simp [go_sem, e0_1] at e0_2; clear e0_1; refine Wp.seqRegion (.inl rfl) (by kernel_rfl) fun K' gd hK hg => ?_; clear hg; go_simp; refine hK _ _ ?_; clear hK K' gd; refine Wp.keep [0, 3] fun r3 hkeep => ?_; obtain ⟨e0_3, e3_3, -⟩ := hkeep; simp [go_sem, e0_2] at e0_3 e3_3; clear e0_2; refine Wp.seq ?_; refine Wp.seqRegion (.inl rfl) (by kernel_rfl) fun K' gd hK hg => ?_; clear hg; go_simp; refine hK _ _ ?_; clear hK K' gd; refine Wp.keep [0, 3, 4] fun r4 hkeep => ?_; obtain ⟨e0_4, e3_4, e4_4, -⟩ := hkeep; simp [go_sem, e0_3, e3_3] at e0_4 e3_4 e4_4; clear e0_3 e3_3; refine Wp.block ?_; refine Wp.loop (fun k ρ ds wk => AllEq [0] ρ r4 ∧ ds = [] ∧ (ρ 4 = .int .i64 (k : Int) ∧ ρ 3 = .int .i64 (xs.take k).sum ∧ Ext w wk)) (xs.length) ?_ ?_
  · refine ⟨AllEq.refl _ _, rfl, ?_⟩; exact ⟨by rw [e4_4]; rfl, by rw [e3_4]; rfl, Ext.refl _⟩
  · rintro k r5 _ wk hk ⟨hA, rfl, ⟨e4, e3, hE⟩⟩; obtain ⟨e0_5, -⟩ := hA; rw [e0_4] at e0_5; refine Wp.seq ?_; refine Wp.seqRegion (.inl rfl) (by kernel_rfl) fun K' gd hK hg => ?_; clear hg; go_simp; refine hK _ _ ?_; clear hK K' gd; refine Wp.keep [0, 3, 4, 8] fun r6 hkeep => ?_; obtain ⟨e0_6, e3_6, e4_6, e8_6, -⟩ := hkeep; simp [go_sem, e0_5, e3, e4] at e0_6 e3_6 e4_6 e8_6; clear e0_5 e3 e4
    by_cases h : k < xs.length
    · refine Wp.condT (by go_simp) ?_; obtain ⟨b, o, rfl, hb, hc⟩ := hx (by intro e; rw [e] at h; exact absurd h (Nat.not_lt_zero _)); have c1 := hE.cell (hc k h); have s1 := hsum k (by omega); have s2 := hsum (k + 1) (by omega); rw [sumI_take xs k h] at s2; have b1 : (k : Int) < (xs.length : Int) := by omega
      obtain ⟨z, hz⟩ : ∃ z, xs[k] = z := ⟨_, rfl⟩; have hz2 : ∃ _u : Unit, xs[k] = z := ⟨(), hz⟩; rw [hz] at c1 s2; clear hz; have hw : IntKind.i64.wrap ((xs.take k).sum + z) = (xs.take k).sum + z := IntWalk.i64_in _ (by omega); refine Wp.skip ?_; refine thenK_normal ?_; refine Wp.seq ?_; refine Wp.block ?_; refine Wp.loneRegion (.inl rfl) (by kernel_rfl) fun K' gd hK hg => ?_; clear hg; go_simp; refine hK _ _ ?_; clear hK K' gd; refine Ends.keep [0, 3, 4] fun r7 hkeep => ?_; obtain ⟨e0_7, e3_7, e4_7, -⟩ := hkeep; simp [go_sem, e0_6, e3_6, e4_6, e8_6] at e0_7 e3_7 e4_7; clear e0_6 e3_6 e4_6 e8_6; refine Ends.mk ?_; refine blockK_normal ?_; refine thenK_normal ?_; refine Wp.loneRegion (.inl rfl) (by kernel_rfl) fun K' gd hK hg => ?_; clear hg; go_simp; refine hK _ _ ?_; clear hK K' gd; refine Ends.keep [0, 3, 4] fun r8 hkeep => ?_; obtain ⟨e0_8, e3_8, e4_8, -⟩ := hkeep; simp [go_sem, e0_7, e3_7, e4_7] at e0_8 e3_8 e4_8; clear e0_7 e3_7 e4_7; refine Ends.mk ?_; refine thenK_normal ⟨by omega, ⟨by rw [e0_8, e0_4], trivial⟩, rfl, ?_⟩; refine ⟨by rw [e4_8, IntWalk.i64_in _ (by omega)]; rfl, ?_, (by repeat (first | assumption | exact Ext.refl _ | refine Ext.drew ?_ | refine Ext.alloc ?_ _ | refine Ext.trans ?_ (by assumption)))⟩; obtain ⟨-, hz⟩ := hz2; rw [e3_8, sumI_take xs k h, hz]
    · refine Wp.condF (by go_simp) ?_; refine Wp.exit ?_; refine thenK_exit ?_; refine thenK_exit ?_; refine blockK_here ?_; refine thenK_normal ?_; refine Wp.seqRegion (.inl rfl) (by kernel_rfl) fun K' gd hK hg => ?_; clear hg; go_simp; refine hK _ _ ?_; clear hK K' gd; refine Wp.keep [2] fun r9 hkeep => ?_; obtain ⟨e2_9, -⟩ := hkeep; simp [go_sem, e0_6, e3_6, e4_6, e8_6] at e2_9; clear e0_6 e3_6 e4_6 e8_6; refine Wp.ret ?_; refine endK_tmp Try.results40 (by decide) ?_; rw [e2_9]; obtain rfl : k = xs.length := by omega
      exact ⟨by rw [List.take_length], hE⟩
def litB (o : Ord) (k : Nat) : Bool := (List.range k).all fun i => decide (o.C i ≤ (o.n : Int))
theorem litB_succ (o : Ord) (k : Nat) : litB o (k + 1) = (litB o k && decide (o.C k ≤ (o.n : Int))) := by unfold litB; rw [List.range_succ, List.all_append]; simp
theorem litB_all {o : Ord} (h : litB o o.m = true) : ∀ j, j < o.m → o.C j ≤ (o.n : Int) := fun j hj => by
  have := List.all_eq_true.1 h j (List.mem_range.2 hj); exact of_decide_eq_true this
def ysF (us : List Int) (n : Nat) (j : Nat) : Int := if j < us.length then 1 + ((us[j]?.getD 0).toNat % n : Nat) else 1
def ysL (us : List Int) (n k : Nat) : List Int := (List.range k).map (ysF us n)
theorem ysL_succ (us : List Int) (n k : Nat) : ysL us n (k + 1) = ysL us n k ++ [ysF us n k] := by unfold ysL; rw [List.range_succ, List.map_append]; rfl
theorem ysL_len (us : List Int) (n k : Nat) : (ysL us n k).length = k := by simp [ysL]
theorem ysF_ok {us : List Int} {n j : Nat} (hn : 0 < n) : 1 ≤ ysF us n j ∧ ysF us n j ≤ n := by
  unfold ysF; split
  · have := Nat.mod_lt (us[j]?.getD 0).toNat hn; omega
  · omega
theorem ysL_mem {us : List Int} {n k : Nat} (hn : 0 < n) : ysL us n k ∈ triedL n k := tried_mem (ysL_len _ _ _) fun x hx => by
  obtain ⟨j, -, rfl⟩ := List.mem_map.1 hx; exact ysF_ok hn
structure FewK (o : Ord) (us : List Int) (d : Int) : Prop where
  lit : litB o o.m = true → fewR o (endS o) ≠ [] ∧ (fewR o (endS o)).sum ≤ o.cop.sum
  own : ∀ e, (fewR o e).length ≤ 4 ∧ ∀ x ∈ fewR o e, 0 ≤ x ∧ x ≤ 1000
  ample : fewR o d ≠ [] ↔ ampleV o ≤ d
  good : fewR o d ≠ [] → OrdGood (o.cops (fewR o d)) ∧ endS (o.cops (fewR o d)) ≤ d
  best : fewR o d ≠ [] → endS (o.cops (ysL us o.n o.m)) ≤ d → (fewR o d).sum ≤ (ysL us o.n o.m).sum
  ys : OrdGood (o.cops (ysL us o.n o.m)) ∧ ∀ x ∈ ysL us o.n o.m, 0 ≤ x ∧ x ≤ 1000
theorem fewK {o : Ord} (hg : OrdGood o) (hm : o.m ≤ 4) (hn : 0 < o.n) (hn2 : o.n ≤ 5) (us : List Int) (d : Int) : FewK o us d := by
  have eG : fewG o = o.n := by unfold fewG; omega
  have eR : ∀ e, fewR o e = fewL o e (triedL o.n o.m) := fun e => by unfold fewR; rw [eG]
  have hm1 := hg.ok.hm1; have hne : ∀ l ∈ triedL o.n o.m, l ≠ [] := fun l hl e => by have := tried_len hl; rw [e] at this; simp at this; omega
  have hy := ysL_mem (us := us) (n := o.n) (k := o.m) hn; refine ⟨fun h => ?_, fun e => ?_, ?_, fun h => ?_, fun h he => ?_, good_tried hg (by omega) hy, fun x hx => ?_⟩
  · rw [eR]
    have hc : o.cop ∈ triedL o.n o.m := tried_mem rfl fun x hx => by
      obtain ⟨j, hj, rfl⟩ := List.getElem_of_mem hx; have h1 := litB_all h j hj; have h2 := hg.cop _ (List.getElem_mem hj); unfold Ord.C at h1; rw [List.getElem?_eq_getElem hj] at h1; exact ⟨h2.1, h1⟩
    exact (fewL_spec hne).2 _ hc (show endS o ≤ endS o from Int.le_refl _)
  · rw [eR]
    rcases fewL_in (o := o) (d := e) (L := triedL o.n o.m) with h | h
    · rw [h]; simp
    · refine ⟨by rw [tried_len h]; exact hm, fun x hx => ?_⟩; have := tried_in h x hx; omega
  · rw [eR]; exact few_ample hg hn d
  · rw [eR] at h ⊢
    rcases fewL_in (o := o) (d := d) (L := triedL o.n o.m) with he | he
    · exact absurd he h
    · exact ⟨good_tried hg (by omega) he, (fewL_spec hne).1 h⟩
  · rw [eR] at h ⊢; exact ((fewL_spec hne).2 _ hy he).2
  · have := tried_in hy x hx; omega
end Go.Proofs.Ytnfagcccgmakdaa
namespace Go.Proofs.Ytnfagcccgmakdaa
open Go.RowKit Go.Wk Go.Proofs
attribute [local irreducible] Go.Wk.Wops Go.Wk.Wp Go.Wk.Mtree Go.Wk.Mops
set_option maxHeartbeats 4000000
theorem OwnI.pushB {w : World} {base n k : Nat} {v x : Value} {xs : List Value} (h : w.ownsRow base 3 1 v k xs) (h0 : w.cell? ⟨n, 0, none⟩ = some x) (ty : TypeId) (h3 : x.oneCell' = true) (hl : k ≤ 1000000) (hb : base ≤ w.heap.size) :
    ∃ v' w', (Builtin.append_ #[22, 22] ty #[v, .slice (some ⟨n, 0, none⟩) 1 1]).run Try.prog w = .ok v' w' ∧ w'.ownsRow base 3 1 v' (k + 1) (xs ++ [x]) ∧ w.grownBy w' v.ownBlock := by
  obtain ⟨v', w', hrun, hown, hgr, -⟩ := app_run ints_T h ⟨n, 0, none⟩ 1 1 [x] ty rfl (fun j u hu => by
    match j, hu with
    | 0, hu => simp at hu; subst hu; rw [Addr.add_lit]; exact h0) (by simpa using h3) (by omega) hb
  exact ⟨v', w', hrun, hown, hgr⟩
theorem zI_own {w : World} {S : Nat} {v : Value} {xs : List Int} {k : Nat} (h : w.ownsRow S 3 1 v k (xs.map (Value.int .i64))) (hk : xs.length = k) : OwnI w S v xs := by
  unfold OwnI; rw [hk]; exact h
theorem tmod_nat {u0 : Int} {n : Nat} (h : 0 ≤ u0 ∧ u0 ≤ 255) (hn : 0 < n) : Int.tmod u0 (n : Int) = ((u0.toNat % n : Nat) : Int) := by
  obtain ⟨x, rfl⟩ : ∃ x : Nat, u0 = (x : Int) := ⟨u0.toNat, by omega⟩; rw [Int.toNat_natCast, ← Int.ofNat_tmod]
theorem Ample_g (v : Value) (o : Ord) (w : World) (hV : OrderV w w.heap.size v o) (hg : OrdGood o) :
    CallsV Try.prog 41 #[v] w fun v w' => v = .tuple #[.int .i64 (ampleV o), .int .i64 0] ∧ Ext w w' :=
  (Ample_c v o w hV hg.fits).mono fun _ _ ⟨h1, h3⟩ => by
    have hc := checkS_zero.2 hg; rw [hc, if_pos rfl] at h1; exact ⟨h1, h3⟩
theorem fewestLaw_c (v u : Value) (o : Ord) (d : Int) (us : List Int) (w : World) (hV : OrderV w w.heap.size v o) (hf : Fits o) (hd : 0 ≤ d ∧ d ≤ 65535) (hU : UV w w.heap.size u us) (hul : us.length ≤ farI) (hub : ∀ x ∈ us, 0 ≤ x ∧ x ≤ 255) :
    CallsV Try.prog 11 #[v, .int .u16 d, u] w fun v w' => v = .bool true ∧ Ext w w' := by
  obtain ⟨cA, cc, rA, rc, rfl⟩ := hV.slices; obtain ⟨uA, uc, rfl⟩ := hU.slice; have hm' : o.cop.length = o.m := rfl; have hn' : o.runs.length = o.n := rfl; obtain ⟨nu, hnu⟩ : ∃ nu, us.length = nu := ⟨_, rfl⟩; have hnu2 : nu ≤ farI := by rw [← hnu]; exact hul
  rw [hm', hn'] at hV; rw [hnu] at hU; rw [hm', hn', hnu]; clear hul; have hwd : IntKind.i64.wrap d = d := IntWalk.i64_in _ (by omega); refine Wp.fn Try.func11 rfl Try.ntmps11 (by simp) ?_; have xw := Ext.refl w; refine Wp.keep [0, 1, 2] fun r1 hkeep => ?_; obtain ⟨e0_1, e1_1, e2_1, -⟩ := hkeep; simp [go_sem] at e0_1 e1_1 e2_1
  by_cases h1 : (4 : Int) < (o.m : Int)
  · skip; refine Wp.seqRegion (.inl rfl) (by kernel_rfl) fun K' gd hK hg => ?_; clear hg; refine Wops.cut 1 fun K1 hK1 => ?_; simp only [List.take_succ_cons, List.take_zero]; go_simp; refine hK1 _ _ ?_; clear hK1 K1; simp only [List.drop_succ_cons, List.drop_zero]; refine Wops.absA fun V3_1 n3 hV3_1 => ?_; obtain ⟨q3, hV3_1, s3, kV3_1, f3, r3⟩ := hV3_1; try simp only [q3] at kV3_1 f3 r3 ⊢
    replace xw := Ext.trans xw hV3_1; have c3_0 := kV3_1 0 _ rfl; have c3_1 := kV3_1 1 _ rfl; clear kV3_1 hV3_1; clear r3; go_simp; refine hK _ _ ?_; clear hK K' gd; refine Wp.keep [1, 2, 3] fun r2 hkeep => ?_; obtain ⟨e1_2, e2_2, e3_2, -⟩ := hkeep; simp [go_sem, e0_1, e1_1, e2_1] at e1_2 e2_2 e3_2; clear e0_1 e1_1 e2_1; refine Wp.seq ?_; refine Wp.seqRegion (.inl rfl) (by kernel_rfl) fun K' gd hK hg => ?_; have g4 : gd 4 = some 29 := hg 4; have g10 : gd 10 = some 35 := hg 10; have g16 : gd 16 = some 41 := hg 16; have g21 : gd 21 = some 46 := hg 21; clear hg; refine Wops.cut 24 fun K1 hK1 => ?_; simp only [List.take_succ_cons, List.take_zero]; go_simp; refine hK1 _ _ ?_; clear hK1 K1; simp only [List.drop_succ_cons, List.drop_zero]; go_simp; refine hK _ _ ?_; clear hK K' gd g4 g10 g16 g21; refine Wp.keep [1, 2, 3, 50] fun r3 hkeep => ?_; obtain ⟨e1_3, e2_3, e3_3, e50_3, -⟩ := hkeep; simp [go_sem, e1_2, e2_2, e3_2] at e1_3 e2_3 e3_3 e50_3; clear e1_2 e2_2 e3_2; refine Wp.condT (by go_simp) ?_; refine Wp.seqRegion (.inl rfl) (by kernel_rfl) fun K' gd hK hg => ?_; clear hg; refine Wops.cut 1 fun K1 hK1 => ?_; simp only [List.take_succ_cons, List.take_zero]; go_simp; refine Wcall (.inl rfl) (sanity_c _) ?_; rintro v w2 ⟨rfl, hE⟩; go_simp; refine hK1 _ _ ?_; clear hK1 K1; simp only [List.drop_succ_cons, List.drop_zero]; have z4 := Below.size hE; replace f3 := Ext.fz hE c3_0 f3; replace xw := Ext.trans xw hE; replace c3_0 := Ext.cell hE c3_0; replace c3_1 := Ext.cell hE c3_1; clear hE
    go_simp; refine hK _ _ ?_; clear hK K' gd; refine Wp.keep [6] fun r5 hkeep => ?_; obtain ⟨e6_5, -⟩ := hkeep; simp [go_sem, e1_3, e2_3, e3_3, e50_3] at e6_5; clear e1_3 e2_3 e3_3 e50_3; refine Wp.ret ?_; refine thenK_ret ?_; refine endK_tmp Try.results11 (by decide) ?_; rw [e6_5]; exact ⟨rfl, xw⟩
  · skip
    by_cases h2 : (5 : Int) < (o.n : Int)
    · skip; refine Wp.seqRegion (.inl rfl) (by kernel_rfl) fun K' gd hK hg => ?_; clear hg; refine Wops.cut 1 fun K1 hK1 => ?_; simp only [List.take_succ_cons, List.take_zero]; go_simp; refine hK1 _ _ ?_; clear hK1 K1; simp only [List.drop_succ_cons, List.drop_zero]; refine Wops.absA fun V3_2 n3 hV3_2 => ?_; obtain ⟨q3, hV3_2, s3, kV3_2, f3, r3⟩ := hV3_2; try simp only [q3] at kV3_2 f3 r3 ⊢
      replace xw := Ext.trans xw hV3_2; have c3_0 := kV3_2 0 _ rfl; have c3_1 := kV3_2 1 _ rfl; clear kV3_2 hV3_2; clear r3; go_simp; refine hK _ _ ?_; clear hK K' gd; refine Wp.keep [1, 2, 3] fun r6 hkeep => ?_; obtain ⟨e1_6, e2_6, e3_6, -⟩ := hkeep; simp [go_sem, e0_1, e1_1, e2_1] at e1_6 e2_6 e3_6; clear e0_1 e1_1 e2_1; refine Wp.seq ?_; refine Wp.seqRegion (.inl rfl) (by kernel_rfl) fun K' gd hK hg => ?_; have g4 : gd 4 = some 29 := hg 4; have g10 : gd 10 = some 35 := hg 10; have g16 : gd 16 = some 41 := hg 16; have g21 : gd 21 = some 46 := hg 21; clear hg; refine Wops.cut 24 fun K1 hK1 => ?_; simp only [List.take_succ_cons, List.take_zero]; go_simp; refine hK1 _ _ ?_; clear hK1 K1; simp only [List.drop_succ_cons, List.drop_zero]; go_simp; refine hK _ _ ?_; clear hK K' gd g4 g10 g16 g21; refine Wp.keep [1, 2, 3, 50] fun r7 hkeep => ?_; obtain ⟨e1_7, e2_7, e3_7, e50_7, -⟩ := hkeep; simp [go_sem, e1_6, e2_6, e3_6] at e1_7 e2_7 e3_7 e50_7; clear e1_6 e2_6 e3_6; refine Wp.condT (by go_simp) ?_; refine Wp.seqRegion (.inl rfl) (by kernel_rfl) fun K' gd hK hg => ?_; clear hg; refine Wops.cut 1 fun K1 hK1 => ?_; simp only [List.take_succ_cons, List.take_zero]; go_simp; refine Wcall (.inl rfl) (sanity_c _) ?_; rintro v w2 ⟨rfl, hE⟩; go_simp; refine hK1 _ _ ?_; clear hK1 K1; simp only [List.drop_succ_cons, List.drop_zero]; have z8 := Below.size hE; replace f3 := Ext.fz hE c3_0 f3; replace xw := Ext.trans xw hE; replace c3_0 := Ext.cell hE c3_0; replace c3_1 := Ext.cell hE c3_1; clear hE
      go_simp; refine hK _ _ ?_; clear hK K' gd; refine Wp.keep [6] fun r9 hkeep => ?_; obtain ⟨e6_9, -⟩ := hkeep; simp [go_sem, e1_7, e2_7, e3_7, e50_7] at e6_9; clear e1_7 e2_7 e3_7 e50_7; refine Wp.ret ?_; refine thenK_ret ?_; refine endK_tmp Try.results11 (by decide) ?_; rw [e6_9]; exact ⟨rfl, xw⟩
    · skip
      by_cases h3 : o.n = 0
      · skip; refine Wp.seqRegion (.inl rfl) (by kernel_rfl) fun K' gd hK hg => ?_; clear hg; refine Wops.cut 1 fun K1 hK1 => ?_; simp only [List.take_succ_cons, List.take_zero]; go_simp; refine hK1 _ _ ?_; clear hK1 K1; simp only [List.drop_succ_cons, List.drop_zero]; refine Wops.absA fun V3_3 n3 hV3_3 => ?_; obtain ⟨q3, hV3_3, s3, kV3_3, f3, r3⟩ := hV3_3; try simp only [q3] at kV3_3 f3 r3 ⊢
        replace xw := Ext.trans xw hV3_3; have c3_0 := kV3_3 0 _ rfl; have c3_1 := kV3_3 1 _ rfl; clear kV3_3 hV3_3; clear r3; go_simp; refine hK _ _ ?_; clear hK K' gd; refine Wp.keep [1, 2, 3] fun r10 hkeep => ?_; obtain ⟨e1_10, e2_10, e3_10, -⟩ := hkeep; simp [go_sem, e0_1, e1_1, e2_1] at e1_10 e2_10 e3_10; clear e0_1 e1_1 e2_1; refine Wp.seq ?_; refine Wp.seqRegion (.inl rfl) (by kernel_rfl) fun K' gd hK hg => ?_; have g4 : gd 4 = some 29 := hg 4; have g10 : gd 10 = some 35 := hg 10; have g16 : gd 16 = some 41 := hg 16; have g21 : gd 21 = some 46 := hg 21; clear hg; refine Wops.cut 24 fun K1 hK1 => ?_; simp only [List.take_succ_cons, List.take_zero]; go_simp; refine hK1 _ _ ?_; clear hK1 K1; simp only [List.drop_succ_cons, List.drop_zero]; go_simp; refine hK _ _ ?_; clear hK K' gd g4 g10 g16 g21; refine Wp.keep [1, 2, 3, 50] fun r11 hkeep => ?_; obtain ⟨e1_11, e2_11, e3_11, e50_11, -⟩ := hkeep; simp [go_sem, e1_10, e2_10, e3_10] at e1_11 e2_11 e3_11 e50_11; clear e1_10 e2_10 e3_10; refine Wp.condT (by go_simp) ?_; refine Wp.seqRegion (.inl rfl) (by kernel_rfl) fun K' gd hK hg => ?_; clear hg; refine Wops.cut 1 fun K1 hK1 => ?_; simp only [List.take_succ_cons, List.take_zero]; go_simp; refine Wcall (.inl rfl) (sanity_c _) ?_; rintro v w2 ⟨rfl, hE⟩; go_simp; refine hK1 _ _ ?_; clear hK1 K1; simp only [List.drop_succ_cons, List.drop_zero]; have z12 := Below.size hE; replace f3 := Ext.fz hE c3_0 f3; replace xw := Ext.trans xw hE; replace c3_0 := Ext.cell hE c3_0; replace c3_1 := Ext.cell hE c3_1
        clear hE; go_simp; refine hK _ _ ?_; clear hK K' gd; refine Wp.keep [6] fun r13 hkeep => ?_; obtain ⟨e6_13, -⟩ := hkeep; simp [go_sem, e1_11, e2_11, e3_11, e50_11] at e6_13; clear e1_11 e2_11 e3_11 e50_11; refine Wp.ret ?_; refine thenK_ret ?_; refine endK_tmp Try.results11 (by decide) ?_; rw [e6_13]; exact ⟨rfl, xw⟩
      · skip; have h3a : ((o.n : Int) == 0) = false := by simp; omega
        by_cases h4 : (20 : Int) < (nu : Int)
        · skip; refine Wp.seqRegion (.inl rfl) (by kernel_rfl) fun K' gd hK hg => ?_; clear hg; refine Wops.cut 1 fun K1 hK1 => ?_; simp only [List.take_succ_cons, List.take_zero]; go_simp; refine hK1 _ _ ?_; clear hK1 K1; simp only [List.drop_succ_cons, List.drop_zero]; refine Wops.absA fun V3_4 n3 hV3_4 => ?_; obtain ⟨q3, hV3_4, s3, kV3_4, f3, r3⟩ := hV3_4; try simp only [q3] at kV3_4 f3 r3 ⊢
          replace xw := Ext.trans xw hV3_4; have c3_0 := kV3_4 0 _ rfl; have c3_1 := kV3_4 1 _ rfl; clear kV3_4 hV3_4; clear r3; go_simp; refine hK _ _ ?_; clear hK K' gd; refine Wp.keep [1, 2, 3] fun r14 hkeep => ?_; obtain ⟨e1_14, e2_14, e3_14, -⟩ := hkeep; simp [go_sem, e0_1, e1_1, e2_1] at e1_14 e2_14 e3_14; clear e0_1 e1_1 e2_1; refine Wp.seq ?_; refine Wp.seqRegion (.inl rfl) (by kernel_rfl) fun K' gd hK hg => ?_; have g4 : gd 4 = some 29 := hg 4; have g10 : gd 10 = some 35 := hg 10; have g16 : gd 16 = some 41 := hg 16; have g21 : gd 21 = some 46 := hg 21; clear hg; refine Wops.cut 24 fun K1 hK1 => ?_; simp only [List.take_succ_cons, List.take_zero]; go_simp; refine hK1 _ _ ?_; clear hK1 K1; simp only [List.drop_succ_cons, List.drop_zero]; go_simp; refine hK _ _ ?_; clear hK K' gd g4 g10 g16 g21; refine Wp.keep [1, 2, 3, 50] fun r15 hkeep => ?_; obtain ⟨e1_15, e2_15, e3_15, e50_15, -⟩ := hkeep; simp [go_sem, e1_14, e2_14, e3_14] at e1_15 e2_15 e3_15 e50_15; clear e1_14 e2_14 e3_14; refine Wp.condT (by go_simp) ?_; refine Wp.seqRegion (.inl rfl) (by kernel_rfl) fun K' gd hK hg => ?_; clear hg; refine Wops.cut 1 fun K1 hK1 => ?_; simp only [List.take_succ_cons, List.take_zero]; go_simp; refine Wcall (.inl rfl) (sanity_c _) ?_; rintro v w2 ⟨rfl, hE⟩; go_simp; refine hK1 _ _ ?_; clear hK1 K1; simp only [List.drop_succ_cons, List.drop_zero]; have z16 := Below.size hE; replace f3 := Ext.fz hE c3_0 f3; replace xw := Ext.trans xw hE; replace c3_0 := Ext.cell hE c3_0; replace c3_1 := Ext.cell hE c3_1
          clear hE; go_simp; refine hK _ _ ?_; clear hK K' gd; refine Wp.keep [6] fun r17 hkeep => ?_; obtain ⟨e6_17, -⟩ := hkeep; simp [go_sem, e1_15, e2_15, e3_15, e50_15] at e6_17; clear e1_15 e2_15 e3_15 e50_15; refine Wp.ret ?_; refine thenK_ret ?_; refine endK_tmp Try.results11 (by decide) ?_; rw [e6_17]; exact ⟨rfl, xw⟩
        · skip
          by_cases hc : checkS o = 0
          · skip; refine Wp.seqRegion (.inl rfl) (by kernel_rfl) fun K' gd hK hg => ?_; clear hg; refine Wops.cut 1 fun K1 hK1 => ?_; simp only [List.take_succ_cons, List.take_zero]; go_simp; refine hK1 _ _ ?_; clear hK1 K1; simp only [List.drop_succ_cons, List.drop_zero]; refine Wops.absA fun V3_5 n3 hV3_5 => ?_; obtain ⟨q3, hV3_5, s3, kV3_5, f3, r3⟩ := hV3_5; try simp only [q3] at kV3_5 f3 r3 ⊢
            replace xw := Ext.trans xw hV3_5; have c3_0 := kV3_5 0 _ rfl; have c3_1 := kV3_5 1 _ rfl; clear kV3_5 hV3_5; clear r3; go_simp; refine hK _ _ ?_; clear hK K' gd; refine Wp.keep [1, 2, 3] fun r18 hkeep => ?_; obtain ⟨e1_18, e2_18, e3_18, -⟩ := hkeep; simp [go_sem, e0_1, e1_1, e2_1] at e1_18 e2_18 e3_18; clear e0_1 e1_1 e2_1; refine Wp.seq ?_; refine Wp.seqRegion (.inl rfl) (by kernel_rfl) fun K' gd hK hg => ?_; have g4 : gd 4 = some 29 := hg 4; have g10 : gd 10 = some 35 := hg 10; have g16 : gd 16 = some 41 := hg 16; have g21 : gd 21 = some 46 := hg 21; clear hg; refine Wops.cut 24 fun K1 hK1 => ?_; simp only [List.take_succ_cons, List.take_zero]; go_simp; refine Wcall (.inl rfl) (check_c _ o _ (hV.ext xw) hf) ?_; rintro v w2 ⟨rfl, hE⟩; go_simp; refine hK1 _ _ ?_; clear hK1 K1; simp only [List.drop_succ_cons, List.drop_zero]; have z19 := Below.size hE; replace f3 := Ext.fz hE c3_0 f3; replace xw := Ext.trans xw hE; replace c3_0 := Ext.cell hE c3_0; replace c3_1 := Ext.cell hE c3_1; clear hE; go_simp; refine hK _ _ ?_; clear hK K' gd g4 g10 g16 g21; refine Wp.keep [1, 2, 3, 50] fun r20 hkeep => ?_; obtain ⟨e1_20, e2_20, e3_20, e50_20, -⟩ := hkeep; simp [go_sem, e1_18, e2_18, e3_18] at e1_20 e2_20 e3_20 e50_20; clear e1_18 e2_18 e3_18; refine Wp.condF (by go_simp) ?_; have hg := checkS_zero.1 hc; have ho := hg.ok; have hm1 := ho.hm1; have hK := fewK hg (by omega) (by omega) (by omega) us d; have hend := endS_ok ho; obtain ⟨p, hcv, hrv, hO⟩ := hV.ordF2 hg; simp only [OA.cv, OA.rv] at hcv hrv
            injection hcv with p1 p2 p3
            injection hrv with p4 p5 p6
            subst p1 p3 p4 p6; have hRV : RunsV w w.heap.size (.slice p.rA o.n p.rc) o.runs := (by obtain ⟨_, _, e, -, h⟩ := id hV; injection e with e; injection e with e; injection e with e1 e2; injection e2 with e2; rw [e2]; exact h); have hCV : IntsV w w.heap.size (.slice (some ⟨p.cb, p.co, none⟩) o.m p.cc) o.cop := (by obtain ⟨_, _, e, h, -⟩ := id hV; injection e with e; injection e with e; injection e with e1 e2; rw [e1]; exact h); refine Wp.skip ?_; refine thenK_normal ?_; refine Wp.seqRegion (.inl rfl) (by kernel_rfl) fun K' gd hK hg => ?_; clear hg; refine Wops.cut 2 fun K1 hK1 => ?_; simp only [List.take_succ_cons, List.take_zero]; go_simp; refine Wcall (.inl rfl) (End_g _ o _ (hV.ext xw) hg) ?_; rintro v w3 ⟨rfl, hE⟩; go_simp; refine hK1 _ _ ?_; clear hK1 K1; simp only [List.drop_succ_cons, List.drop_zero]; have z21 := Below.size hE; replace f3 := Ext.fz hE c3_0 f3; replace xw := Ext.trans xw hE; replace c3_0 := Ext.cell hE c3_0; replace c3_1 := Ext.cell hE c3_1; clear hE; go_simp; refine hK _ _ ?_; clear hK K' gd; refine Wp.keep [1, 2, 3, 7, 8] fun r22 hkeep => ?_; obtain ⟨e1_22, e2_22, e3_22, e7_22, e8_22, -⟩ := hkeep; simp [go_sem, e1_20, e2_20, e3_20, e50_20] at e1_22 e2_22 e3_22 e7_22 e8_22; clear e1_20 e2_20 e3_20 e50_20; refine Wp.seqRegion (.inl rfl) (by kernel_rfl) fun K' gd hK hg => ?_; clear hg; refine Wops.cut 3 fun K1 hK1 => ?_; simp only [List.take_succ_cons, List.take_zero]; go_simp; refine Wcall (.inl rfl) (Few_g _ o (endS o) _ (hV.ext xw) hg (by omega) (by omega) (by omega)) ?_
            rintro v w4 ⟨A9, c9, rfl, hOwn, hE⟩; go_simp; refine hK1 _ _ ?_; clear hK1 K1; simp only [List.drop_succ_cons, List.drop_zero]; have z23 := Below.size hE; replace f3 := Ext.fz hE c3_0 f3; replace xw := Ext.trans xw hE; replace c3_0 := Ext.cell hE c3_0; replace c3_1 := Ext.cell hE c3_1; clear hE; go_simp; refine hK _ _ ?_; clear hK K' gd; refine Wp.keep [1, 2, 3, 8, 9, 10] fun r24 hkeep => ?_; obtain ⟨e1_24, e2_24, e3_24, e8_24, e9_24, e10_24, -⟩ := hkeep; simp [go_sem, e1_22, e2_22, e3_22, e7_22, e8_22] at e1_24 e2_24 e3_24 e8_24 e9_24 e10_24; clear e1_22 e2_22 e3_22 e7_22 e8_22; refine Wp.seqRegion (.inl rfl) (by kernel_rfl) fun K' gd hK hg => ?_; clear hg; go_simp; refine hK _ _ ?_; clear hK K' gd; refine Wp.keep [1, 2, 3, 8, 9, 10, 11] fun r25 hkeep => ?_; obtain ⟨e1_25, e2_25, e3_25, e8_25, e9_25, e10_25, e11_25, -⟩ := hkeep; simp [go_sem, e1_24, e2_24, e3_24, e8_24, e9_24, e10_24] at e1_25 e2_25 e3_25 e8_25 e9_25 e10_25 e11_25; clear e1_24 e2_24 e3_24 e8_24 e9_24 e10_24; refine Wp.seq ?_; refine Wp.seqRegion (.inl rfl) (by kernel_rfl) fun K' gd hK hg => ?_; clear hg; go_simp; refine hK _ _ ?_; clear hK K' gd; refine Wp.keep [1, 2, 3, 8, 9, 10, 11, 12] fun r26 hkeep => ?_; obtain ⟨e1_26, e2_26, e3_26, e8_26, e9_26, e10_26, e11_26, e12_26, -⟩ := hkeep; simp [go_sem, e1_25, e2_25, e3_25, e8_25, e9_25, e10_25, e11_25] at e1_26 e2_26 e3_26 e8_26 e9_26 e10_26 e11_26 e12_26; clear e1_25 e2_25 e3_25 e8_25 e9_25 e10_25 e11_25; refine Wp.block ?_; refine Wp.loop (fun j ρ ds wj => AllEq [1, 2, 3, 8, 9, 10] ρ r26 ∧ ds = [] ∧ (Ext w4 wj) ∧ (ρ 12 = .int .i64 (j : Int) ∧ ρ 11 = .bool (litB o j))) (o.m) ?_ ?_
            · refine ⟨AllEq.refl _ _, rfl, Ext.refl _, ?_⟩; exact ⟨by rw [e12_26]; rfl, by rw [e11_26]; rfl⟩
            · rintro j r27 _ wj hj ⟨hA, rfl, xl6, ⟨e12, e11⟩⟩; obtain ⟨e1_27, e2_27, e3_27, e8_27, e9_27, e10_27, -⟩ := hA; rw [e1_26] at e1_27; rw [e2_26] at e2_27; rw [e3_26] at e3_27; rw [e8_26] at e8_27; rw [e9_26] at e9_27; rw [e10_26] at e10_27; have zxl6 := Below.size xl6; replace f3 := Ext.fz xl6 c3_0 f3; replace hOwn := hOwn.ext xl6; replace xw := Ext.trans xw xl6; replace c3_0 := Ext.cell xl6 c3_0; replace c3_1 := Ext.cell xl6 c3_1; refine Wp.seq ?_; refine Wp.seqRegion (.inl rfl) (by kernel_rfl) fun K' gd hK hg => ?_; clear hg; go_simp; refine hK _ _ ?_; clear hK K' gd; refine Wp.keep [1, 2, 3, 8, 9, 10, 11, 12, 67] fun r28 hkeep => ?_; obtain ⟨e1_28, e2_28, e3_28, e8_28, e9_28, e10_28, e11_28, e12_28, e67_28, -⟩ := hkeep; simp [go_sem, e1_27, e2_27, e3_27, e8_27, e9_27, e10_27, e11, e12] at e1_28 e2_28 e3_28 e8_28 e9_28 e10_28 e11_28 e12_28 e67_28; clear e1_27 e2_27 e3_27 e8_27 e9_27 e10_27 e11 e12
              by_cases h : j < o.m
              · refine Wp.condT (by go_simp) ?_; have y5 := xw.cell (hO.hC j h); have b4 : (j : Int) < (o.m : Int) := by omega
                have hls := litB_succ o j; obtain ⟨lb, hlb⟩ : ∃ lb, litB o j = lb := ⟨_, rfl⟩; rw [hlb] at hls e11_28; have hls2 : ∃ _u : Unit, litB o (j + 1) = (lb && decide (o.C j ≤ (o.n : Int))) := ⟨(), hls⟩; clear hls hlb
                by_cases hl0 : lb = true
                · skip; subst hl0; refine Wp.skip ?_; refine thenK_normal ?_; refine Wp.seq ?_; refine Wp.block ?_; refine Wp.loneDraw (.inl rfl) mixed [([0, 1], none), ([2, 3, 4, 5, 6], none), ([7, 8, 9, 10, 11], none), ([12], none)] (by kernel_rfl) fun K' gd hK hg => ?_; have g1 : gd 1 = some 71 := hg 1; clear hg; simp only [pick, nth, List.map_cons, List.map_nil, Option.map_none, Option.map_some]; refine Mops.absD fun D7 hD7 zD7 => ?_; replace f3 := Ext.fz hD7 c3_0 f3; replace hOwn := hOwn.ext hD7; replace xw := Ext.trans xw hD7; replace xl6 := Ext.trans xl6 hD7; replace c3_0 := Ext.cell hD7 c3_0; replace c3_1 := Ext.cell hD7 c3_1; replace y5 := Ext.cell hD7 y5; clear hD7; apply Mops.none
                  · intro w' hE'; have hC' := hE'.cellsS; go_simp; with_reducible rfl
                  apply Mops.none
                  · intro w' hE'; have hC' := hE'.cellsS; go_simp; with_reducible rfl
                  apply Mops.none
                  · intro w' hE'; have hC' := hE'.cellsS; go_simp; with_reducible rfl
                  apply Mops.none
                  · intro w' hE'; have hC' := hE'.cellsS; go_simp; with_reducible rfl
                  refine Mops.done ?_; refine hK _ _ ?_; clear hK K' gd g1; refine Ends.keep [1, 2, 3, 8, 9, 10, 11, 12] fun r29 hkeep => ?_; obtain ⟨e1_29, e2_29, e3_29, e8_29, e9_29, e10_29, e11_29, e12_29, -⟩ := hkeep; simp [go_sem, e1_28, e2_28, e3_28, e8_28, e9_28, e10_28, e11_28, e12_28, e67_28] at e1_29 e2_29 e3_29 e8_29 e9_29 e10_29 e11_29 e12_29; clear e1_28 e2_28 e3_28 e8_28 e9_28 e10_28 e11_28 e12_28 e67_28; refine Ends.mk ?_; refine blockK_normal ?_; refine thenK_normal ?_; refine Wp.loneRegion (.inl rfl) (by kernel_rfl) fun K' gd hK hg => ?_; clear hg; go_simp; refine hK _ _ ?_; clear hK K' gd; refine Ends.keep [1, 2, 3, 8, 9, 10, 11, 12] fun r30 hkeep => ?_; obtain ⟨e1_30, e2_30, e3_30, e8_30, e9_30, e10_30, e11_30, e12_30, -⟩ := hkeep; simp [go_sem, e1_29, e2_29, e3_29, e8_29, e9_29, e10_29, e11_29, e12_29] at e1_30 e2_30 e3_30 e8_30 e9_30 e10_30 e11_30 e12_30; clear e1_29 e2_29 e3_29 e8_29 e9_29 e10_29 e11_29 e12_29; refine Ends.mk ?_; refine thenK_normal ⟨by omega, ⟨by rw [e1_30, e1_26], by rw [e2_30, e2_26], by rw [e3_30, e3_26], by rw [e8_30, e8_26], by rw [e9_30, e9_26], by rw [e10_30, e10_26], trivial⟩, rfl, xl6, ?_⟩; refine ⟨by rw [e12_30, IntWalk.i64_in _ (by omega)]; rfl, ?_⟩; obtain ⟨-, e⟩ := hls2; rw [e11_30, e]; rfl
                · skip; obtain rfl : lb = false := by cases lb; rfl; exact absurd rfl hl0
                  refine Wp.skip ?_; refine thenK_normal ?_; refine Wp.seq ?_; refine Wp.block ?_; refine Wp.loneDraw (.inl rfl) mixed [([0, 1], none), ([2, 3, 4, 5, 6], none), ([7, 8, 9, 10, 11], none), ([12], none)] (by kernel_rfl) fun K' gd hK hg => ?_; have g1 : gd 1 = some 71 := hg 1; clear hg; simp only [pick, nth, List.map_cons, List.map_nil, Option.map_none, Option.map_some]; refine Mops.absD fun D8 hD8 zD8 => ?_; replace f3 := Ext.fz hD8 c3_0 f3; replace hOwn := hOwn.ext hD8; replace xw := Ext.trans xw hD8; replace xl6 := Ext.trans xl6 hD8; replace c3_0 := Ext.cell hD8 c3_0; replace c3_1 := Ext.cell hD8 c3_1; replace y5 := Ext.cell hD8 y5; clear hD8; apply Mops.none
                  · intro w' hE'; have hC' := hE'.cellsS; go_simp; with_reducible rfl
                  apply Mops.none
                  · intro w' hE'; have hC' := hE'.cellsS; go_simp; with_reducible rfl
                  apply Mops.none
                  · intro w' hE'; have hC' := hE'.cellsS; go_simp; with_reducible rfl
                  apply Mops.none
                  · intro w' hE'; have hC' := hE'.cellsS; go_simp; with_reducible rfl
                  refine Mops.done ?_; refine hK _ _ ?_; clear hK K' gd g1; refine Ends.keep [1, 2, 3, 8, 9, 10, 11, 12] fun r31 hkeep => ?_; obtain ⟨e1_31, e2_31, e3_31, e8_31, e9_31, e10_31, e11_31, e12_31, -⟩ := hkeep; simp [go_sem, e1_28, e2_28, e3_28, e8_28, e9_28, e10_28, e11_28, e12_28, e67_28] at e1_31 e2_31 e3_31 e8_31 e9_31 e10_31 e11_31 e12_31; clear e1_28 e2_28 e3_28 e8_28 e9_28 e10_28 e11_28 e12_28 e67_28; refine Ends.mk ?_; refine blockK_normal ?_; refine thenK_normal ?_; refine Wp.loneRegion (.inl rfl) (by kernel_rfl) fun K' gd hK hg => ?_; clear hg; go_simp; refine hK _ _ ?_; clear hK K' gd; refine Ends.keep [1, 2, 3, 8, 9, 10, 11, 12] fun r32 hkeep => ?_; obtain ⟨e1_32, e2_32, e3_32, e8_32, e9_32, e10_32, e11_32, e12_32, -⟩ := hkeep; simp [go_sem, e1_31, e2_31, e3_31, e8_31, e9_31, e10_31, e11_31, e12_31] at e1_32 e2_32 e3_32 e8_32 e9_32 e10_32 e11_32 e12_32; clear e1_31 e2_31 e3_31 e8_31 e9_31 e10_31 e11_31 e12_31; refine Ends.mk ?_; refine thenK_normal ⟨by omega, ⟨by rw [e1_32, e1_26], by rw [e2_32, e2_26], by rw [e3_32, e3_26], by rw [e8_32, e8_26], by rw [e9_32, e9_26], by rw [e10_32, e10_26], trivial⟩, rfl, xl6, ?_⟩; refine ⟨by rw [e12_32, IntWalk.i64_in _ (by omega)]; rfl, ?_⟩; obtain ⟨-, e⟩ := hls2; rw [e11_32, e]; rfl
              · refine Wp.condF (by go_simp) ?_; obtain rfl : j = o.m := by omega
                obtain ⟨own, how⟩ : ∃ own, fewR o (endS o) = own := ⟨_, rfl⟩; obtain ⟨lb, hlb⟩ : ∃ lb, litB o o.m = lb := ⟨_, rfl⟩; have hko := hK.own (endS o); have hkl := hK.lit; rw [how] at hko hkl hOwn e9_28 e10_28; rw [hlb] at hkl e11_28; clear how hlb; have hcb : ∀ x ∈ o.cop, 0 ≤ x ∧ x ≤ 1000 := fun x hx => by have := hg.cop x hx; omega
                refine Wp.exit ?_; refine thenK_exit ?_; refine thenK_exit ?_; refine blockK_here ?_; refine thenK_normal ?_; refine Wp.seq ?_; refine Wp.seqDrawT (.inl rfl) mixed (.rd [0, 1, 2] (.rd [3, 4, 5] (.rd [6, 7, 8, 9, 10] (.rd [11, 12] (.rd [13, 14, 15] (.rd [16, 18, 19] (.act 17 false (.act 20 false (.rd [21, 22, 23, 24] .done))))))))) (by kernel_rfl) (fun ρ W => AllEq [1, 2, 3] ρ r28 ∧ (Ext wj W ∧ ρ 106 = .bool false)) (fun K' gd hK hg => ?_) ?_
                · skip; have g2 : gd 2 = some 84 := hg 2; have g5 : gd 5 = some 87 := hg 5; have g10 : gd 10 = some 92 := hg 10; have g12 : gd 12 = some 94 := hg 12; have g15 : gd 15 = some 97 := hg 15; clear hg; simp only [pickT, nth, List.map_cons, List.map_nil]
                  by_cases hb : own = []
                  · skip; subst hb; obtain rfl : lb = false := by cases lb; rfl; exact absurd rfl (hkl rfl).1
                    rw [if_pos rfl] at e10_28; apply Mtree.reads
                    · intro w' hE'; have hC' := hE'.cellsS; go_simp; with_reducible rfl
                    apply Mtree.reads
                    · intro w' hE'; have hC' := hE'.cellsS; go_simp; with_reducible rfl
                    apply Mtree.reads
                    · intro w' hE'; have hC' := hE'.cellsS; go_simp; with_reducible rfl
                    apply Mtree.reads
                    · intro w' hE'; have hC' := hE'.cellsS; go_simp; with_reducible rfl
                    apply Mtree.reads
                    · intro w' hE'; have hC' := hE'.cellsS; go_simp; with_reducible rfl
                    apply Mtree.reads
                    · intro w' hE'; have hC' := hE'.cellsS; go_simp; with_reducible rfl
                    refine Mtree.step fun K1 hK1 => ?_; go_simp; refine hK1 _ _ (by first | assumption | exact Ext.refl _) ?_; clear hK1 K1; refine Mtree.step fun K1 hK1 => ?_; go_simp; refine hK1 _ _ (by first | assumption | exact Ext.refl _) ?_; clear hK1 K1; apply Mtree.reads
                    · intro w' hE'; have hC' := hE'.cellsS; go_simp; with_reducible rfl
                    refine Mtree.fin ?_; refine hK _ _ ⟨by simp [AllEq, go_sem], ?_⟩; refine ⟨by repeat (first | assumption | exact Ext.refl _ | refine Ext.drew ?_ | refine Ext.alloc ?_ _ | refine Ext.setC ?_ (by omega) _ | refine Ext.trans ?_ (by assumption)), ?_⟩; go_simp
                  · skip; rw [if_neg hb] at e10_28
                    by_cases hl0 : lb = true
                    · skip; subst hl0; have hsum := (hkl rfl).2; apply Mtree.reads
                      · intro w' hE'; have hC' := hE'.cellsS; go_simp; with_reducible rfl
                      apply Mtree.reads
                      · intro w' hE'; have hC' := hE'.cellsS; go_simp; with_reducible rfl
                      apply Mtree.reads
                      · intro w' hE'; have hC' := hE'.cellsS; go_simp; with_reducible rfl
                      apply Mtree.reads
                      · intro w' hE'; have hC' := hE'.cellsS; go_simp; with_reducible rfl
                      apply Mtree.reads
                      · intro w' hE'; have hC' := hE'.cellsS; go_simp; with_reducible rfl
                      apply Mtree.reads
                      · intro w' hE'; have hC' := hE'.cellsS; go_simp; with_reducible rfl
                      refine Mtree.step fun K1 hK1 => ?_; go_simp; refine Wcall (.inl rfl) (lawTotal_c _ own _ (hOwn.ext (Ext.refl _).drew).intsV hko.2 (by omega)) ?_; rintro v w5 ⟨rfl, hE5⟩; have c3_0 := hE5.cell ((Ext.refl _).drew.cell c3_0); go_simp; refine hK1 _ _ (by first | assumption | exact Ext.refl _) ?_; clear hK1 K1; refine Mtree.step fun K1 hK1 => ?_; go_simp; refine Wcall (.inl rfl) (lawTotal_c _ o.cop _ (hCV.ext (by repeat (first | assumption | exact Ext.refl _ | refine Ext.drew ?_ | refine Ext.alloc ?_ _ | refine Ext.trans ?_ (by assumption)))) hcb (by omega)) ?_; rintro v w6 ⟨rfl, hE6⟩; go_simp; refine hK1 _ _ (by first | assumption | exact Ext.refl _) ?_; clear hK1 K1; apply Mtree.reads
                      · intro w' hE'; have hC' := hE'.cellsS; go_simp; with_reducible rfl
                      refine Mtree.fin ?_; refine hK _ _ ⟨by simp [AllEq, go_sem], ?_⟩; refine ⟨by repeat (first | assumption | exact Ext.refl _ | refine Ext.drew ?_ | refine Ext.alloc ?_ _ | refine Ext.setC ?_ (by omega) _ | refine Ext.trans ?_ (by assumption)), ?_⟩; go_simp
                    · skip; obtain rfl : lb = false := by cases lb; rfl; exact absurd rfl hl0
                      apply Mtree.reads
                      · intro w' hE'; have hC' := hE'.cellsS; go_simp; with_reducible rfl
                      apply Mtree.reads
                      · intro w' hE'; have hC' := hE'.cellsS; go_simp; with_reducible rfl
                      apply Mtree.reads
                      · intro w' hE'; have hC' := hE'.cellsS; go_simp; with_reducible rfl
                      apply Mtree.reads
                      · intro w' hE'; have hC' := hE'.cellsS; go_simp; with_reducible rfl
                      apply Mtree.reads
                      · intro w' hE'; have hC' := hE'.cellsS; go_simp; with_reducible rfl
                      apply Mtree.reads
                      · intro w' hE'; have hC' := hE'.cellsS; go_simp; with_reducible rfl
                      refine Mtree.step fun K1 hK1 => ?_; go_simp; refine hK1 _ _ (by first | assumption | exact Ext.refl _) ?_; clear hK1 K1; refine Mtree.step fun K1 hK1 => ?_; go_simp; refine hK1 _ _ (by first | assumption | exact Ext.refl _) ?_; clear hK1 K1; apply Mtree.reads
                      · intro w' hE'; have hC' := hE'.cellsS; go_simp; with_reducible rfl
                      refine Mtree.fin ?_; refine hK _ _ ⟨by simp [AllEq, go_sem], ?_⟩; refine ⟨by repeat (first | assumption | exact Ext.refl _ | refine Ext.drew ?_ | refine Ext.alloc ?_ _ | refine Ext.setC ?_ (by omega) _ | refine Ext.trans ?_ (by assumption)), ?_⟩; go_simp
                · rintro r33 W ⟨hA, hT9, e106⟩; obtain ⟨e1_33, e2_33, e3_33, -⟩ := hA; rw [e1_28] at e1_33; rw [e2_28] at e2_33; rw [e3_28] at e3_33; clear e1_28 e2_28 e3_28 e8_28 e9_28 e10_28 e11_28 e12_28 e67_28; have zhT9 := Below.size hT9; replace f3 := Ext.fz hT9 c3_0 f3; replace hOwn := hOwn.ext hT9; replace xw := Ext.trans xw hT9; replace xl6 := Ext.trans xl6 hT9; replace c3_0 := Ext.cell hT9 c3_0; replace c3_1 := Ext.cell hT9 c3_1; refine Wp.condF (by go_simp) ?_; refine Wp.skip ?_; refine thenK_normal ?_; refine Wp.seqRegion (.inl rfl) (by kernel_rfl) fun K' gd hK hg => ?_; clear hg; refine Wops.cut 4 fun K1 hK1 => ?_; simp only [List.take_succ_cons, List.take_zero]; go_simp; refine Wcall (.inl rfl) (Few_g _ o d _ (hV.ext xw) hg (by omega) (by omega) (by omega)) ?_; rintro v w7 ⟨A13, c13, rfl, hL, hE⟩; go_simp; refine hK1 _ _ ?_; clear hK1 K1; simp only [List.drop_succ_cons, List.drop_zero]; have z34 := Below.size hE; replace f3 := Ext.fz hE c3_0 f3; replace xw := Ext.trans xw hE; replace xl6 := Ext.trans xl6 hE; replace c3_0 := Ext.cell hE c3_0; replace c3_1 := Ext.cell hE c3_1; clear hE; go_simp; refine hK _ _ ?_; clear hK K' gd; refine Wp.keep [1, 2, 3, 13, 14] fun r35 hkeep => ?_; obtain ⟨e1_35, e2_35, e3_35, e13_35, e14_35, -⟩ := hkeep; simp [go_sem, e1_33, e2_33, e3_33, e106] at e1_35 e2_35 e3_35 e13_35 e14_35; clear e1_33 e2_33 e3_33 e106; refine Wp.seqRegion (.inl rfl) (by kernel_rfl) fun K' gd hK hg => ?_; clear hg; refine Wops.cut 2 fun K1 hK1 => ?_; simp only [List.take_succ_cons, List.take_zero]
                  go_simp; refine Wcall (.inl rfl) (Ample_g _ o _ (hV.ext xw) hg) ?_; rintro v w8 ⟨rfl, hE⟩; go_simp; refine hK1 _ _ ?_; clear hK1 K1; simp only [List.drop_succ_cons, List.drop_zero]; have z36 := Below.size hE; replace f3 := Ext.fz hE c3_0 f3; replace hL := hL.ext hE; replace xw := Ext.trans xw hE; replace xl6 := Ext.trans xl6 hE; replace c3_0 := Ext.cell hE c3_0; replace c3_1 := Ext.cell hE c3_1; clear hE; go_simp; refine hK _ _ ?_; clear hK K' gd; refine Wp.keep [1, 2, 3, 13, 14, 15, 16] fun r37 hkeep => ?_; obtain ⟨e1_37, e2_37, e3_37, e13_37, e14_37, e15_37, e16_37, -⟩ := hkeep; simp [go_sem, e1_35, e2_35, e3_35, e13_35, e14_35] at e1_37 e2_37 e3_37 e13_37 e14_37 e15_37 e16_37; clear e1_35 e2_35 e3_35 e13_35 e14_35; obtain ⟨l, hl⟩ : ∃ l, fewR o d = l := ⟨_, rfl⟩; have hka := hK.ample; have hkg := hK.good; have hkb := hK.best; have hkl := hK.own d; have hky := hK.ys; clear hK; rw [hl] at hka hkg hkb hkl hL e13_37 e14_37; clear hl
                  by_cases hb : l = []
                  · skip; subst hb; have ham : ¬ ampleV o ≤ d := fun h => absurd rfl (hka.2 h); rw [if_pos rfl] at e14_37; simp only [List.length_nil] at e13_37; refine Wp.seq ?_; refine Wp.seqRegion (.inl rfl) (by kernel_rfl) fun K' gd hK hg => ?_; have g2 : gd 2 = some 121 := hg 2; have g5 : gd 5 = some 124 := hg 5; have g10 : gd 10 = some 129 := hg 10; clear hg; go_simp; refine hK _ _ ?_; clear hK K' gd g2 g5 g10; refine Wp.keep [1, 2, 3, 13, 14, 137] fun r38 hkeep => ?_; obtain ⟨e1_38, e2_38, e3_38, e13_38, e14_38, e137_38, -⟩ := hkeep; simp [go_sem, e1_37, e2_37, e3_37, e13_37, e14_37, e15_37, e16_37] at e1_38 e2_38 e3_38 e13_38 e14_38 e137_38; clear e1_37 e2_37 e3_37 e13_37 e14_37 e15_37 e16_37; refine Wp.condF (by go_simp) ?_; refine Wp.skip ?_; refine thenK_normal ?_; refine Wp.seq ?_; refine Wp.seqRegion (.inl rfl) (by kernel_rfl) fun K' gd hK hg => ?_; clear hg; go_simp; refine hK _ _ ?_; clear hK K' gd; refine Wp.keep [1, 2, 3, 13, 139] fun r39 hkeep => ?_; obtain ⟨e1_39, e2_39, e3_39, e13_39, e139_39, -⟩ := hkeep; simp [go_sem, e1_38, e2_38, e3_38, e13_38, e14_38, e137_38] at e1_39 e2_39 e3_39 e13_39 e139_39; clear e1_38 e2_38 e3_38 e13_38 e14_38 e137_38; refine Wp.condT (by go_simp) ?_; refine Wp.seqRegion (.inl rfl) (by kernel_rfl) fun K' gd hK hg => ?_; have g1 : gd 1 = some 141 := hg 1; clear hg; refine Wops.cut 1 fun K1 hK1 => ?_; simp only [List.take_succ_cons, List.take_zero]; go_simp; refine Wcall (.inl rfl) (sanity_c _) ?_; rintro v w9 ⟨rfl, hE⟩; go_simp; refine hK1 _ _ ?_
                    clear hK1 K1; simp only [List.drop_succ_cons, List.drop_zero]; have z40 := Below.size hE; replace f3 := Ext.fz hE c3_0 f3; replace hL := hL.ext hE; replace xw := Ext.trans xw hE; replace xl6 := Ext.trans xl6 hE; replace c3_0 := Ext.cell hE c3_0; replace c3_1 := Ext.cell hE c3_1; clear hE; go_simp; refine hK _ _ ?_; clear hK K' gd g1; refine Wp.keep [6] fun r41 hkeep => ?_; obtain ⟨e6_41, -⟩ := hkeep; simp [go_sem, e1_39, e2_39, e3_39, e13_39, e139_39] at e6_41; clear e1_39 e2_39 e3_39 e13_39 e139_39; refine Wp.ret ?_; refine thenK_ret ?_; refine endK_tmp Try.results11 (by decide) ?_; rw [e6_41]; exact ⟨rfl, xw⟩
                  · skip; have ham : ampleV o ≤ d := hka.1 hb; rw [if_neg hb] at e14_37; have hle := (hkg hb).2; refine Wp.seq ?_; refine Wp.seqRegion (.inl rfl) (by kernel_rfl) fun K' gd hK hg => ?_; have g2 : gd 2 = some 121 := hg 2; have g5 : gd 5 = some 124 := hg 5; have g10 : gd 10 = some 129 := hg 10; clear hg; go_simp; refine hK _ _ ?_; clear hK K' gd g2 g5 g10; refine Wp.keep [1, 2, 3, 13, 14, 137] fun r42 hkeep => ?_; obtain ⟨e1_42, e2_42, e3_42, e13_42, e14_42, e137_42, -⟩ := hkeep; simp [go_sem, e1_37, e2_37, e3_37, e13_37, e14_37, e15_37, e16_37] at e1_42 e2_42 e3_42 e13_42 e14_42 e137_42; clear e1_37 e2_37 e3_37 e13_37 e14_37 e15_37 e16_37; refine Wp.condF (by go_simp) ?_; refine Wp.skip ?_; refine thenK_normal ?_; refine Wp.seq ?_; refine Wp.seqRegion (.inl rfl) (by kernel_rfl) fun K' gd hK hg => ?_; clear hg; go_simp; refine hK _ _ ?_; clear hK K' gd; refine Wp.keep [1, 2, 3, 13, 139] fun r43 hkeep => ?_; obtain ⟨e1_43, e2_43, e3_43, e13_43, e139_43, -⟩ := hkeep; simp [go_sem, e1_42, e2_42, e3_42, e13_42, e14_42, e137_42] at e1_43 e2_43 e3_43 e13_43 e139_43; clear e1_42 e2_42 e3_42 e13_42 e14_42 e137_42; refine Wp.condF (by go_simp) ?_; refine Wp.skip ?_; refine thenK_normal ?_; refine Wp.seqRegion (.inl rfl) (by kernel_rfl) fun K' gd hK hg => ?_; clear hg; refine Wops.cut 3 fun K1 hK1 => ?_; simp only [List.take_succ_cons, List.take_zero]; go_simp; refine hK1 _ _ ?_; clear hK1 K1; simp only [List.drop_succ_cons, List.drop_zero]; refine Wops.absA fun V17_10 n17 hV17_10 => ?_
                    obtain ⟨q17, hV17_10, s17, kV17_10, f17, r17⟩ := hV17_10; try simp only [q17] at kV17_10 f17 r17 ⊢
                    replace f3 := Ext.fz hV17_10 c3_0 f3; replace hL := hL.ext hV17_10; replace xw := Ext.trans xw hV17_10; replace xl6 := Ext.trans xl6 hV17_10; replace c3_0 := Ext.cell hV17_10 c3_0; replace c3_1 := Ext.cell hV17_10 c3_1; have c17_0 := kV17_10 0 _ rfl; have c17_1 := kV17_10 1 _ rfl; clear kV17_10 hV17_10; clear r17; try simp only [Wops_nil, updO_some, updO_none]
                    refine hK _ _ ?_; clear hK K' gd; refine Wp.keep [1, 2, 3, 13, 17] fun r44 hkeep => ?_; obtain ⟨e1_44, e2_44, e3_44, e13_44, e17_44, -⟩ := hkeep; simp [go_sem, e1_43, e2_43, e3_43, e13_43, e139_43] at e1_44 e2_44 e3_44 e13_44 e17_44; clear e1_43 e2_43 e3_43 e13_43 e139_43; refine Wp.seqRegion (.inl rfl) (by kernel_rfl) fun K' gd hK hg => ?_; clear hg; refine Wops.cut 3 fun K1 hK1 => ?_; simp only [List.take_succ_cons, List.take_zero]; go_simp; refine hK1 _ _ ?_; clear hK1 K1; simp only [List.drop_succ_cons, List.drop_zero]; refine Wops.absS (b := n17) (i := 0) [_] (somes [cellVal c17_0] (by simp) (by intro j v hj; match j, hj with | 0, hj => (simp at hj; subst hj; exact c17_0))) fun P11 hP11 => ?_; have zP11 := hP11.same; replace f3 := Put.frz hP11 f3; replace f17 := Put.frz hP11 f17; replace hL := hL.put hP11 (by omega); replace xw := Put.to xw hP11 (by omega); replace xl6 := Put.to xl6 hP11 (by omega); replace c3_0 := Put.cell hP11 c3_0 (by omega); replace c3_1 := Put.cell hP11 c3_1 (by omega); clear c17_0; replace c17_1 := Put.cellOff hP11 c17_1 (by simp); have c17_0 := hP11.new 0 _ rfl; try simp only [Nat.reduceAdd, Nat.zero_add, Nat.add_zero] at c17_0
                    clear hP11; try simp only [Wops_nil, updO_some, updO_none]
                    refine hK _ _ ?_; clear hK K' gd; refine Wp.keep [1, 2, 3, 13, 17] fun r45 hkeep => ?_; obtain ⟨e1_45, e2_45, e3_45, e13_45, e17_45, -⟩ := hkeep; simp [go_sem, e1_44, e2_44, e3_44, e13_44, e17_44] at e1_45 e2_45 e3_45 e13_45 e17_45; clear e1_44 e2_44 e3_44 e13_44 e17_44; refine Wp.seqRegion (.inl rfl) (by kernel_rfl) fun K' gd hK hg => ?_; clear hg; refine Wops.cut 2 fun K1 hK1 => ?_; simp only [List.take_succ_cons, List.take_zero]; go_simp; refine Wcall (.inl rfl) (End_g _ (o.cops l) _ ⟨_, _, rfl, hL.intsV, hRV.ext xw⟩ (hkg hb).1) ?_; rintro v w9 ⟨rfl, hE⟩; go_simp; refine hK1 _ _ ?_; clear hK1 K1; simp only [List.drop_succ_cons, List.drop_zero]; have z46 := Below.size hE; replace f3 := Ext.fz hE c3_0 f3; replace f17 := Ext.fz hE c17_1 f17; replace hL := hL.ext hE; replace xw := Ext.trans xw hE; replace xl6 := Ext.trans xl6 hE; replace c3_0 := Ext.cell hE c3_0; replace c3_1 := Ext.cell hE c3_1; replace c17_1 := Ext.cell hE c17_1; replace c17_0 := Ext.cell hE c17_0; clear hE; go_simp; refine hK _ _ ?_; clear hK K' gd; refine Wp.keep [1, 2, 3, 13, 18, 19] fun r47 hkeep => ?_; obtain ⟨e1_47, e2_47, e3_47, e13_47, e18_47, e19_47, -⟩ := hkeep; simp [go_sem, e1_45, e2_45, e3_45, e13_45, e17_45] at e1_47 e2_47 e3_47 e13_47 e18_47 e19_47; clear e1_45 e2_45 e3_45 e13_45 e17_45; refine Wp.seq ?_; refine Wp.seqRegion (.inl rfl) (by kernel_rfl) fun K' gd hK hg => ?_; have g2 : gd 2 = some 156 := hg 2; clear hg; go_simp; refine hK _ _ ?_; clear hK K' gd g2; refine Wp.keep [1, 2, 3, 13, 161] fun r48 hkeep => ?_
                    obtain ⟨e1_48, e2_48, e3_48, e13_48, e161_48, -⟩ := hkeep; simp [go_sem, e1_47, e2_47, e3_47, e13_47, e18_47, e19_47] at e1_48 e2_48 e3_48 e13_48 e161_48; clear e1_47 e2_47 e3_47 e13_47 e18_47 e19_47; refine Wp.condF (by go_simp) ?_; have xo := Ext.refl w9; refine Wp.skip ?_; refine thenK_normal ?_; refine Wp.seqRegion (.inl rfl) (by kernel_rfl) fun K' gd hK hg => ?_; clear hg; refine Wops.cut 3 fun K1 hK1 => ?_; simp only [List.take_succ_cons, List.take_zero]; go_simp; refine hK1 _ _ ?_; clear hK1 K1; simp only [List.drop_succ_cons, List.drop_zero]; refine Wops.absA fun V20_13 n20 hV20_13 => ?_; obtain ⟨q20, hV20_13, s20, kV20_13, f20, r20⟩ := hV20_13; try simp only [q20] at kV20_13 f20 r20 ⊢
                    replace f3 := Ext.fz hV20_13 c3_0 f3; replace f17 := Ext.fz hV20_13 c17_1 f17; replace hL := hL.ext hV20_13; replace xw := Ext.trans xw hV20_13; replace xl6 := Ext.trans xl6 hV20_13; replace xo := Ext.trans xo hV20_13; replace c3_0 := Ext.cell hV20_13 c3_0; replace c3_1 := Ext.cell hV20_13 c3_1; replace c17_1 := Ext.cell hV20_13 c17_1; replace c17_0 := Ext.cell hV20_13 c17_0; have c20_0 := kV20_13 0 _ rfl; have c20_1 := kV20_13 1 _ rfl; clear kV20_13 hV20_13; clear r20; try simp only [Wops_nil, updO_some, updO_none]
                    refine hK _ _ ?_; clear hK K' gd; refine Wp.keep [1, 2, 3, 13, 20] fun r49 hkeep => ?_; obtain ⟨e1_49, e2_49, e3_49, e13_49, e20_49, -⟩ := hkeep; simp [go_sem, e1_48, e2_48, e3_48, e13_48, e161_48] at e1_49 e2_49 e3_49 e13_49 e20_49; clear e1_48 e2_48 e3_48 e13_48 e161_48; obtain ⟨S0, hS0⟩ : ∃ s, V20_13.heap.size = s := ⟨_, rfl⟩; refine Wp.seqRegion (.inl rfl) (by kernel_rfl) fun K' gd hK hg => ?_; clear hg; refine Wops.cut 2 fun K1 hK1 => ?_; simp only [List.take_succ_cons, List.take_zero]; go_simp; refine hK1 _ _ ?_; clear hK1 K1; simp only [List.drop_succ_cons, List.drop_zero]; refine Wops.absS (b := n20) (i := 0) [_] (somes [cellVal c20_0] (by simp) (by intro j v hj; match j, hj with | 0, hj => (simp at hj; subst hj; exact c20_0))) fun P14 hP14 => ?_; have zP14 := hP14.same; replace f3 := Put.frz hP14 f3; replace f17 := Put.frz hP14 f17; replace f20 := Put.frz hP14 f20; replace hL := hL.put hP14 (by omega); replace xw := Put.to xw hP14 (by omega); replace xl6 := Put.to xl6 hP14 (by omega); replace xo := Put.to xo hP14 (by omega); replace c3_0 := Put.cell hP14 c3_0 (by omega); replace c3_1 := Put.cell hP14 c3_1 (by omega); replace c17_1 := Put.cell hP14 c17_1 (by omega); replace c17_0 := Put.cell hP14 c17_0 (by omega); clear c20_0; replace c20_1 := Put.cellOff hP14 c20_1 (by simp); have c20_0 := hP14.new 0 _ rfl; try simp only [Nat.reduceAdd, Nat.zero_add, Nat.add_zero] at c20_0
                    clear hP14; try simp only [Wops_nil, updO_some, updO_none]
                    refine hK _ _ ?_; clear hK K' gd; refine Wp.keep [1, 2, 3, 13, 20] fun r50 hkeep => ?_; obtain ⟨e1_50, e2_50, e3_50, e13_50, e20_50, -⟩ := hkeep; simp [go_sem, e1_49, e2_49, e3_49, e13_49, e20_49] at e1_50 e2_50 e3_50 e13_50 e20_50; clear e1_49 e2_49 e3_49 e13_49 e20_49; refine Wp.seq ?_; refine Wp.seqRegion (.inl rfl) (by kernel_rfl) fun K' gd hK hg => ?_; clear hg; go_simp; refine hK _ _ ?_; clear hK K' gd; refine Wp.keep [1, 2, 3, 13, 20, 21] fun r51 hkeep => ?_; obtain ⟨e1_51, e2_51, e3_51, e13_51, e20_51, e21_51, -⟩ := hkeep; simp [go_sem, e1_50, e2_50, e3_50, e13_50, e20_50] at e1_51 e2_51 e3_51 e13_51 e20_51 e21_51; clear e1_50 e2_50 e3_50 e13_50 e20_50; refine Wp.block ?_; refine Wp.loop (fun j ρ ds wj => AllEq [1, 2, 3, 13, 20] ρ r51 ∧ ds = [] ∧ (Chg [n20] P14 wj ∧ (∀ i, wj.frozen? ⟨n20, i, none⟩ = false)) ∧ (∃ v5, ρ 21 = .int .i64 (j : Int) ∧ wj.cell? ⟨n20, 0, none⟩ = some v5 ∧ wj.cell? ⟨n20, 1, none⟩ = some (.slice p.rA o.n p.rc) ∧ wj.ownsRow S0 3 1 v5 j ((ysL us o.n j).map (Value.int .i64)))) (o.m) ?_ ?_
                    · refine ⟨AllEq.refl _ _, rfl, ⟨Chg.refl _ _, f20⟩, ?_⟩; exact ⟨_, by rw [e21_51]; rfl, c20_0, c20_1, World.ownsRow_nil _ _ _ _⟩
                    · rintro j r52 _ wj hj ⟨hA, rfl, ⟨xl15, gf20⟩, ⟨v5, e21, gc20_0, gc20_1, i1⟩⟩; obtain ⟨e1_52, e2_52, e3_52, e13_52, e20_52, -⟩ := hA; rw [e1_51] at e1_52; rw [e2_51] at e2_52; rw [e3_51] at e3_52; rw [e13_51] at e13_52; rw [e20_51] at e20_52; have zxl15 := Chg.size xl15; replace f3 := Chg.fz xl15 c3_0 f3 (by intro hm; simp only [List.mem_cons, List.not_mem_nil, or_false] at hm; omega); replace f17 := Chg.fz xl15 c17_1 f17 (by intro hm; simp only [List.mem_cons, List.not_mem_nil, or_false] at hm; omega); clear f20; replace hL := hL.chg xl15 (by first | (intro b hb hm; simp at hm; omega) | (simp; omega)); replace xw := Chg.to xw xl15 (by intro b hm; simp only [List.mem_cons, List.not_mem_nil, or_false] at hm; omega); replace xl6 := Chg.to xl6 xl15 (by intro b hm; simp only [List.mem_cons, List.not_mem_nil, or_false] at hm; omega); replace xo := Chg.to xo xl15 (by intro b hm; simp only [List.mem_cons, List.not_mem_nil, or_false] at hm; omega); replace c3_0 := Chg.cell xl15 c3_0 (by intro hm; simp only [List.mem_cons, List.not_mem_nil, or_false] at hm; omega); replace c3_1 := Chg.cell xl15 c3_1 (by intro hm; simp only [List.mem_cons, List.not_mem_nil, or_false] at hm; omega); replace c17_1 := Chg.cell xl15 c17_1 (by intro hm; simp only [List.mem_cons, List.not_mem_nil, or_false] at hm; omega); replace c17_0 := Chg.cell xl15 c17_0 (by intro hm; simp only [List.mem_cons, List.not_mem_nil, or_false] at hm; omega); clear c20_1; clear c20_0; have f20 := gf20; clear gf20
                      have c20_0 := gc20_0; clear gc20_0; have c20_1 := gc20_1; clear gc20_1; refine Wp.seq ?_; refine Wp.seqRegion (.inl rfl) (by kernel_rfl) fun K' gd hK hg => ?_; clear hg; go_simp; refine hK _ _ ?_; clear hK K' gd; refine Wp.keep [1, 2, 3, 13, 20, 21, 168] fun r53 hkeep => ?_; obtain ⟨e1_53, e2_53, e3_53, e13_53, e20_53, e21_53, e168_53, -⟩ := hkeep; simp [go_sem, e1_52, e2_52, e3_52, e13_52, e20_52, e21] at e1_53 e2_53 e3_53 e13_53 e20_53 e21_53 e168_53; clear e1_52 e2_52 e3_52 e13_52 e20_52 e21
                      by_cases h : j < o.m
                      · refine Wp.condT (by go_simp) ?_; have b4 : (j : Int) < (o.m : Int) := by omega
                        have xi := Ext.refl wj
                        by_cases hj : j < nu
                        · skip; obtain ⟨ub, uo, rfl, q1⟩ := hU.at_ (show j < us.length by omega); have q1 := xw.cell q1; have hu0 := hub _ (List.getElem_mem (show j < us.length by omega)); have hz0 : (us[j]?.getD 0) = us[j]'(by omega) := by rw [List.getElem?_eq_getElem (show j < us.length by omega)]; rfl
                          have hz1 : ysF us o.n j = 1 + (((us[j]'(by omega)).toNat % o.n : Nat) : Int) := by unfold ysF; rw [if_pos (by omega), hz0]
                          generalize us[j]'(by omega) = u0 at q1 hu0 hz1
                          clear hz0; have b5 : (j : Int) < (nu : Int) := by omega
                          have hwu : IntKind.i64.wrap u0 = u0 := IntWalk.i64_in _ (by omega); have hmod := tmod_nat (u0 := u0) (n := o.n) (by omega) (by omega); have hml := Nat.mod_lt u0.toNat (show 0 < o.n by omega)
                          generalize u0.toNat % o.n = zz at hz1 hmod hml
                          obtain ⟨z, hwz, hz2⟩ : ∃ z, IntKind.i64.wrap (1 + (zz : Int)) = z ∧ ∃ _u : Unit, ysF us o.n j = z := ⟨1 + (zz : Int), IntWalk.i64_in _ (by omega), (), hz1⟩; clear hz1; refine Wp.skip ?_; refine thenK_normal ?_; refine Wp.seq ?_; refine Wp.block ?_; refine Wp.seqRegion (.inl rfl) (by kernel_rfl) fun K' gd hK hg => ?_; clear hg; go_simp; refine hK _ _ ?_; clear hK K' gd; refine Wp.keep [1, 2, 3, 13, 20, 21, 22] fun r54 hkeep => ?_; obtain ⟨e1_54, e2_54, e3_54, e13_54, e20_54, e21_54, e22_54, -⟩ := hkeep; simp [go_sem, e1_53, e2_53, e3_53, e13_53, e20_53, e21_53, e168_53] at e1_54 e2_54 e3_54 e13_54 e20_54 e21_54 e22_54; clear e1_53 e2_53 e3_53 e13_53 e20_53 e21_53 e168_53; refine Wp.seq ?_; refine Wp.seqRegion (.inl rfl) (by kernel_rfl) fun K' gd hK hg => ?_; clear hg; go_simp; refine hK _ _ ?_; clear hK K' gd; refine Wp.keep [1, 2, 3, 13, 20, 21, 22, 174] fun r55 hkeep => ?_; obtain ⟨e1_55, e2_55, e3_55, e13_55, e20_55, e21_55, e22_55, e174_55, -⟩ := hkeep; simp [go_sem, e1_54, e2_54, e3_54, e13_54, e20_54, e21_54, e22_54] at e1_55 e2_55 e3_55 e13_55 e20_55 e21_55 e22_55 e174_55; clear e1_54 e2_54 e3_54 e13_54 e20_54 e21_54 e22_54; refine Wp.condT (by go_simp) ?_; refine Wp.loneDraw (.inl rfl) mixed [([0, 1, 2, 3, 4], none), ([5, 6, 7, 8, 9], none), ([10], none)] (by kernel_rfl) fun K' gd hK hg => ?_; clear hg; simp only [pick, nth, List.map_cons, List.map_nil, Option.map_none, Option.map_some]; refine Mops.absD fun D17 hD17 zD17 => ?_; replace f3 := Ext.fz hD17 c3_0 f3
                          replace f17 := Ext.fz hD17 c17_1 f17; replace f20 := Ext.fz hD17 c20_0 f20; replace hL := hL.ext hD17; replace xw := Ext.trans xw hD17; replace xl6 := Ext.trans xl6 hD17; replace xo := Ext.trans xo hD17; replace xl15 := Chg.ext xl15 hD17; replace xi := Ext.trans xi hD17; replace c3_0 := Ext.cell hD17 c3_0; replace c3_1 := Ext.cell hD17 c3_1; replace c17_1 := Ext.cell hD17 c17_1; replace c17_0 := Ext.cell hD17 c17_0; replace c20_0 := Ext.cell hD17 c20_0; replace c20_1 := Ext.cell hD17 c20_1; replace q1 := Ext.cell hD17 q1; clear hD17; apply Mops.none
                          · intro w' hE'; have hC' := hE'.cellsS; go_simp; with_reducible rfl
                          apply Mops.none
                          · intro w' hE'; have hC' := hE'.cellsS; go_simp; with_reducible rfl
                          apply Mops.none
                          · intro w' hE'; have hC' := hE'.cellsS; go_simp; with_reducible rfl
                          refine Mops.done ?_; refine hK _ _ ?_; clear hK K' gd; refine Ends.keep [1, 2, 3, 13, 20, 21, 22] fun r56 hkeep => ?_; obtain ⟨e1_56, e2_56, e3_56, e13_56, e20_56, e21_56, e22_56, -⟩ := hkeep; simp [go_sem, e1_55, e2_55, e3_55, e13_55, e20_55, e21_55, e22_55, e174_55] at e1_56 e2_56 e3_56 e13_56 e20_56 e21_56 e22_56; clear e1_55 e2_55 e3_55 e13_55 e20_55 e21_55 e22_55 e174_55; refine Ends.mk ?_; refine thenK_normal ?_; refine Wp.loneRegion (.inl rfl) (by kernel_rfl) fun K' gd hK hg => ?_; clear hg; refine Wops.cut 4 fun K1 hK1 => ?_; simp only [List.take_succ_cons, List.take_zero]; go_simp; refine hK1 _ _ ?_; clear hK1 K1; simp only [List.drop_succ_cons, List.drop_zero]; refine Wops.absA fun V188_18 n188 hV188_18 => ?_; obtain ⟨q188, hV188_18, s188, kV188_18, f188, r188⟩ := hV188_18; try simp only [q188] at kV188_18 f188 r188 ⊢
                          replace f3 := Ext.fz hV188_18 c3_0 f3; replace f17 := Ext.fz hV188_18 c17_1 f17; replace f20 := Ext.fz hV188_18 c20_0 f20; replace hL := hL.ext hV188_18; replace xw := Ext.trans xw hV188_18; replace xl6 := Ext.trans xl6 hV188_18; replace xo := Ext.trans xo hV188_18; replace xl15 := Chg.ext xl15 hV188_18; replace xi := Ext.trans xi hV188_18; replace c3_0 := Ext.cell hV188_18 c3_0; replace c3_1 := Ext.cell hV188_18 c3_1; replace c17_1 := Ext.cell hV188_18 c17_1; replace c17_0 := Ext.cell hV188_18 c17_0; replace c20_0 := Ext.cell hV188_18 c20_0; replace c20_1 := Ext.cell hV188_18 c20_1; replace q1 := Ext.cell hV188_18 q1; clear hV188_18 f188; have c188_0 := kV188_18 0 _ rfl; clear kV188_18; refine Wops.cut 1 fun K1 hK1 => ?_; simp only [List.take_succ_cons, List.take_zero]; obtain ⟨v', w9, hrun, hown, hgr⟩ := OwnI.pushB (i1.ext xi) c188_0 22 rfl (by omega) (by omega); obtain ⟨g, cap, rfl⟩ := ownsRow_succ hown; refine Wops.law rfl (exec_append2 rfl hrun (by go_simp) (by go_simp)) ?_; simp only [updO_some, Wops_nil]; refine hK1 _ _ ?_; clear hK1 K1; simp only [List.drop_succ_cons, List.drop_zero]; have z57 := World.grownBy.size hgr; replace f3 := Chg.fz (grown_chg hgr) c3_0 f3 (lt_off (World.ownsRow.lt i1) (by omega)); replace f17 := Chg.fz (grown_chg hgr) c17_1 f17 (lt_off (World.ownsRow.lt i1) (by omega)); replace f20 := Chg.fz (grown_chg hgr) c20_0 f20 (lt_off (World.ownsRow.lt i1) (by omega)); replace hL := hL.chg (grown_chg hgr) (by first | (intro b hb; exact lt_off (World.ownsRow.lt i1) (by omega)) | exact lt_off (World.ownsRow.lt i1) (by omega))
                          replace xw := Chg.to xw (grown_chg hgr) (lt_ge (World.ownsRow.lt i1) (by omega)); replace xl6 := Chg.to xl6 (grown_chg hgr) (lt_ge (World.ownsRow.lt i1) (by omega)); replace xo := Chg.to xo (grown_chg hgr) (lt_ge (World.ownsRow.lt i1) (by omega)); replace xl15 := Chg.more xl15 (grown_chg hgr) (by first | exact lt_gm (World.ownsRow.lt i1) (by omega) | simp); replace c3_0 := Chg.cell (grown_chg hgr) c3_0 (lt_off (World.ownsRow.lt i1) (by omega)); replace c3_1 := Chg.cell (grown_chg hgr) c3_1 (lt_off (World.ownsRow.lt i1) (by omega)); replace c17_1 := Chg.cell (grown_chg hgr) c17_1 (lt_off (World.ownsRow.lt i1) (by omega)); replace c17_0 := Chg.cell (grown_chg hgr) c17_0 (lt_off (World.ownsRow.lt i1) (by omega)); replace c20_0 := Chg.cell (grown_chg hgr) c20_0 (lt_off (World.ownsRow.lt i1) (by omega)); replace c20_1 := Chg.cell (grown_chg hgr) c20_1 (lt_off (World.ownsRow.lt i1) (by omega)); replace c188_0 := Chg.cell (grown_chg hgr) c188_0 (lt_off (World.ownsRow.lt i1) (by omega)); refine Wops.cut 2 fun K1 hK1 => ?_; simp only [List.take_succ_cons, List.take_zero]; go_simp; refine hK1 _ _ ?_; clear hK1 K1; simp only [List.drop_succ_cons, List.drop_zero]; refine Wops.absS (b := n20) (i := 0) [_] (somes [cellVal c20_0] (by simp) (by intro j v hj; match j, hj with | 0, hj => (simp at hj; subst hj; exact c20_0))) fun P19 hP19 => ?_; have zP19 := hP19.same; replace f3 := Put.frz hP19 f3; replace f17 := Put.frz hP19 f17; replace f20 := Put.frz hP19 f20; replace hL := hL.put hP19 (by omega)
                          replace hown := hown.put hP19 (by omega); replace xw := Put.to xw hP19 (by omega); replace xl6 := Put.to xl6 hP19 (by omega); replace xo := Put.to xo hP19 (by omega); replace xl15 := Put.more xl15 hP19 (.inr (by simp)); replace c3_0 := Put.cell hP19 c3_0 (by omega); replace c3_1 := Put.cell hP19 c3_1 (by omega); replace c17_1 := Put.cell hP19 c17_1 (by omega); replace c17_0 := Put.cell hP19 c17_0 (by omega); clear c20_0; replace c20_1 := Put.cellOff hP19 c20_1 (by simp); replace c188_0 := Put.cell hP19 c188_0 (by omega); have c20_0 := hP19.new 0 _ rfl; try simp only [Nat.reduceAdd, Nat.zero_add, Nat.add_zero] at c20_0
                          clear hP19; try simp only [Wops_nil, updO_some, updO_none]
                          refine hK _ _ ?_; clear hK K' gd; refine Ends.keep [1, 2, 3, 13, 20, 21] fun r58 hkeep => ?_; obtain ⟨e1_58, e2_58, e3_58, e13_58, e20_58, e21_58, -⟩ := hkeep; simp [go_sem, e1_56, e2_56, e3_56, e13_56, e20_56, e21_56, e22_56] at e1_58 e2_58 e3_58 e13_58 e20_58 e21_58; clear e1_56 e2_56 e3_56 e13_56 e20_56 e21_56 e22_56; refine Ends.mk ?_; refine blockK_normal ?_; refine thenK_normal ?_; refine Wp.loneRegion (.inl rfl) (by kernel_rfl) fun K' gd hK hg => ?_; clear hg; go_simp; refine hK _ _ ?_; clear hK K' gd; refine Ends.keep [1, 2, 3, 13, 20, 21] fun r59 hkeep => ?_; obtain ⟨e1_59, e2_59, e3_59, e13_59, e20_59, e21_59, -⟩ := hkeep; simp [go_sem, e1_58, e2_58, e3_58, e13_58, e20_58, e21_58] at e1_59 e2_59 e3_59 e13_59 e20_59 e21_59; clear e1_58 e2_58 e3_58 e13_58 e20_58 e21_58; refine Ends.mk ?_; refine thenK_normal ⟨by omega, ⟨by rw [e1_59, e1_51], by rw [e2_59, e2_51], by rw [e3_59, e3_51], by rw [e13_59, e13_51], by rw [e20_59, e20_51], trivial⟩, rfl, ⟨xl15, f20⟩, ?_⟩; refine ⟨_, by rw [e21_59, IntWalk.i64_in _ (by omega)]; rfl, c20_0, c20_1, ?_⟩; obtain ⟨-, hz⟩ := hz2; rw [ysL_succ, List.map_append, hz]; exact hown
                        · skip; have hz2 : ∃ _u : Unit, ysF us o.n j = 1 := ⟨(), by unfold ysF; rw [if_neg (by omega)]⟩; have b5 : ¬ (j : Int) < (nu : Int) := by omega
                          refine Wp.skip ?_; refine thenK_normal ?_; refine Wp.seq ?_; refine Wp.block ?_; refine Wp.seqRegion (.inl rfl) (by kernel_rfl) fun K' gd hK hg => ?_; clear hg; go_simp; refine hK _ _ ?_; clear hK K' gd; refine Wp.keep [1, 2, 3, 13, 20, 21, 22] fun r60 hkeep => ?_; obtain ⟨e1_60, e2_60, e3_60, e13_60, e20_60, e21_60, e22_60, -⟩ := hkeep; simp [go_sem, e1_53, e2_53, e3_53, e13_53, e20_53, e21_53, e168_53] at e1_60 e2_60 e3_60 e13_60 e20_60 e21_60 e22_60; clear e1_53 e2_53 e3_53 e13_53 e20_53 e21_53 e168_53; refine Wp.seq ?_; refine Wp.seqRegion (.inl rfl) (by kernel_rfl) fun K' gd hK hg => ?_; clear hg; go_simp; refine hK _ _ ?_; clear hK K' gd; refine Wp.keep [1, 2, 3, 13, 20, 21, 22, 174] fun r61 hkeep => ?_; obtain ⟨e1_61, e2_61, e3_61, e13_61, e20_61, e21_61, e22_61, e174_61, -⟩ := hkeep; simp [go_sem, e1_60, e2_60, e3_60, e13_60, e20_60, e21_60, e22_60] at e1_61 e2_61 e3_61 e13_61 e20_61 e21_61 e22_61 e174_61; clear e1_60 e2_60 e3_60 e13_60 e20_60 e21_60 e22_60; refine Wp.condF (by go_simp) ?_; refine Wp.skip ?_; refine thenK_normal ?_; refine Wp.loneRegion (.inl rfl) (by kernel_rfl) fun K' gd hK hg => ?_; clear hg; refine Wops.cut 4 fun K1 hK1 => ?_; simp only [List.take_succ_cons, List.take_zero]; go_simp; refine hK1 _ _ ?_; clear hK1 K1; simp only [List.drop_succ_cons, List.drop_zero]; refine Wops.absA fun V188_20 n188 hV188_20 => ?_; obtain ⟨q188, hV188_20, s188, kV188_20, f188, r188⟩ := hV188_20; try simp only [q188] at kV188_20 f188 r188 ⊢
                          replace f3 := Ext.fz hV188_20 c3_0 f3; replace f17 := Ext.fz hV188_20 c17_1 f17; replace f20 := Ext.fz hV188_20 c20_0 f20; replace hL := hL.ext hV188_20; replace xw := Ext.trans xw hV188_20; replace xl6 := Ext.trans xl6 hV188_20; replace xo := Ext.trans xo hV188_20; replace xl15 := Chg.ext xl15 hV188_20; replace xi := Ext.trans xi hV188_20; replace c3_0 := Ext.cell hV188_20 c3_0; replace c3_1 := Ext.cell hV188_20 c3_1; replace c17_1 := Ext.cell hV188_20 c17_1; replace c17_0 := Ext.cell hV188_20 c17_0; replace c20_0 := Ext.cell hV188_20 c20_0; replace c20_1 := Ext.cell hV188_20 c20_1; clear hV188_20 f188; have c188_0 := kV188_20 0 _ rfl; clear kV188_20; refine Wops.cut 1 fun K1 hK1 => ?_; simp only [List.take_succ_cons, List.take_zero]; obtain ⟨v', w9, hrun, hown, hgr⟩ := OwnI.pushB (i1.ext xi) c188_0 22 rfl (by omega) (by omega); obtain ⟨g, cap, rfl⟩ := ownsRow_succ hown; refine Wops.law rfl (exec_append2 rfl hrun (by go_simp) (by go_simp)) ?_; simp only [updO_some, Wops_nil]; refine hK1 _ _ ?_; clear hK1 K1; simp only [List.drop_succ_cons, List.drop_zero]; have z62 := World.grownBy.size hgr; replace f3 := Chg.fz (grown_chg hgr) c3_0 f3 (lt_off (World.ownsRow.lt i1) (by omega)); replace f17 := Chg.fz (grown_chg hgr) c17_1 f17 (lt_off (World.ownsRow.lt i1) (by omega)); replace f20 := Chg.fz (grown_chg hgr) c20_0 f20 (lt_off (World.ownsRow.lt i1) (by omega)); replace hL := hL.chg (grown_chg hgr) (by first | (intro b hb; exact lt_off (World.ownsRow.lt i1) (by omega)) | exact lt_off (World.ownsRow.lt i1) (by omega))
                          replace xw := Chg.to xw (grown_chg hgr) (lt_ge (World.ownsRow.lt i1) (by omega)); replace xl6 := Chg.to xl6 (grown_chg hgr) (lt_ge (World.ownsRow.lt i1) (by omega)); replace xo := Chg.to xo (grown_chg hgr) (lt_ge (World.ownsRow.lt i1) (by omega)); replace xl15 := Chg.more xl15 (grown_chg hgr) (by first | exact lt_gm (World.ownsRow.lt i1) (by omega) | simp); replace c3_0 := Chg.cell (grown_chg hgr) c3_0 (lt_off (World.ownsRow.lt i1) (by omega)); replace c3_1 := Chg.cell (grown_chg hgr) c3_1 (lt_off (World.ownsRow.lt i1) (by omega)); replace c17_1 := Chg.cell (grown_chg hgr) c17_1 (lt_off (World.ownsRow.lt i1) (by omega)); replace c17_0 := Chg.cell (grown_chg hgr) c17_0 (lt_off (World.ownsRow.lt i1) (by omega)); replace c20_0 := Chg.cell (grown_chg hgr) c20_0 (lt_off (World.ownsRow.lt i1) (by omega)); replace c20_1 := Chg.cell (grown_chg hgr) c20_1 (lt_off (World.ownsRow.lt i1) (by omega)); replace c188_0 := Chg.cell (grown_chg hgr) c188_0 (lt_off (World.ownsRow.lt i1) (by omega)); refine Wops.cut 2 fun K1 hK1 => ?_; simp only [List.take_succ_cons, List.take_zero]; go_simp; refine hK1 _ _ ?_; clear hK1 K1; simp only [List.drop_succ_cons, List.drop_zero]; refine Wops.absS (b := n20) (i := 0) [_] (somes [cellVal c20_0] (by simp) (by intro j v hj; match j, hj with | 0, hj => (simp at hj; subst hj; exact c20_0))) fun P21 hP21 => ?_; have zP21 := hP21.same; replace f3 := Put.frz hP21 f3; replace f17 := Put.frz hP21 f17; replace f20 := Put.frz hP21 f20; replace hL := hL.put hP21 (by omega)
                          replace hown := hown.put hP21 (by omega); replace xw := Put.to xw hP21 (by omega); replace xl6 := Put.to xl6 hP21 (by omega); replace xo := Put.to xo hP21 (by omega); replace xl15 := Put.more xl15 hP21 (.inr (by simp)); replace c3_0 := Put.cell hP21 c3_0 (by omega); replace c3_1 := Put.cell hP21 c3_1 (by omega); replace c17_1 := Put.cell hP21 c17_1 (by omega); replace c17_0 := Put.cell hP21 c17_0 (by omega); clear c20_0; replace c20_1 := Put.cellOff hP21 c20_1 (by simp); replace c188_0 := Put.cell hP21 c188_0 (by omega); have c20_0 := hP21.new 0 _ rfl; try simp only [Nat.reduceAdd, Nat.zero_add, Nat.add_zero] at c20_0
                          clear hP21; try simp only [Wops_nil, updO_some, updO_none]
                          refine hK _ _ ?_; clear hK K' gd; refine Ends.keep [1, 2, 3, 13, 20, 21] fun r63 hkeep => ?_; obtain ⟨e1_63, e2_63, e3_63, e13_63, e20_63, e21_63, -⟩ := hkeep; simp [go_sem, e1_61, e2_61, e3_61, e13_61, e20_61, e21_61, e22_61, e174_61] at e1_63 e2_63 e3_63 e13_63 e20_63 e21_63; clear e1_61 e2_61 e3_61 e13_61 e20_61 e21_61 e22_61 e174_61; refine Ends.mk ?_; refine blockK_normal ?_; refine thenK_normal ?_; refine Wp.loneRegion (.inl rfl) (by kernel_rfl) fun K' gd hK hg => ?_; clear hg; go_simp; refine hK _ _ ?_; clear hK K' gd; refine Ends.keep [1, 2, 3, 13, 20, 21] fun r64 hkeep => ?_; obtain ⟨e1_64, e2_64, e3_64, e13_64, e20_64, e21_64, -⟩ := hkeep; simp [go_sem, e1_63, e2_63, e3_63, e13_63, e20_63, e21_63] at e1_64 e2_64 e3_64 e13_64 e20_64 e21_64; clear e1_63 e2_63 e3_63 e13_63 e20_63 e21_63; refine Ends.mk ?_; refine thenK_normal ⟨by omega, ⟨by rw [e1_64, e1_51], by rw [e2_64, e2_51], by rw [e3_64, e3_51], by rw [e13_64, e13_51], by rw [e20_64, e20_51], trivial⟩, rfl, ⟨xl15, f20⟩, ?_⟩; refine ⟨_, by rw [e21_64, IntWalk.i64_in _ (by omega)]; rfl, c20_0, c20_1, ?_⟩; obtain ⟨-, hz⟩ := hz2; rw [ysL_succ, List.map_append, hz]; exact hown
                      · refine Wp.condF (by go_simp) ?_; obtain rfl : j = o.m := by omega
                        have hY : OwnI wj S0 v5 (ysL us o.n o.m) := zI_own i1 (ysL_len _ _ _); obtain ⟨A20, c20, rfl⟩ := hY.slice; obtain ⟨ys, hys⟩ : ∃ ys, ysL us o.n o.m = ys := ⟨_, rfl⟩; have hyl := ysL_len us o.n o.m; rw [hys] at hY c20_0 hky hkb hyl; rw [hyl] at hY c20_0; clear hys i1; refine Wp.exit ?_; refine thenK_exit ?_; refine thenK_exit ?_; refine blockK_here ?_; refine thenK_normal ?_; refine Wp.seqRegion (.inl rfl) (by kernel_rfl) fun K' gd hK hg => ?_; clear hg; refine Wops.cut 2 fun K1 hK1 => ?_; simp only [List.take_succ_cons, List.take_zero]; go_simp; refine Wcall (.inl rfl) (End_g _ (o.cops ys) _ ⟨_, _, rfl, hY.intsV, hRV.ext xw⟩ hky.1) ?_; rintro v w10 ⟨rfl, hE⟩; go_simp; refine hK1 _ _ ?_; clear hK1 K1; simp only [List.drop_succ_cons, List.drop_zero]; have z65 := Below.size hE; replace f3 := Ext.fz hE c3_0 f3; replace f17 := Ext.fz hE c17_1 f17; replace f20 := Ext.fz hE c20_0 f20; replace hL := hL.ext hE; replace hY := hY.ext hE; replace xw := Ext.trans xw hE; replace xl6 := Ext.trans xl6 hE; replace xo := Ext.trans xo hE; replace xl15 := Chg.ext xl15 hE; replace c3_0 := Ext.cell hE c3_0; replace c3_1 := Ext.cell hE c3_1; replace c17_1 := Ext.cell hE c17_1; replace c17_0 := Ext.cell hE c17_0; replace c20_0 := Ext.cell hE c20_0; replace c20_1 := Ext.cell hE c20_1; clear hE; go_simp; refine hK _ _ ?_; clear hK K' gd; refine Wp.keep [1, 13, 20, 23, 24] fun r66 hkeep => ?_; obtain ⟨e1_66, e13_66, e20_66, e23_66, e24_66, -⟩ := hkeep; simp [go_sem, e1_53, e2_53, e3_53, e13_53, e20_53, e21_53, e168_53] at e1_66 e13_66 e20_66 e23_66 e24_66
                        clear e1_53 e2_53 e3_53 e13_53 e20_53 e21_53 e168_53
                        by_cases hs : l.sum ≤ ys.sum
                        · skip; refine Wp.seqRegion (.inl rfl) (by kernel_rfl) fun K' gd hK hg => ?_; have g1 : gd 1 = some 197 := hg 1; have g5 : gd 5 = some 201 := hg 5; have g12 : gd 12 = some 208 := hg 12; clear hg; refine Wops.cut 1 fun K1 hK1 => ?_; simp only [List.take_succ_cons, List.take_zero]; go_simp; refine Wcall (.inl rfl) (sanity_c _) ?_; rintro v w11 ⟨rfl, hE⟩; go_simp; refine hK1 _ _ ?_; clear hK1 K1; simp only [List.drop_succ_cons, List.drop_zero]; have z67 := Below.size hE; replace f3 := Ext.fz hE c3_0 f3; replace f17 := Ext.fz hE c17_1 f17; replace f20 := Ext.fz hE c20_0 f20; replace hL := hL.ext hE; replace hY := hY.ext hE; replace xw := Ext.trans xw hE; replace xl6 := Ext.trans xl6 hE; replace xo := Ext.trans xo hE; replace xl15 := Chg.ext xl15 hE; replace c3_0 := Ext.cell hE c3_0; replace c3_1 := Ext.cell hE c3_1; replace c17_1 := Ext.cell hE c17_1; replace c17_0 := Ext.cell hE c17_0; replace c20_0 := Ext.cell hE c20_0; replace c20_1 := Ext.cell hE c20_1; clear hE; refine Wops.cut 8 fun K1 hK1 => ?_; simp only [List.take_succ_cons, List.take_zero]; go_simp; refine Wcall (.inl rfl) (lawTotal_c _ ys _ hY.intsV hky.2 (by omega)) ?_; rintro v w12 ⟨rfl, hE⟩; go_simp; refine hK1 _ _ ?_; clear hK1 K1; simp only [List.drop_succ_cons, List.drop_zero]; have z68 := Below.size hE; replace f3 := Ext.fz hE c3_0 f3; replace f17 := Ext.fz hE c17_1 f17; replace f20 := Ext.fz hE c20_0 f20; replace hL := hL.ext hE; replace hY := hY.ext hE; replace xw := Ext.trans xw hE; replace xl6 := Ext.trans xl6 hE
                          replace xo := Ext.trans xo hE; replace xl15 := Chg.ext xl15 hE; replace c3_0 := Ext.cell hE c3_0; replace c3_1 := Ext.cell hE c3_1; replace c17_1 := Ext.cell hE c17_1; replace c17_0 := Ext.cell hE c17_0; replace c20_0 := Ext.cell hE c20_0; replace c20_1 := Ext.cell hE c20_1; clear hE; refine Wops.cut 2 fun K1 hK1 => ?_; simp only [List.take_succ_cons, List.take_zero]; go_simp; refine Wcall (.inl rfl) (lawTotal_c _ l _ hL.intsV hkl.2 (by omega)) ?_; rintro v w13 ⟨rfl, hE⟩; go_simp; refine hK1 _ _ ?_; clear hK1 K1; simp only [List.drop_succ_cons, List.drop_zero]; have z69 := Below.size hE; replace f3 := Ext.fz hE c3_0 f3; replace f17 := Ext.fz hE c17_1 f17; replace f20 := Ext.fz hE c20_0 f20; replace hL := hL.ext hE; replace hY := hY.ext hE; replace xw := Ext.trans xw hE; replace xl6 := Ext.trans xl6 hE; replace xo := Ext.trans xo hE; replace xl15 := Chg.ext xl15 hE; replace c3_0 := Ext.cell hE c3_0; replace c3_1 := Ext.cell hE c3_1; replace c17_1 := Ext.cell hE c17_1; replace c17_0 := Ext.cell hE c17_0; replace c20_0 := Ext.cell hE c20_0; replace c20_1 := Ext.cell hE c20_1; clear hE; go_simp; refine hK _ _ ?_; clear hK K' gd g1 g5 g12; refine Wp.keep [6] fun r70 hkeep => ?_; obtain ⟨e6_70, -⟩ := hkeep; simp [go_sem, e1_66, e13_66, e20_66, e23_66, e24_66] at e6_70; clear e1_66 e13_66 e20_66 e23_66 e24_66; refine Wp.ret ?_; refine endK_tmp Try.results11 (by decide) ?_; rw [e6_70]; exact ⟨rfl, xw⟩
                        · skip; have hgt : d < endS (o.cops ys) := by rcases Int.lt_or_le d (endS (o.cops ys)) with h | h; exact h; exact absurd (hkb hb h) hs
                          refine Wp.seqRegion (.inl rfl) (by kernel_rfl) fun K' gd hK hg => ?_; have g1 : gd 1 = some 197 := hg 1; have g5 : gd 5 = some 201 := hg 5; have g12 : gd 12 = some 208 := hg 12; clear hg; refine Wops.cut 1 fun K1 hK1 => ?_; simp only [List.take_succ_cons, List.take_zero]; go_simp; refine Wcall (.inl rfl) (sanity_c _) ?_; rintro v w11 ⟨rfl, hE⟩; go_simp; refine hK1 _ _ ?_; clear hK1 K1; simp only [List.drop_succ_cons, List.drop_zero]; have z71 := Below.size hE; replace f3 := Ext.fz hE c3_0 f3; replace f17 := Ext.fz hE c17_1 f17; replace f20 := Ext.fz hE c20_0 f20; replace hL := hL.ext hE; replace hY := hY.ext hE; replace xw := Ext.trans xw hE; replace xl6 := Ext.trans xl6 hE; replace xo := Ext.trans xo hE; replace xl15 := Chg.ext xl15 hE; replace c3_0 := Ext.cell hE c3_0; replace c3_1 := Ext.cell hE c3_1; replace c17_1 := Ext.cell hE c17_1; replace c17_0 := Ext.cell hE c17_0; replace c20_0 := Ext.cell hE c20_0; replace c20_1 := Ext.cell hE c20_1; clear hE; refine Wops.cut 8 fun K1 hK1 => ?_; simp only [List.take_succ_cons, List.take_zero]; go_simp; refine Wcall (.inl rfl) (lawTotal_c _ ys _ hY.intsV hky.2 (by omega)) ?_; rintro v w12 ⟨rfl, hE⟩; go_simp; refine hK1 _ _ ?_; clear hK1 K1; simp only [List.drop_succ_cons, List.drop_zero]; have z72 := Below.size hE; replace f3 := Ext.fz hE c3_0 f3; replace f17 := Ext.fz hE c17_1 f17; replace f20 := Ext.fz hE c20_0 f20; replace hL := hL.ext hE; replace hY := hY.ext hE; replace xw := Ext.trans xw hE; replace xl6 := Ext.trans xl6 hE
                          replace xo := Ext.trans xo hE; replace xl15 := Chg.ext xl15 hE; replace c3_0 := Ext.cell hE c3_0; replace c3_1 := Ext.cell hE c3_1; replace c17_1 := Ext.cell hE c17_1; replace c17_0 := Ext.cell hE c17_0; replace c20_0 := Ext.cell hE c20_0; replace c20_1 := Ext.cell hE c20_1; clear hE; refine Wops.cut 2 fun K1 hK1 => ?_; simp only [List.take_succ_cons, List.take_zero]; go_simp; refine Wcall (.inl rfl) (lawTotal_c _ l _ hL.intsV hkl.2 (by omega)) ?_; rintro v w13 ⟨rfl, hE⟩; go_simp; refine hK1 _ _ ?_; clear hK1 K1; simp only [List.drop_succ_cons, List.drop_zero]; have z73 := Below.size hE; replace f3 := Ext.fz hE c3_0 f3; replace f17 := Ext.fz hE c17_1 f17; replace f20 := Ext.fz hE c20_0 f20; replace hL := hL.ext hE; replace hY := hY.ext hE; replace xw := Ext.trans xw hE; replace xl6 := Ext.trans xl6 hE; replace xo := Ext.trans xo hE; replace xl15 := Chg.ext xl15 hE; replace c3_0 := Ext.cell hE c3_0; replace c3_1 := Ext.cell hE c3_1; replace c17_1 := Ext.cell hE c17_1; replace c17_0 := Ext.cell hE c17_0; replace c20_0 := Ext.cell hE c20_0; replace c20_1 := Ext.cell hE c20_1; clear hE; go_simp; refine hK _ _ ?_; clear hK K' gd g1 g5 g12; refine Wp.keep [6] fun r74 hkeep => ?_; obtain ⟨e6_74, -⟩ := hkeep; simp [go_sem, e1_66, e13_66, e20_66, e23_66, e24_66] at e6_74; clear e1_66 e13_66 e20_66 e23_66 e24_66; refine Wp.ret ?_; refine endK_tmp Try.results11 (by decide) ?_; rw [e6_74]; exact ⟨rfl, xw⟩
          · skip; refine Wp.seqRegion (.inl rfl) (by kernel_rfl) fun K' gd hK hg => ?_; clear hg; refine Wops.cut 1 fun K1 hK1 => ?_; simp only [List.take_succ_cons, List.take_zero]; go_simp; refine hK1 _ _ ?_; clear hK1 K1; simp only [List.drop_succ_cons, List.drop_zero]; refine Wops.absA fun V3_22 n3 hV3_22 => ?_; obtain ⟨q3, hV3_22, s3, kV3_22, f3, r3⟩ := hV3_22; try simp only [q3] at kV3_22 f3 r3 ⊢
            replace xw := Ext.trans xw hV3_22; have c3_0 := kV3_22 0 _ rfl; have c3_1 := kV3_22 1 _ rfl; clear kV3_22 hV3_22; clear r3; go_simp; refine hK _ _ ?_; clear hK K' gd; refine Wp.keep [1, 2, 3] fun r75 hkeep => ?_; obtain ⟨e1_75, e2_75, e3_75, -⟩ := hkeep; simp [go_sem, e0_1, e1_1, e2_1] at e1_75 e2_75 e3_75; clear e0_1 e1_1 e2_1; refine Wp.seq ?_; refine Wp.seqRegion (.inl rfl) (by kernel_rfl) fun K' gd hK hg => ?_; have g4 : gd 4 = some 29 := hg 4; have g10 : gd 10 = some 35 := hg 10; have g16 : gd 16 = some 41 := hg 16; have g21 : gd 21 = some 46 := hg 21; clear hg; refine Wops.cut 24 fun K1 hK1 => ?_; simp only [List.take_succ_cons, List.take_zero]; go_simp; refine Wcall (.inl rfl) (check_c _ o _ (hV.ext xw) hf) ?_; rintro v w2 ⟨rfl, hE⟩; go_simp; refine hK1 _ _ ?_; clear hK1 K1; simp only [List.drop_succ_cons, List.drop_zero]; have z76 := Below.size hE; replace f3 := Ext.fz hE c3_0 f3; replace xw := Ext.trans xw hE; replace c3_0 := Ext.cell hE c3_0; replace c3_1 := Ext.cell hE c3_1; clear hE; go_simp; refine hK _ _ ?_; clear hK K' gd g4 g10 g16 g21; refine Wp.keep [1, 2, 3, 50] fun r77 hkeep => ?_; obtain ⟨e1_77, e2_77, e3_77, e50_77, -⟩ := hkeep; simp [go_sem, e1_75, e2_75, e3_75] at e1_77 e2_77 e3_77 e50_77; clear e1_75 e2_75 e3_75; refine Wp.condT (by go_simp) ?_; refine Wp.seqRegion (.inl rfl) (by kernel_rfl) fun K' gd hK hg => ?_; clear hg; refine Wops.cut 1 fun K1 hK1 => ?_; simp only [List.take_succ_cons, List.take_zero]; go_simp; refine Wcall (.inl rfl) (sanity_c _) ?_
            rintro v w2 ⟨rfl, hE⟩; go_simp; refine hK1 _ _ ?_; clear hK1 K1; simp only [List.drop_succ_cons, List.drop_zero]; have z78 := Below.size hE; replace f3 := Ext.fz hE c3_0 f3; replace xw := Ext.trans xw hE; replace c3_0 := Ext.cell hE c3_0; replace c3_1 := Ext.cell hE c3_1; clear hE; go_simp; refine hK _ _ ?_; clear hK K' gd; refine Wp.keep [6] fun r79 hkeep => ?_; obtain ⟨e6_79, -⟩ := hkeep; simp [go_sem, e1_77, e2_77, e3_77, e50_77] at e6_79; clear e1_77 e2_77 e3_77 e50_77; refine Wp.ret ?_; refine thenK_ret ?_; refine endK_tmp Try.results11 (by decide) ?_; rw [e6_79]; exact ⟨rfl, xw⟩
end Go.Proofs.Ytnfagcccgmakdaa
namespace Go.Proofs.Ytnfagcccgmakdaa
open Go.ChangeShapes Go.WideShapes Go.RowKit Go.Wk Go.Proofs
theorem own : ownKnob Try.prog.godebug = none := by kernel_rfl
theorem laidOut : laidOutB Try.prog = true := by kernel_rfl
set_option maxRecDepth 100000 in
theorem orderFewest_lifted (os : Os) (started : os.Started) (H : Type) (enc : TypeId × Value → H) :
    ReturnsInHanded {} Try.checked os 11 .any (Rows.orderFewestSpec.pre6 enc Try.prog Try.f11 Rows.orderFewestRow.domain false) (Rows.orderFewestSpec.post enc Try.prog Try.f11 false true false false) := by
  refine returnsInHanded_of_change_sized (C := Try.checked) own started (by kernel_rfl) Try.func11
    (ChangeSpec.witness6 (enc := enc) (C := Try.checked) false ⟨#[], #[.agg #[.slice none 0 0, .slice none 0 0], .int .u16 0, .slice none 0 0], []⟩ 8 (by kernel_rfl) (by kernel_rfl) (by kernel_rfl) (by kernel_rfl)) ?_
  intro W base args ds gs before hval0 hW0 _ hsz0 _; have hval : ∀ (j : Nat) t v, Try.f11.params[j]? = some t → args[j]? = some v → Value.okWide Try.prog W .any base t v := hval0; have hW : DataW.Whole enc Try.prog Try.f11.params.toList [] false W args.toList ds gs before := hW0; have hsz : (DataW.weightsEach Try.prog (Try.f11.params.toList ++ []) (ds ++ gs)).all (· ≤ reachBytes) = true := hsz0; clear hval0 hsz0; obtain ⟨p, q, hA, hV, -, -, -⟩ := hW; obtain ⟨rfl, -⟩ := trodVars_none hV; rw [List.append_nil, List.append_nil] at hsz; rw [Try.params11] at hA hsz hval; obtain ⟨hlen, hR⟩ := Rd.of_args hA hsz; obtain ⟨v0, v1, v2, d0, d1, d2, p0, p1, p2, rfl, rfl, -, -, -, -⟩ := trodAll_three hA; have r0 := hR 0 _ v0 rfl rfl; have r1 := hR 1 _ v1 rfl rfl; have r2 := hR 2 _ v2 rfl rfl; obtain ⟨cs0, rfl, -⟩ := okWide_struct Try.underlying25 (hval 0 _ v0 rfl rfl); obtain ⟨m1, rfl⟩ := okWide_int Try.underlying56 (hval 1 _ v1 rfl rfl); obtain ⟨A2, n2, c2, rfl⟩ := okWide_slice Try.underlying70 (hval 2 _ v2 rfl rfl); obtain ⟨x0, h0, f0⟩ := openO ⟨cs0, rfl⟩ r0; obtain ⟨x1, hm1, f1⟩ := r1.int Try.underlying56
  have e1 : x1 = m1 := by
    have e : [Value.int .u16 m1] = [Value.int .u16 x1] := hm1
    injection e with e _
    injection e with _ e
    exact e.symm
  subst e1; obtain ⟨x2, h2, f2, g2⟩ := openU (v := .slice A2 n2 c2) r2; refine (fewestLaw_c _ _ x0 x1 x2 W h0 f0 (Go.bounds_u16 f1) h2 f2 g2).calls.mono fun e W' ⟨v, he, hv, hE⟩ => ?_; subst he; subst hv; exact ⟨_, rfl, law_post hW0 laidOut rfl (by rw [Try.params11]; intro t ht; simp at ht; rcases ht with rfl | rfl | rfl <;> exact ⟨by kernel_rfl, of_decide_eq_true (by kernel_rfl)⟩) rfl Try.underlying4 rfl rfl rfl hE⟩
theorem orderFewest_holds : Rows.OrderFewestSaid :=
  OpenClaim.holds_of_wide 11 Try.f11 rfl rfl rfl rfl rfl rfl rfl ⟨rfl, rfl, rfl, rfl, rfl⟩ rfl rfl rfl rfl rfl (by kernel_rfl) Try.func11 (by kernel_rfl)
    (of_decide_eq_true (by kernel_rfl)) (by unfold Func.isWrapper; first | (rw [if_pos (by decide +kernel)]; kernel_rfl) | (rw [if_neg (by decide +kernel)]; exact ⟨rfl, rfl⟩))
    (fun os started H enc _ => orderFewest_lifted os started H enc)
#print axioms orderFewest_holds
end Go.Proofs.Ytnfagcccgmakdaa
