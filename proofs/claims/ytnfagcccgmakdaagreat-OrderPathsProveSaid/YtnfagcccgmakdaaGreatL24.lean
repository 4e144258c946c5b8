/- The specification's Check; few. few; the specification's Hold. The specification's Hold. The specification's latest. The specification's end, Times, End. The specification's End, Ample, Waits, Idle. Printed by wip/mk82.py. The specification's slack, Critical, Latest. Printed by wip/mk83.py. The specification's copied. The specification's changed orders. The specification's piece, More, Save, Need. The specification's Save, Need. The specification's comparison of orders. OrderCopies. The specification's stint, Delayed, Reach. OrderLater. Collect, Contains, leads, CheckPath. Paths, and what they show. leads, CheckPath. OrderPathsProve. For every input, in whatever memory: OrderPathsProve returns true, and its arguments read as before. No condition. -/
import Derived.Test.YtnfagcccgmakdaaGreatP1
import Derived.Test.YtnfagcccgmakdaaGreatP7
import Derived.Test.YtnfagcccgmakdaaGreatP6
import Derived.Test.YtnfagcccgmakdaaGreatRows
import Derived.ProofKit
import Derived.JoinedOf
import Derived.OpenShut
set_option linter.all false
namespace Go.Wk
open Go.RowKit
set_option linter.unusedVariables false
structure Chg (L : List Nat) (w V : World) : Prop where
  os : V.os = w.os
  tape : V.tape = w.tape
  output : V.output = w.output
  size : w.heap.size ≤ V.heap.size
  block : ∀ k, k < w.heap.size → k ∉ L → V.heap[k]? = w.heap[k]?
theorem Chg.refl (L : List Nat) (w : World) : Chg L w w := ⟨rfl, rfl, rfl, Nat.le_refl _, fun _ _ _ => rfl⟩
theorem Chg.ext {L : List Nat} {w V V' : World} (h : Chg L w V) (hE : Ext V V') : Chg L w V' :=
  ⟨hE.os.trans h.os, hE.tape.trans h.tape, hE.output.trans h.output, Nat.le_trans h.size hE.size, fun k hk hn => (hE.block k (Nat.lt_of_lt_of_le hk h.size)).trans (h.block k hk hn)⟩
theorem Chg.drew {L : List Nat} {w V : World} (h : Chg L w V) : Chg L w V.drew := h.ext (Ext.refl V).drew
theorem Chg.alloc {L : List Nat} {w V : World} (h : Chg L w V) (o : Obj) : Chg L w (V.alloc o) := h.ext ((Ext.refl V).alloc o)
theorem Chg.setC {L : List Nat} {w V : World} (h : Chg L w V) {b k : Nat} {v : Value} (hb : b ∈ L) : Chg L w (V.setCell ⟨b, k, Option.none⟩ v) :=
  ⟨h.os, h.tape, h.output, by simpa using h.size, fun i hi hn => (Below.heap_setCell _ _ _ _ (fun e => hn (by rw [e]; exact hb))).trans (h.block i hi hn)⟩
theorem Chg.lt {w : World} {a : Addr} {v : Value} (h : w.cell? a = some v) : a.block < w.heap.size := cell_lt h
theorem Chg.cell {L : List Nat} {w V : World} (h : Chg L w V) {b i : Nat} {v : Value} (c : w.cell? ⟨b, i, none⟩ = some v) (hb : b ∉ L) : V.cell? ⟨b, i, none⟩ = some v :=
  (World.cell?_of_block (a := ⟨b, i, none⟩) (h.block b (cell_lt c) hb)).trans c
theorem Chg.fz {L : List Nat} {w V : World} (h : Chg L w V) {b i : Nat} {v : Value} (c : w.cell? ⟨b, i, none⟩ = some v) (f : ∀ k, w.frozen? ⟨b, k, none⟩ = false) (hb : b ∉ L) : ∀ k, V.frozen? ⟨b, k, none⟩ = false := fun k =>
  (World.frozen?_of_block (a := ⟨b, k, none⟩) (h.block b (cell_lt c) hb)).trans (f k)
theorem Chg.to {L : List Nat} {X w V : World} (x : Ext X w) (h : Chg L w V) (hL : ∀ b ∈ L, X.heap.size ≤ b) : Ext X V :=
  ⟨h.os.trans x.os, h.tape.trans x.tape, h.output.trans x.output, Nat.le_trans x.size h.size, fun k hk => (h.block k (Nat.lt_of_lt_of_le hk x.size) (fun hm => by have := hL k hm; omega)).trans (x.block k hk)⟩
theorem Chg.more {L L' : List Nat} {X w V : World} (x : Chg L' X w) (h : Chg L w V) (hL : ∀ b ∈ L, X.heap.size ≤ b ∨ b ∈ L') : Chg L' X V :=
  ⟨h.os.trans x.os, h.tape.trans x.tape, h.output.trans x.output, Nat.le_trans x.size h.size, fun k hk hn => (h.block k (Nat.lt_of_lt_of_le hk x.size) (fun hm => by rcases hL k hm with h1 | h1; omega; exact hn h1)).trans (x.block k hk hn)⟩
theorem Ext.fz {w V : World} (h : Ext w V) {b i : Nat} {v : Value} (c : w.cell? ⟨b, i, none⟩ = some v) (f : ∀ k, w.frozen? ⟨b, k, none⟩ = false) : ∀ k, V.frozen? ⟨b, k, none⟩ = false := fun k =>
  (World.frozen?_of_block (a := ⟨b, k, none⟩) (Below.block h b (cell_lt c))).trans (f k)
def nthV : List Value → Nat → Option Value
  | [], _ => none
  | v :: _, 0 => some v
  | _ :: l, i + 1 => nthV l i
theorem nthV_eq : ∀ (l : List Value) (i : Nat), nthV l i = l[i]?
  | [], i => by simp [nthV]
  | v :: l, 0 => rfl
  | v :: l, i + 1 => by rw [nthV, nthV_eq l i]; simp
theorem _root_.Go.World.ownsRow.ext {w w' : World} {base e size n : Nat} {v : Value} {xs : List Value} (h : w.ownsRow base e size v n xs) (hE : Ext w w') : w'.ownsRow base e size v n xs := by
  refine ⟨h.1, ?_⟩
  rcases h.2 with hn | ⟨g, cap, cur, rfl, hb, hg, rest⟩
  · exact .inl hn
  · exact .inr ⟨g, cap, cur, rfl, hb, (Below.block hE g (Array.getElem?_eq_some_iff.1 hg).1).trans hg, rest⟩
def RowC (w : World) (b : Nat) (e : TypeId) (cs : List Value) : Prop := w.heap[b]? = some (.cells cs.toArray e (0, 0))
theorem RowC.lt {w : World} {b : Nat} {e : TypeId} {cs : List Value} (h : RowC w b e cs) : b < w.heap.size := (Array.getElem?_eq_some_iff.1 h).1
theorem RowC.ext {w w' : World} {b : Nat} {e : TypeId} {cs : List Value} (h : RowC w b e cs) (hE : Ext w w') : RowC w' b e cs := (Below.block hE b h.lt).trans h
theorem RowC.cell {w : World} {b : Nat} {e : TypeId} {cs : List Value} (h : RowC w b e cs) (j : Nat) : w.cell? ⟨b, j, none⟩ = cs[j]? := by
  have := cell_of_row w b j cs.toArray e (0, 0) h
  simpa using this
theorem RowC.frozen {w : World} {b : Nat} {e : TypeId} {cs : List Value} (h : RowC w b e cs) (j : Nat) : w.frozen? ⟨b, j, none⟩ = false := by
  unfold World.frozen?; rw [h]; simp
theorem RowC.own {w : World} {b : Nat} {e : TypeId} {cs : List Value} (h : RowC w b e cs) {base size k c : Nat} (hb : base ≤ b) (hk : k ≤ c) (hc : c ≤ maxLen) (hl : cs.length = c * size) :
    w.ownsRow base e size (.slice (some ⟨b, 0, none⟩) k c) k (cs.take (k * size)) :=
  ⟨by have := Nat.mul_le_mul_right size hk; rw [List.length_take]; omega, .inr ⟨b, c, cs.toArray, rfl, hb, h, hk, hc, by simpa using hl, by simp⟩⟩
def setL (w : World) (b i : Nat) : List Value → World
  | [] => w
  | v :: vs => setL (w.setCell ⟨b, i, none⟩ v) b (i + 1) vs
theorem setL_size (b : Nat) : ∀ (vs : List Value) (w : World) (i : Nat), (setL w b i vs).heap.size = w.heap.size
  | [], _, _ => rfl
  | v :: vs, w, i => by rw [setL, setL_size b vs]; simp
theorem setL_heap (b : Nat) : ∀ (vs : List Value) (w : World) (i k : Nat), k ≠ b → (setL w b i vs).heap[k]? = w.heap[k]?
  | [], _, _, _, _ => rfl
  | v :: vs, w, i, k, h => by rw [setL, setL_heap b vs _ _ k h]; exact Below.heap_setCell _ _ _ _ h
theorem setL_frozen (b : Nat) : ∀ (vs : List Value) (w : World) (i : Nat) (a : Addr), (setL w b i vs).frozen? a = w.frozen? a
  | [], _, _, _ => rfl
  | v :: vs, w, i, a => by rw [setL, setL_frozen b vs]; exact World.frozen?_setCell ..
theorem setL_off (b : Nat) : ∀ (vs : List Value) (w : World) (i j : Nat), j < i ∨ i + vs.length ≤ j → (setL w b i vs).cell? ⟨b, j, none⟩ = w.cell? ⟨b, j, none⟩
  | [], _, _, _, _ => rfl
  | v :: vs, w, i, j, h => by
    rw [setL, setL_off b vs _ _ _ (by simp at h; omega)]
    exact World.cell?_setCell_other _ _ _ _ (by intro e; injection e with _ e; simp at h; omega)
theorem setL_on (b : Nat) : ∀ (vs : List Value) (w : World) (i : Nat), (∀ j, j < vs.length → (w.cell? ⟨b, i + j, none⟩).isSome = true) → ∀ j v, vs[j]? = some v → (setL w b i vs).cell? ⟨b, i + j, none⟩ = some v
  | [], _, _, _, j, v, h => by simp at h
  | u :: vs, w, i, hs, j, v, h => by
    have h0 := hs 0 (by simp)
    rw [setL]
    cases j with
    | zero =>
      simp at h; subst h
      rw [Nat.add_zero, setL_off b vs _ _ _ (by omega)]
      exact World.cell?_setCell_same' _ _ _ (by simpa using h0)
    | succ j =>
      have := setL_on b vs (w.setCell ⟨b, i, none⟩ u) (i + 1) (fun k hk => ?_) j v (by simpa using h)
      · rw [show i + (j + 1) = i + 1 + j by omega]; exact this
      · rw [World.cell?_setCell_other _ _ _ _ (by intro e; injection e with _ e; omega)]
        have := hs (k + 1) (by simp; omega)
        rw [show i + 1 + k = i + (k + 1) by omega]; exact this
theorem setL_row (b : Nat) : ∀ (vs : List Value) (w : World) (i : Nat) (cs : Array Value) (t : TypeId), w.heap[b]? = some (.cells cs t (0, 0)) → ∃ cs', (setL w b i vs).heap[b]? = some (.cells cs' t (0, 0)) ∧ cs'.size = cs.size
  | [], _, _, cs, _, h => ⟨cs, h, rfl⟩
  | v :: vs, w, i, cs, t, h => by
    have h1 : ∃ cs1, (w.setCell ⟨b, i, none⟩ v).heap[b]? = some (.cells cs1 t (0, 0)) ∧ cs1.size = cs.size := ⟨_, heap_setCell_same w b i cs t v h, by simp⟩
    obtain ⟨cs1, h1, e1⟩ := h1
    obtain ⟨cs', h2, e2⟩ := setL_row b vs _ (i + 1) cs1 t h1
    exact ⟨cs', h2, e2.trans e1⟩
structure Put (w V : World) (b i : Nat) (vs : List Value) : Prop where
  chg : Chg [b] w V
  same : V.heap.size ≤ w.heap.size ∧ w.heap.size ≤ V.heap.size
  new : ∀ j v, nthV vs j = some v → V.cell? ⟨b, i + j, none⟩ = some v
  old : ∀ j, j < i ∨ i + vs.length ≤ j → V.cell? ⟨b, j, none⟩ = w.cell? ⟨b, j, none⟩
  fz : ∀ a, V.frozen? a = w.frozen? a
  row : ∀ cs t, w.heap[b]? = some (.cells cs t (0, 0)) → ∃ cs', V.heap[b]? = some (.cells cs' t (0, 0)) ∧ cs'.size = cs.size
  eq : V = setL w b i vs
theorem setL_put {w : World} {b i : Nat} {vs : List Value} (hs : ∀ j, j < vs.length → (w.cell? ⟨b, i + j, none⟩).isSome = true) : Put w (setL w b i vs) b i vs := by
  have hos : ∀ (vs : List Value) (w : World) (i : Nat), (setL w b i vs).os = w.os ∧ (setL w b i vs).tape = w.tape ∧ (setL w b i vs).output = w.output := by
    intro vs
    induction vs with
    | nil => exact fun _ _ => ⟨rfl, rfl, rfl⟩
    | cons v vs ih => exact fun w i => ih _ _
  exact ⟨⟨(hos vs w i).1, (hos vs w i).2.1, (hos vs w i).2.2, by rw [setL_size]; exact Nat.le_refl _, fun k _ hk => setL_heap b vs w i k (by simpa using hk)⟩, ⟨by rw [setL_size]; exact Nat.le_refl _, by rw [setL_size]; exact Nat.le_refl _⟩, fun j v h => setL_on b vs w i hs j v (by rw [← nthV_eq]; exact h), fun j hj => setL_off b vs w i j hj, fun a => setL_frozen b vs w i a, fun cs t h => setL_row b vs w i cs t h, rfl⟩
theorem Put.cell {w V : World} {b i : Nat} {vs : List Value} (h : Put w V b i vs) {k j : Nat} {v : Value} (c : w.cell? ⟨k, j, none⟩ = some v) (hk : k ≠ b) : V.cell? ⟨k, j, none⟩ = some v := h.chg.cell c (by simpa using hk)
theorem Put.frz {w V : World} {b i : Nat} {vs : List Value} (h : Put w V b i vs) {k : Nat} (f : ∀ j, w.frozen? ⟨k, j, none⟩ = false) : ∀ j, V.frozen? ⟨k, j, none⟩ = false := fun j => (h.fz _).trans (f j)
theorem Put.to {X w V : World} {b i : Nat} {vs : List Value} (x : Ext X w) (h : Put w V b i vs) (hb : X.heap.size ≤ b) : Ext X V := Chg.to x h.chg (by simpa using hb)
theorem Put.more {L : List Nat} {X w V : World} {b i : Nat} {vs : List Value} (x : Chg L X w) (h : Put w V b i vs) (hb : X.heap.size ≤ b ∨ b ∈ L) : Chg L X V := Chg.more x h.chg (by simpa using hb)
structure New (w V : World) (n : Nat) (cs : Array Value) : Prop where
  at_ : w.heap.size = n
  ext : Ext w V
  size : V.heap.size ≤ n + 1 ∧ n + 1 ≤ V.heap.size
  cell : ∀ i v, nthV cs.toList i = some v → V.cell? ⟨n, i, none⟩ = some v
  fz : ∀ i, V.frozen? ⟨n, i, none⟩ = false
  row : ∃ t, V.heap[n]? = some (.cells cs t (0, 0))
theorem new_alloc (w : World) (cs : Array Value) (t : TypeId) : New w (w.alloc (.cells cs t)) w.heap.size cs :=
  ⟨rfl, (Ext.refl _).alloc _, ⟨by simp, by simp⟩, fun i v h => by rw [cell_nw]; rw [nthV_eq] at h; simpa using h, fun i => frozen_nw .., t, World.alloc_heap_new w _⟩
section
variable {F : Fence} {P : Program} {N : Nat} {gd : Nat → Option Nat} {K : (Nat → Value) → World → Prop} {ρ : Nat → Value} {w : World}
theorem Wops.absA {L : List Oper} {cs : Array Value} {t : TypeId} (h : ∀ V n, New w V n cs → Wops F P N gd K L ρ V) : Wops F P N gd K L ρ (w.alloc (.cells cs t)) := h _ _ (new_alloc w cs t)
theorem Mops.absA {S : List (List Oper × Option (Oper × Bool))} {cs : Array Value} {t : TypeId} (h : ∀ V n, New w V n cs → Mops F P N gd K S ρ V) : Mops F P N gd K S ρ (w.alloc (.cells cs t)) := h _ _ (new_alloc w cs t)
theorem Mops.absD {S : List (List Oper × Option (Oper × Bool))} (h : ∀ V, Ext w V → (V.heap.size ≤ w.heap.size ∧ w.heap.size ≤ V.heap.size) → Mops F P N gd K S ρ V) : Mops F P N gd K S ρ w.drew := h _ (Ext.refl w).drew ⟨Nat.le_refl _, Nat.le_refl _⟩
theorem Wops.absS {L : List Oper} {b i : Nat} (vs : List Value) (hs : ∀ j, j < vs.length → (w.cell? ⟨b, i + j, none⟩).isSome = true) (h : ∀ V, Put w V b i vs → Wops F P N gd K L ρ V) : Wops F P N gd K L ρ (setL w b i vs) := h _ (setL_put hs)
theorem Mops.absS {S : List (List Oper × Option (Oper × Bool))} {b i : Nat} (vs : List Value) (hs : ∀ j, j < vs.length → (w.cell? ⟨b, i + j, Option.none⟩).isSome = true) (h : ∀ V, Put w V b i vs → Mops F P N gd K S ρ V) : Mops F P N gd K S ρ (setL w b i vs) := h _ (setL_put hs)
theorem Wp.absS {c : Code} {ds : List Deferred} {Q : Post} {b i : Nat} (vs : List Value) (hs : ∀ j, j < vs.length → (w.cell? ⟨b, i + j, none⟩).isSome = true) (h : ∀ V, Put w V b i vs → Wp F P N c Q ρ ds V) : Wp F P N c Q ρ ds (setL w b i vs) := h _ (setL_put hs)
end
theorem somes {w : World} {b i : Nat} {vs : List Value} (l : List Value) (hl : vs.length ≤ l.length) (h : ∀ j v, l[j]? = some v → w.cell? ⟨b, i + j, none⟩ = some v) : ∀ j, j < vs.length → (w.cell? ⟨b, i + j, none⟩).isSome = true := fun j hj => by
  rw [h j (l[j]'(by omega)) (List.getElem?_eq_getElem _)]; rfl
@[reducible] def cellVal {w : World} {a : Addr} {v : Value} (_ : w.cell? a = some v) : Value := v
end Go.Wk
namespace Go.Proofs.YtnfagcccgmakdaaGreat
open Go.RowKit Go.Wk Go.Proofs
attribute [local irreducible] Go.Wk.Wops Go.Wk.Wp Go.Wk.Mtree Go.Wk.Mops
set_option maxHeartbeats 4000000
theorem RunsV.at {w : World} {B n c : Nat} {A : Option Addr} {rs : List Run} (h : RunsV w B (.slice A n c) rs) {k : Nat} (hk : k < rs.length) : ∃ b o A2 c2, A = some ⟨b, o, none⟩ ∧ w.cell? ⟨b, o + k * 3, none⟩ = some (.int .i64 rs[k].id) ∧ w.cell? ⟨b, o + k * 3 + 1, none⟩ = some (.int .i64 rs[k].arr) ∧
    w.cell? ⟨b, o + k * 3 + 2, none⟩ = some (.slice A2 rs[k].takes.length c2) ∧ IntsV w B (.slice A2 rs[k].takes.length c2) rs[k].takes := by
  obtain ⟨A', c', tv, hv, hx, ht, -⟩ := h
  injection hv with h1 h2 h3
  subst h1
  obtain ⟨b, o, rfl, -, hc⟩ := hx (by intro e; rw [e] at hk; exact absurd hk (Nat.not_lt_zero _))
  obtain ⟨A2, c2, e2⟩ := (ht k hk).slice
  have h3 := (hc k hk).2.2
  have h4 := ht k hk
  rw [e2] at h3 h4
  exact ⟨b, o, A2, c2, rfl, (hc k hk).1, (hc k hk).2.1, h3, h4⟩
end Go.Proofs.YtnfagcccgmakdaaGreat
namespace Go.Proofs.YtnfagcccgmakdaaGreat
open Go.RowKit Go.Wk Go.Proofs
attribute [local irreducible] Go.Wk.Wops Go.Wk.Wp Go.Wk.Mtree Go.Wk.Mops
set_option maxHeartbeats 4000000
def FewP (o : Ord) : Prop := (o.cop.length ≤ 30 ∧ o.runs.length ≤ 30 ∧ ∀ r ∈ o.runs, r.takes.length ≤ 30) ∧ ((o.cop.length ≤ 6 ∧ o.runs.length ≤ 6) ∨ checkS o ≠ 0)
instance (o : Ord) : Decidable (FewP o) := inferInstanceAs (Decidable (_ ∧ _))
end Go.Proofs.YtnfagcccgmakdaaGreat
namespace Go.Proofs.YtnfagcccgmakdaaGreat
open Go.RowKit Go.Wk Go.Proofs
attribute [local irreducible] Go.Wk.Wops Go.Wk.Wp Go.Wk.Mtree Go.Wk.Mops
set_option maxHeartbeats 4000000
def HoldW (w : World) (v : Value) (H : List (Nat × Nat)) : Prop := ∃ A c, v = .slice A H.length c ∧ ∀ k x, H[k]? = some x → ∃ b ob, A = some ⟨b, ob, none⟩ ∧ w.cell? ⟨b, ob + k * 2, none⟩ = some (.int .i64 (x.1 : Int)) ∧ w.cell? ⟨b, ob + k * 2 + 1, none⟩ = some (.int .i64 (x.2 : Int))
theorem HoldW.of {w : World} {B : Nat} {v : Value} {H : List (Nat × Nat)} (h : StintsV w B v (H.map zS)) : HoldW w v H := by
  obtain ⟨A, c, rfl, hx, -⟩ := h
  refine ⟨A, c, by rw [List.length_map], fun k x hk => ?_⟩
  obtain ⟨hl, he⟩ := List.getElem?_eq_some_iff.1 hk
  obtain ⟨b, ob, h1, h2, h3⟩ := hx (by intro e; rw [List.map_eq_nil_iff] at e; rw [e] at hl; exact absurd hl (Nat.not_lt_zero _))
  obtain ⟨h4, h5⟩ := h3 k (by rw [List.length_map]; exact hl)
  rw [List.getElem_map, he] at h4 h5
  exact ⟨b, ob, h1, h4, h5⟩
theorem HoldW.ext {w w' : World} {v : Value} {H : List (Nat × Nat)} (h : HoldW w v H) (hE : Ext w w') : HoldW w' v H := by
  obtain ⟨A, c, h1, h2⟩ := h
  refine ⟨A, c, h1, fun k x hk => ?_⟩
  obtain ⟨b, ob, h3, h4, h5⟩ := h2 k x hk
  exact ⟨b, ob, h3, hE.cell h4, hE.cell h5⟩
end Go.Proofs.YtnfagcccgmakdaaGreat
namespace Go.Proofs.YtnfagcccgmakdaaGreat
open Go.RowKit Go.Wk Go.Proofs
attribute [local irreducible] Go.Wk.Wops Go.Wk.Wp Go.Wk.Mtree Go.Wk.Mops
set_option maxHeartbeats 4000000
end Go.Proofs.YtnfagcccgmakdaaGreat
namespace Go.Proofs.YtnfagcccgmakdaaGreat
open Go.RowKit Go.Wk Go.Proofs
attribute [local irreducible] Go.Wk.Wops Go.Wk.Wp Go.Wk.Mtree Go.Wk.Mops
set_option maxHeartbeats 4000000
end Go.Proofs.YtnfagcccgmakdaaGreat
namespace Go.Proofs.YtnfagcccgmakdaaGreat
open Go.RowKit Go.Wk Go.Proofs
attribute [local irreducible] Go.Wk.Wops Go.Wk.Wp Go.Wk.Mtree Go.Wk.Mops
set_option maxHeartbeats 4000000
end Go.Proofs.YtnfagcccgmakdaaGreat
namespace Go.Proofs.YtnfagcccgmakdaaGreat
open Go.RowKit Go.Wk Go.Proofs
attribute [local irreducible] Go.Wk.Wops Go.Wk.Wp Go.Wk.Mtree Go.Wk.Mops
set_option maxHeartbeats 4000000
end Go.Proofs.YtnfagcccgmakdaaGreat
namespace Go.Proofs.YtnfagcccgmakdaaGreat
open Go.RowKit Go.Wk Go.Proofs
attribute [local irreducible] Go.Wk.Wops Go.Wk.Wp Go.Wk.Mtree Go.Wk.Mops
set_option maxHeartbeats 4000000
structure CopyG (w : World) (base : Nat) (a : OA) (o : Ord) : Prop where
  ord : OrdF w w.heap.size a o
  rC : RowB w a.cb 3 a.cc
  rR : 0 < o.n → RowB w a.rb 103 (a.rc * 3)
  rT : ∀ i, i < o.n → RowB w (a.tb i) 3 (a.tc i)
  zC : a.co = 0
  zR : a.ro = 0
  zT : ∀ i, i < o.n → a.to_ i = 0
  gC : base ≤ a.cb
  gR : 0 < o.n → base ≤ a.rb
  gT : ∀ i, i < o.n → base ≤ a.tb i
  ne : ∀ i, i < o.n → a.tb i ≠ a.cb
  inj : ∀ i j, i < o.n → j < o.n → a.tb i = a.tb j → i = j
def cOA (tb tc : Nat → Nat) : OA := ⟨0, 0, 0, none, 0, 0, 0, tb, fun _ => 0, tc⟩
structure CopJ (w wk : World) (S : Nat) (o : Ord) (b3 cb cc : Nat) (tb tc : Nat → Nat) (v : Value) (k : Nat) : Prop where
  ext : Ext w wk
  size : S ≤ wk.heap.size
  q2 : wk.cell? ⟨w.heap.size + 1, 0, none⟩ = some (.slice none 0 0) ∧ wk.cell? ⟨w.heap.size + 1, 1, none⟩ = some (.slice none 0 0) ∧ ∀ k, wk.frozen? ⟨w.heap.size + 1, k, none⟩ = false
  c0 : wk.cell? ⟨b3, 0, none⟩ = some (.slice (some ⟨cb, 0, none⟩) o.m cc)
  c1 : wk.cell? ⟨b3, 1, none⟩ = some v
  fz : ∀ k, wk.frozen? ⟨b3, k, none⟩ = false
  rC : RowB wk cb 3 cc
  cC : ∀ j, j < o.m → wk.cell? ⟨cb, j, none⟩ = some (.int .i64 (o.C j))
  own : wk.ownsRow S 103 3 v k (rcL (cOA tb tc) o id k)
  rT : ∀ i, i < k → RowB wk (tb i) 3 (tc i)
  cTT : ∀ i j, i < k → j < o.m → wk.cell? ⟨tb i, j, none⟩ = some (.int .i64 (o.T i j))
  cap : ∀ i, i < k → o.m ≤ tc i
  gT : ∀ i, i < k → S ≤ tb i
  up : ∀ i j, i < j → j < k → tb i < tb j
theorem CopJ.more {w wk w3 : World} {S : Nat} {o : Ord} {b3 cb cc : Nat} {tb tc : Nat → Nat} {v : Value} {k : Nat} (h : CopJ w wk S o b3 cb cc tb tc v k) (hE : Ext wk w3) : CopJ w w3 S o b3 cb cc tb tc v k := by
  have hb : b3 < wk.heap.size := cell_lt h.c0
  have hr : w.heap.size + 1 < wk.heap.size := cell_lt h.q2.1
  exact ⟨Below.trans h.ext (Below.mono hE h.ext.size), Nat.le_trans h.size hE.size, ⟨hE.cell h.q2.1, hE.cell h.q2.2.1, fz_ext hE hr h.q2.2.2⟩, hE.cell h.c0, hE.cell h.c1, fz_ext hE hb h.fz, h.rC.ext hE, fun j hj => hE.cell (h.cC j hj), ownsRow_ext h.own hE, fun i hi => (h.rT i hi).ext hE, fun i j hi hj => hE.cell (h.cTT i j hi hj), h.cap, h.gT, h.up⟩
theorem rcL_same {o : Ord} {tb tc tb' tc' : Nat → Nat} : ∀ k, (∀ i, i < k → tb i = tb' i ∧ tc i = tc' i) → rcL (cOA tb tc) o id k = rcL (cOA tb' tc') o id k
  | 0, _ => rfl
  | k + 1, h => by
    rw [rcL_succ, rcL_succ, rcL_same k (fun i hi => h i (by omega))]
    obtain ⟨h1, h2⟩ := h k (Nat.lt_succ_self _)
    congr 1
    show [_, _, Value.slice (some ⟨tb k, 0, none⟩) o.m (tc k)] = [_, _, Value.slice (some ⟨tb' k, 0, none⟩) o.m (tc' k)]
    rw [h1, h2]
theorem CopJ.step {w w3 w4 : World} {S : Nat} {o : Ord} {b3 cb cc g c : Nat} {tb tc : Nat → Nat} {v v' : Value} {k : Nat} (h : CopJ w w3 S o b3 cb cc tb tc v k) (h3 : b3 < S) (h1 : w.heap.size + 1 < S) (h31 : w.heap.size + 1 < b3)
    (hg : RowB w3 g 3 c) (hgc : ∀ j, j < o.m → w3.cell? ⟨g, j, none⟩ = some (.int .i64 (o.T k j))) (hcap : o.m ≤ c) (hgS : S ≤ g) (hup : ∀ i, i < k → tb i < g)
    (hown : w4.ownsRow S 103 3 v' (k + 1) (rcL (cOA tb tc) o id k ++ [.int .i64 (o.ID k), .int .i64 (o.A k), .slice (some ⟨g, 0, none⟩) o.m c])) (hgr : w3.grownBy w4 v.ownBlock) (hcS : cb < S) (h3c : cb ≠ b3) :
    CopJ w (w4.setCell ⟨b3, 1, none⟩ v') S o b3 cb cc (fun i => if i = k then g else tb i) (fun i => if i = k then c else tc i) v' (k + 1) := by
  have nv : ∀ b, b < S → v.ownBlock ≠ some b := fun b hb e => by have := (World.ownsRow.lt h.own b e).1; omega
  have nr : ∀ {b n : Nat}, RowB w3 b 3 n → v.ownBlock ≠ some b := fun hr => row_own_ne hr h.own (by decide)
  have row : ∀ {b n : Nat}, RowB w3 b 3 n → RowB (w4.setCell ⟨b3, 1, none⟩ v') b 3 n := fun hr => (hr.grown hgr (nr hr)).set _ rfl _
  have cell : ∀ {b i : Nat} {u : Value}, v.ownBlock ≠ some b → b ≠ b3 → w3.cell? ⟨b, i, none⟩ = some u → (w4.setCell ⟨b3, 1, none⟩ v').cell? ⟨b, i, none⟩ = some u := fun hv hb hc => (setCell_blk (Ne.symm hb)).trans (hgr.cell hc (fun e => hv e.symm))
  have fz : ∀ {b : Nat} (k : Nat), b < S → b < w3.heap.size → w3.frozen? ⟨b, k, none⟩ = false → (w4.setCell ⟨b3, 1, none⟩ v').frozen? ⟨b, k, none⟩ = false := fun k hb hl hf => by
    rw [World.frozen?_setCell]
    exact fz_same (hgr.block _ hl (fun e => nv _ hb e.symm)) hf
  have hb3 : b3 < w3.heap.size := cell_lt h.c0
  have hr1 : w.heap.size + 1 < w3.heap.size := cell_lt h.q2.1
  have hEw : Below w.heap.size w w4 := Below.grown h.ext h.own hgr (by omega) (Nat.le_refl _)
  refine ⟨Below.setCell hEw (by show w.heap.size ≤ b3; omega) _, by simp; exact Nat.le_trans h.size hgr.size, ⟨cell (nv _ h1) (by omega) h.q2.1, cell (nv _ h1) (by omega) h.q2.2.1, fun j => fz j h1 hr1 (h.q2.2.2 j)⟩, ?_, ?_, fun j => fz j h3 hb3 (h.fz j), row h.rC, fun j hj => cell (nr h.rC) (fun e => ?_) (h.cC j hj), ?_, ?_, ?_, ?_, ?_, ?_⟩
  · rw [setCell_off (by decide)]; exact hgr.cell h.c0 (fun e => nv _ h3 e.symm)
  · exact World.cell?_setCell_same' _ _ _ (by rw [hgr.cell h.c1 (fun e => nv _ h3 e.symm)]; rfl)
  · exact h3c e
  · rw [rcL_succ, show rcL (cOA (fun i => if i = k then g else tb i) (fun i => if i = k then c else tc i)) o id k = rcL (cOA tb tc) o id k from rcL_same k fun i hi => ⟨if_neg (by omega), if_neg (by omega)⟩]
    have e : rcs (cOA (fun i => if i = k then g else tb i) (fun i => if i = k then c else tc i)) o (id k) = [.int .i64 (o.ID k), .int .i64 (o.A k), .slice (some ⟨g, 0, none⟩) o.m c] := by
      show [_, _, Value.slice (some ⟨if k = k then g else tb k, 0, none⟩) o.m (if k = k then c else tc k)] = _
      rw [if_pos rfl, if_pos rfl]; rfl
    rw [e]
    exact ownsRow_setCell_below hown h3 _
  · intro i hi
    by_cases e : i = k
    · simp only [if_pos e]; exact row hg
    · simp only [if_neg e]; exact row (h.rT i (by omega))
  · intro i j hi hj
    by_cases e : i = k
    · subst e; simp only [if_pos]; exact cell (nr hg) (by omega) (hgc j hj)
    · simp only [if_neg e]; exact cell (nr (h.rT i (by omega))) (by have := h.gT i (by omega); omega) (h.cTT i j (by omega) hj)
  · intro i hi
    by_cases e : i = k
    · simp only [if_pos e]; exact hcap
    · simp only [if_neg e]; exact h.cap i (by omega)
  · intro i hi
    by_cases e : i = k
    · simp only [if_pos e]; exact hgS
    · simp only [if_neg e]; exact h.gT i (by omega)
  · intro i j hij hj
    by_cases e : j = k
    · subst e; simp only [if_pos, if_neg (show ¬ i = j by omega)]; exact hup i hij
    · simp only [if_neg e, if_neg (show ¬ i = k by omega)]; exact h.up i j hij (by omega)
theorem CopyG.other {w w' : World} {base : Nat} {a : OA} {o : Ord} (h : CopyG w base a o) (hs : w.heap.size ≤ w'.heap.size) (hb : ∀ k, (k = a.cb ∨ (0 < o.n ∧ k = a.rb) ∨ ∃ i, i < o.n ∧ k = a.tb i) → w'.heap[k]? = w.heap[k]?) : CopyG w' base a o := by
  have bC := hb a.cb (.inl rfl)
  have bR : 0 < o.n → w'.heap[a.rb]? = w.heap[a.rb]? := fun h' => hb a.rb (.inr (.inl ⟨h', rfl⟩))
  have bT : ∀ i, i < o.n → w'.heap[a.tb i]? = w.heap[a.tb i]? := fun i hi => hb _ (.inr (.inr ⟨i, hi, rfl⟩))
  have hO := h.ord
  exact { h with
    ord := { hO.more hs with
      hC := fun j hj => (World.cell?_of_block (a := ⟨a.cb, a.co + j, none⟩) bC).trans (hO.hC j hj)
      hI := fun i hi => (World.cell?_of_block (a := ⟨a.rb, a.ro + i * 3, none⟩) (bR (by omega))).trans (hO.hI i hi)
      hA := fun i hi => (World.cell?_of_block (a := ⟨a.rb, a.ro + i * 3 + 1, none⟩) (bR (by omega))).trans (hO.hA i hi)
      hT := fun i hi => (World.cell?_of_block (a := ⟨a.rb, a.ro + i * 3 + 2, none⟩) (bR (by omega))).trans (hO.hT i hi)
      hTT := fun i j hi hj => (World.cell?_of_block (a := ⟨a.tb i, a.to_ i + j, none⟩) (bT i hi)).trans (hO.hTT i j hi hj) }
    rC := h.rC.of_block bC
    rR := fun h' => (h.rR h').of_block (bR h')
    rT := fun i hi => (h.rT i hi).of_block (bT i hi) }
theorem CopyG.ext {w w' : World} {base : Nat} {a : OA} {o : Ord} (h : CopyG w base a o) (hE : Ext w w') : CopyG w' base a o :=
  h.other hE.size fun k hk => by
    rcases hk with rfl | ⟨h', rfl⟩ | ⟨i, hi, rfl⟩
    · exact hE.block _ h.rC.lt
    · exact hE.block _ (h.rR h').lt
    · exact hE.block _ (h.rT i hi).lt
end Go.Proofs.YtnfagcccgmakdaaGreat
namespace Go.Proofs.YtnfagcccgmakdaaGreat
open Go.RowKit Go.Wk Go.Proofs
attribute [local irreducible] Go.Wk.Wops Go.Wk.Wp Go.Wk.Mtree Go.Wk.Mops
set_option maxHeartbeats 4000000
theorem CopyG.setC {w : World} {base : Nat} {a : OA} {o : Ord} (h : CopyG w base a o) {j : Nat} (hj : j < o.m) {c : Int} (hc : 1 ≤ c ∧ c ≤ 20) : CopyG (w.setCell ⟨a.cb, j, none⟩ (.int .i64 c)) base a (o.setC j c) := by
  have hO := h.ord
  have z1 := h.zC
  have ncr : 0 < o.n → a.cb ≠ a.rb := fun h' => h.rC.ne (h.rR h') (by decide)
  have row : ∀ {b n : Nat} {e : TypeId}, RowB w b e n → RowB (w.setCell ⟨a.cb, j, none⟩ (.int .i64 c)) b e n := fun hr => hr.set _ rfl _
  have e1 : (o.setC j c).m = o.m := setC_m j c
  have e2 : (o.setC j c).n = o.n := rfl
  refine ⟨⟨by rw [e1]; exact hO.hm1, by rw [e1]; exact hO.hm2, hO.hn2, fun j' hj' => ?_, hO.hr, fun i hi => (setCell_blk (ncr (by omega))).trans (hO.hI i hi), fun i hi => (setCell_blk (ncr (by omega))).trans (hO.hA i hi), fun i hi => by rw [e1]; exact (setCell_blk (ncr (by omega))).trans (hO.hT i hi), fun i j' hi hj' => (setCell_blk (Ne.symm (h.ne i hi))).trans (hO.hTT i j' hi (by rw [e1] at hj'; exact hj')), by simpa using hO.bC, fun hn => by simpa using hO.bR hn, fun i hi => by simpa using hO.bT i hi, by rw [e1]; exact hO.hcc, hO.hrc, fun i hi => by rw [e1]; exact hO.htc i hi, fun j' hj' => ?_, hO.vA, fun i j' hi hj' => hO.vT i j' hi (by rw [e1] at hj'; exact hj')⟩, row h.rC, fun h' => row (h.rR h'), fun i hi => row (h.rT i hi), h.zC, h.zR, h.zT, h.gC, h.gR, h.gT, h.ne, h.inj⟩
  · rw [e1] at hj'
    rw [z1, Nat.zero_add, setC_C c hj]
    by_cases e : j' = j
    · subst e; rw [if_pos rfl]
      exact World.cell?_setCell_same' _ _ _ (by have := hO.hC j' hj'; rw [z1, Nat.zero_add] at this; rw [this]; rfl)
    · rw [if_neg e, setCell_off (Ne.symm e)]
      have := hO.hC j' hj'; rwa [z1, Nat.zero_add] at this
  · rw [e1] at hj'; rw [setC_C c hj]; split
    · exact hc
    · exact hO.vC j' hj'
end Go.Proofs.YtnfagcccgmakdaaGreat
namespace Go.Proofs.YtnfagcccgmakdaaGreat
open Go.RowKit Go.Wk Go.Proofs
attribute [local irreducible] Go.Wk.Wops Go.Wk.Wp Go.Wk.Mtree Go.Wk.Mops
set_option maxHeartbeats 4000000
end Go.Proofs.YtnfagcccgmakdaaGreat
namespace Go.Proofs.YtnfagcccgmakdaaGreat
open Go.RowKit Go.Wk Go.Proofs
attribute [local irreducible] Go.Wk.Wops Go.Wk.Wp Go.Wk.Mtree Go.Wk.Mops
set_option maxHeartbeats 4000000
theorem OrderV.aO {w : World} {B : Nat} {L1 L2 : Option Addr} {k1 d1 k2 d2 : Nat} {o : Ord} (h : OrderV w B (.agg #[.slice L1 k1 d1, .slice L2 k2 d2]) o) (hg : OrdGood o) :
    ∃ p : OA, L1 = some ⟨p.cb, p.co, none⟩ ∧ k1 = o.m ∧ d1 = p.cc ∧ L2 = p.rA ∧ k2 = o.n ∧ d2 = p.rc ∧ OrdF w B p o := by
  obtain ⟨p, hcv, hrv, hO⟩ := h.ordF2 hg
  simp only [OA.cv, OA.rv] at hcv hrv
  injection hcv with p1 p2 p3
  injection hrv with p4 p5 p6
  exact ⟨p, p1, p2, p3, p4, p5, p6, hO⟩
end Go.Proofs.YtnfagcccgmakdaaGreat
namespace Go.Proofs.YtnfagcccgmakdaaGreat
open Go.RowKit Go.Wk Go.Proofs
attribute [local irreducible] Go.Wk.Wops Go.Wk.Wp Go.Wk.Mtree Go.Wk.Mops
set_option maxHeartbeats 4000000
end Go.Proofs.YtnfagcccgmakdaaGreat
namespace Go.Proofs.YtnfagcccgmakdaaGreat
open Go.RowKit Go.Wk Go.Proofs
attribute [local irreducible] Go.Wk.Wops Go.Wk.Wp Go.Wk.Mtree Go.Wk.Mops
set_option maxHeartbeats 4000000
end Go.Proofs.YtnfagcccgmakdaaGreat
namespace Go.Proofs.YtnfagcccgmakdaaGreat
open Go.RowKit Go.Wk Go.Proofs
attribute [local irreducible] Go.Wk.Wops Go.Wk.Wp Go.Wk.Mtree Go.Wk.Mops
set_option maxHeartbeats 4000000
theorem OwnS.ext {w V : World} {base : Nat} {v : Value} {xs : List (Int × Int)} (h : OwnS w base v xs) (hE : Ext w V) : OwnS V base v xs := World.ownsRow.ext h hE
theorem OwnS.lt {w : World} {base : Nat} {v : Value} {xs : List (Int × Int)} (h : OwnS w base v xs) : ∀ k, v.ownBlock = some k → base ≤ k ∧ k < w.heap.size := World.ownsRow.lt h
end Go.Proofs.YtnfagcccgmakdaaGreat
namespace Go.Proofs.YtnfagcccgmakdaaGreat
open Go.RowKit Go.Wk Go.Proofs
attribute [local irreducible] Go.Wk.Wops Go.Wk.Wp Go.Wk.Mtree Go.Wk.Mops
set_option maxHeartbeats 4000000
end Go.Proofs.YtnfagcccgmakdaaGreat
namespace Go.Proofs.YtnfagcccgmakdaaGreat
open Go.RowKit Go.Wk Go.Proofs
attribute [local irreducible] Go.Wk.Wops Go.Wk.Wp Go.Wk.Mtree Go.Wk.Mops
set_option maxHeartbeats 4000000
theorem appendSeq_c (gf : Nat) (lb : Array Value) (xs : List (Nat × Nat)) (D : World → Prop) (w : World) (hit : Iter Tryz.prog gf lb encS D xs) (heg : ∀ args w, (callFunc gf args).run Tryz.prog w = .ok (.enter gf args) w)
    (hD : ∀ W, Ext w W → D W) (hl : xs.length ≤ 1000) :
    CallsV Tryz.prog 158 #[.slice none 0 0, .func (.func gf) #[] lb] w fun v w' => OwnS w' w.heap.size v (xs.map zS) ∧ Ext w w' := by
  refine Wp.fnM Tryz.func158 rfl Tryz.ntmps158 (by simp) ?_
  refine Wp.keep [0, 1] fun r1 hkeep => ?_
  obtain ⟨e0_1, e1_1, -⟩ := hkeep
  simp [go_sem] at e0_1 e1_1
  have q2 := Boxed.new w 45 (.slice none 0 0)
  refine Wp.seqRegion (.inl rfl) (by kernel_rfl) fun K' gd hK hg => ?_
  clear hg
  go_simp
  refine hK _ _ ?_
  clear hK K' gd
  refine Wp.keep [1, 2] fun r2 hkeep => ?_
  obtain ⟨e1_2, e2_2, -⟩ := hkeep
  simp [go_sem, e0_1, e1_1] at e1_2 e2_2
  clear e0_1 e1_1
  refine Wp.seq ?_
  refine Wp.seqRegion (.inl rfl) (by kernel_rfl) fun K' gd hK hg => ?_
  clear hg
  go_simp
  refine hK _ _ ?_
  clear hK K' gd
  refine Wp.keep [2, 6] fun r3 hkeep => ?_
  obtain ⟨e2_3, e6_3, -⟩ := hkeep
  simp [go_sem, e1_2, e2_2] at e2_3 e6_3
  clear e1_2 e2_2
  refine Wp.block ?_
  refine Wp.range (hit) (by go_simp) (heg) (fun _ => rfl) (fun k W => Ext w W ∧ w.heap.size + 1 ≤ W.heap.size ∧ (∃ v5, Boxed W w.heap.size 45 v5 ∧ OwnS W (w.heap.size + 1) v5 ((xs.take k).map zS))) (fun _ _ => False) ?_ ?_ ?_ ?_ ?_ ?_ ?_
  · exact fun k W h => hD W h.1
  · exact fun k W W' hA ⟨h1, hz, ⟨v5, h2, h3⟩⟩ => ⟨hA.below h1 (Nat.le_refl _) (by simp), Nat.le_trans hz hA.size, ⟨v5, Boxed.adm h2 hA, ownsRow_adm h3 hA⟩⟩
  · exact fun _ _ _ _ h => h
  · exact ⟨(Ext.refl _).alloc _, by simp, ⟨_, q2, World.ownsRow_nil _ _ _ _⟩⟩
  · rintro l k x W hx ⟨i1, iz, ⟨v5, i2, i3⟩⟩ hl
    simp only [encS, List.zip_toArray, List.zip_cons_cons, List.zip_nil_left, putL_cons, putL_nil]
    refine Wp.keep [2, 7] fun r4 hkeep => ?_
    obtain ⟨e2_4, e7_4, -⟩ := hkeep
    simp [go_sem, e2_3, e6_3] at e2_4 e7_4
    refine Wp.loneRegion (.inr ⟨_, rfl⟩) (by kernel_rfl) fun K' gd hK hg => ?_
    clear hg
    go_simp
    refine hK _ _ ?_
    clear hK K' gd
    refine Ends.keep [2, 5] fun r5 hkeep => ?_
    obtain ⟨e2_5, e5_5, -⟩ := hkeep
    simp [go_sem, e2_4, e7_4] at e2_5 e5_5
    clear e2_4 e7_4
    refine Ends.mk ?_
    refine thenK_normal ?_
    refine ⟨KeepsOthers.alloc _ _, fun W2 hA2 hl2 => ?_⟩
    obtain ⟨lr, hl2⟩ := hl2
    have hA3 := (Adm.of_ext ((Ext.refl W).alloc _)).trans hA2
    have j1 := hA3.below i1 (Nat.le_refl _) (by simp)
    have j2 := Boxed.adm i2 hA3
    have j3 := ownsRow_adm i3 hA3
    have jz := Nat.le_trans iz hA3.size
    have f3 := hA2.cell (cell_nw W #[.int .i64 (x.1 : Int), .int .i64 (x.2 : Int)] 56 0)
    have f4 := hA2.cell (cell_nw W #[.int .i64 (x.1 : Int), .int .i64 (x.2 : Int)] 56 1)
    have l7 := j2.cell
    have hlen : ((xs.take k).map zS).length ≤ 1000000 := by rw [List.length_map, List.length_take]; omega
    refine Wp.block ?_
    refine Wp.loneRegion (.inr ⟨_, rfl⟩) (by kernel_rfl) fun K' gd hK hg => ?_
    clear hg
    refine Wops.cut 3 fun K1 hK1 => ?_
    simp only [List.take_succ_cons, List.take_zero]
    go_simp
    refine hK1 _ _ ?_
    clear hK1 K1
    simp only [List.drop_succ_cons, List.drop_zero]
    obtain ⟨v', w', hrun, hown, hgr, -⟩ := app_run stints_T (ownsRow_ext j3 ((Ext.refl W2).alloc (.cells #[.int .i64 (x.1 : Int), .int .i64 (x.2 : Int)] 56))) ⟨W2.heap.size, 0, none⟩ 1 1 [.int .i64 (x.1 : Int), .int .i64 (x.2 : Int)] 45 rfl (news_two (cell_nw W2 #[.int .i64 (x.1 : Int), .int .i64 (x.2 : Int)] 56 0) (cell_nw W2 #[.int .i64 (x.1 : Int), .int .i64 (x.2 : Int)] 56 1)) (oneCell_ints (by simp)) (by omega) (by simp; omega)
    rw [List.length_map, List.length_take] at hown
    obtain ⟨g, cap, rfl⟩ := ownsRow_succ hown
    have hap := Boxed.appended j2 (by decide) (ownsRow_less j3 (b2 := w.heap.size) (by omega)) (by omega) (by omega) (ownsRow_less hown (b2 := w.heap.size) (by omega)) hgr
    have q7 := hap.1.cell
    have q8 := hap.1.frozen
    refine Wops.law rfl (exec_append2 rfl hrun (by go_simp) (by go_simp)) ?_
    go_simp
    refine hK _ _ ?_
    clear hK K' gd
    refine Ends.keep [] fun r6 hkeep => ?_
    clear hkeep
    clear e2_5 e5_5
    refine Ends.mk ?_
    refine blockK_normal ?_
    refine ⟨hap.2.2.2.1, j1.trans hap.2.2.2.2, Nat.le_trans jz hap.2.2.2.1.size, ⟨_, hap.2.1, ?_⟩⟩
    rw [List.take_add_one, hx, List.map_append]
    show World.ownsRow _ _ _ _ _ _ _
    rw [show (some x).toList.map zS = [zS x] from rfl, encL_add, List.length_append, List.length_map, List.length_take]
    exact World.ownsRow.kept hown (grownBy_setCell' w' _ _) (.inr (hap.1.not_row (by decide) hown).symm)
  · rintro rm W hrm ⟨i1, iz, ⟨v5, i2, i3⟩⟩ hmk
    refine blockK_normal ?_
    refine thenK_normal ?_
    have i7 := i2.cell
    refine Wp.seqRegion (.inl rfl) (by kernel_rfl) fun K' gd hK hg => ?_
    clear hg
    go_simp
    refine hK _ _ ?_
    clear hK K' gd
    refine Wp.keep [4] fun r7 hkeep => ?_
    obtain ⟨e4_7, -⟩ := hkeep
    simp [go_sem, e2_3, e6_3] at e4_7
    clear e2_3 e6_3
    refine Wp.ret ?_
    refine endM_tmp Tryz.results158 (by decide) ((Marks.one (by first | omega | (simp at hrm; omega)) hmk)) fun wz hS => ?_
    rw [e4_7]
    rw [List.take_length] at i3
    exact ⟨ownsRow_less (ownsRow_shut i3 hS) (by omega), Shut.ext i1 hS⟩
  · rintro rm c W hrm hf hmk
    exact hf.elim
theorem collect_c (gf : Nat) (lb : Array Value) (xs : List (Nat × Nat)) (D : World → Prop) (w : World) (hit : Iter Tryz.prog gf lb encS D xs) (heg : ∀ args w, (callFunc gf args).run Tryz.prog w = .ok (.enter gf args) w)
    (hD : ∀ W, Ext w W → D W) (hl : xs.length ≤ 1000) :
    CallsV Tryz.prog 148 #[.func (.func gf) #[] lb] w fun v w' => OwnS w' w.heap.size v (xs.map zS) ∧ Ext w w' := by
  refine Wp.fn Tryz.func148 rfl Tryz.ntmps148 (by simp) ?_
  have xw := Ext.refl w
  refine Wp.keep [0] fun r1 hkeep => ?_
  obtain ⟨e0_1, -⟩ := hkeep
  simp [go_sem] at e0_1
  refine Wp.seqRegion (.inl rfl) (by kernel_rfl) fun K' gd hK hg => ?_
  clear hg
  go_simp
  refine hK _ _ ?_
  clear hK K' gd
  refine Wp.keep [0] fun r2 hkeep => ?_
  obtain ⟨e0_2, -⟩ := hkeep
  simp [go_sem, e0_1] at e0_2
  clear e0_1
  refine Wp.seqRegion (.inl rfl) (by kernel_rfl) fun K' gd hK hg => ?_
  clear hg
  refine Wops.cut 2 fun K1 hK1 => ?_
  simp only [List.take_succ_cons, List.take_zero]
  go_simp
  refine Wcall (.inl rfl) (appendSeq_c gf lb xs D _ hit heg hD hl) ?_
  rintro v w2 ⟨hv, hE⟩
  go_simp
  refine hK1 _ _ ?_
  clear hK1 K1
  simp only [List.drop_succ_cons, List.drop_zero]
  have z3 := Below.size hE
  replace xw := Ext.trans xw hE
  clear hE
  go_simp
  refine hK _ _ ?_
  clear hK K' gd
  refine Wp.keep [2] fun r4 hkeep => ?_
  obtain ⟨e2_4, -⟩ := hkeep
  simp [go_sem, e0_2] at e2_4
  clear e0_2
  refine Wp.ret ?_
  refine endK_tmp Tryz.results148 (by decide) ?_
  rw [e2_4]
  exact ⟨hv, xw⟩
theorem indexS_c (v : Value) (l : List SZ) (s : SZ) (w : World) (hl : StintsV w w.heap.size v l) (hln : l.length ≤ 1000000) :
    CallsV Tryz.prog 157 #[v, .agg #[.int .i64 s.1, .int .i64 s.2]] w fun v w' => (∃ k : Int, v = .int .i64 k ∧ decide (0 ≤ k) = hasZ l s) ∧ Ext w w' := by
  obtain ⟨A1, e1, rfl, -⟩ := id hl
  obtain ⟨s1, s2⟩ := s
  refine Wp.fn Tryz.func157 rfl Tryz.ntmps157 (by simp) ?_
  have xw := Ext.refl w
  refine Wp.keep [0, 1] fun r1 hkeep => ?_
  obtain ⟨e0_1, e1_1, -⟩ := hkeep
  simp [go_sem] at e0_1 e1_1
  refine Wp.seqRegion (.inl rfl) (by kernel_rfl) fun K' gd hK hg => ?_
  clear hg
  refine Wops.cut 1 fun K1 hK1 => ?_
  simp only [List.take_succ_cons, List.take_zero]
  go_simp
  refine hK1 _ _ ?_
  clear hK1 K1
  simp only [List.drop_succ_cons, List.drop_zero]
  refine Wops.absA fun V3_1 n3 hV3_1 => ?_
  obtain ⟨q3, hV3_1, s3, kV3_1, f3, r3⟩ := hV3_1
  try simp only [q3] at kV3_1 f3 r3 ⊢
  replace xw := Ext.trans xw hV3_1
  have c3_0 := kV3_1 0 _ rfl
  have c3_1 := kV3_1 1 _ rfl
  clear kV3_1 hV3_1
  clear r3
  go_simp
  refine hK _ _ ?_
  clear hK K' gd
  refine Wp.keep [0, 3] fun r2 hkeep => ?_
  obtain ⟨e0_2, e3_2, -⟩ := hkeep
  simp [go_sem, e0_1, e1_1] at e0_2 e3_2
  clear e0_1 e1_1
  refine Wp.seq ?_
  refine Wp.seqRegion (.inl rfl) (by kernel_rfl) fun K' gd hK hg => ?_
  clear hg
  go_simp
  refine hK _ _ ?_
  clear hK K' gd
  refine Wp.keep [0, 3, 7, 8] fun r3 hkeep => ?_
  obtain ⟨e0_3, e3_3, e7_3, e8_3, -⟩ := hkeep
  simp [go_sem, e0_2, e3_2] at e0_3 e3_3 e7_3 e8_3
  clear e0_2 e3_2
  refine Wp.block ?_
  refine Wp.loop (fun k ρ ds wk => AllEq [0, 3, 7] ρ r3 ∧ ds = [] ∧ (Ext V3_1 wk) ∧ (ρ 8 = .int .i64 (k : Int) ∧ hasZ (l.take k) (s1, s2) = false)) (l.length) ?_ ?_
  · refine ⟨AllEq.refl _ _, rfl, Ext.refl _, ?_⟩
    exact ⟨by rw [e8_3]; rfl, rfl⟩
  · rintro k r4 _ wk hk ⟨hA, rfl, xl2, e8, hq⟩
    obtain ⟨e0_4, e3_4, e7_4, -⟩ := hA
    rw [e0_3] at e0_4
    rw [e3_3] at e3_4
    rw [e7_3] at e7_4
    have zxl2 := Below.size xl2
    replace f3 := Ext.fz xl2 c3_0 f3
    replace xw := Ext.trans xw xl2
    replace c3_0 := Ext.cell xl2 c3_0
    replace c3_1 := Ext.cell xl2 c3_1
    refine Wp.seqRegion (.inl rfl) (by kernel_rfl) fun K' gd hK hg => ?_
    clear hg
    go_simp
    refine hK _ _ ?_
    clear hK K' gd
    refine Wp.keep [0, 3, 7, 8, 9] fun r5 hkeep => ?_
    obtain ⟨e0_5, e3_5, e7_5, e8_5, e9_5, -⟩ := hkeep
    simp [go_sem, e0_4, e3_4, e7_4, e8] at e0_5 e3_5 e7_5 e8_5 e9_5
    clear e0_4 e3_4 e7_4 e8
    refine Wp.seq ?_
    by_cases h : k < l.length
    · refine Wp.condT (by go_simp) ?_
      obtain ⟨b1, o1, rfl, d1, d2⟩ := StintsV.at hl h
      have d1 := xw.cell d1
      have d2 := xw.cell d2
      have hht := hasZ_take l (s1, s2) h
      obtain ⟨⟨y1, y2⟩, hy0⟩ : ∃ y, l[k] = y := ⟨_, rfl⟩
      rw [hy0] at d1 d2 hht
      have b3 : (k : Int) < (l.length : Int) := by omega
      refine Wp.skip ?_
      refine thenK_normal ?_
      refine Wp.seq ?_
      refine Wp.block ?_
      refine Wp.seqRegion (.inl rfl) (by kernel_rfl) fun K' gd hK hg => ?_
      clear hg
      go_simp
      refine hK _ _ ?_
      clear hK K' gd
      refine Wp.keep [0, 3, 5, 7, 8] fun r6 hkeep => ?_
      obtain ⟨e0_6, e3_6, e5_6, e7_6, e8_6, -⟩ := hkeep
      simp [go_sem, e0_5, e3_5, e7_5, e8_5, e9_5] at e0_6 e3_6 e5_6 e7_6 e8_6
      clear e0_5 e3_5 e7_5 e8_5 e9_5
      by_cases he : s1 = y1
      · skip
        by_cases he2 : s2 = y2
        · skip
          subst he he2
          refine Wp.seqDraw (.inl rfl) mixed [([0, 1, 2, 3, 4], none), ([5], none)] (by kernel_rfl) fun K' gd hK hg => ?_
          clear hg
          simp only [pick, nth, List.map_cons, List.map_nil, Option.map_none, Option.map_some]
          refine Mops.absD fun D3 hD3 zD3 => ?_
          replace f3 := Ext.fz hD3 c3_0 f3
          replace xw := Ext.trans xw hD3
          replace xl2 := Ext.trans xl2 hD3
          replace c3_0 := Ext.cell hD3 c3_0
          replace c3_1 := Ext.cell hD3 c3_1
          replace d1 := Ext.cell hD3 d1
          replace d2 := Ext.cell hD3 d2
          clear hD3
          apply Mops.none
          · intro w' hE'
            have hC' := hE'.cellsS
            go_simp
            with_reducible rfl
          apply Mops.none
          · intro w' hE'
            have hC' := hE'.cellsS
            go_simp
            with_reducible rfl
          refine Mops.done ?_
          refine hK _ _ ?_
          clear hK K' gd
          refine Wp.keep [0, 3, 5, 7, 8, 16] fun r7 hkeep => ?_
          obtain ⟨e0_7, e3_7, e5_7, e7_7, e8_7, e16_7, -⟩ := hkeep
          simp [go_sem, e0_6, e3_6, e5_6, e7_6, e8_6] at e0_7 e3_7 e5_7 e7_7 e8_7 e16_7
          clear e0_6 e3_6 e5_6 e7_6 e8_6
          refine Wp.condT (by go_simp) ?_
          have hh : hasZ l (s1, s2) = true := by unfold hasZ; rw [List.any_eq_true]; exact ⟨(s1, s2), by rw [← hy0]; exact List.getElem_mem h, by simp⟩
          refine Wp.seqRegion (.inl rfl) (by kernel_rfl) fun K' gd hK hg => ?_
          clear hg
          go_simp
          refine hK _ _ ?_
          clear hK K' gd
          refine Wp.keep [4] fun r8 hkeep => ?_
          obtain ⟨e4_8, -⟩ := hkeep
          simp [go_sem, e0_7, e3_7, e5_7, e7_7, e8_7, e16_7] at e4_8
          clear e0_7 e3_7 e5_7 e7_7 e8_7 e16_7
          refine Wp.ret ?_
          refine blockK_ret ?_
          refine thenK_ret ?_
          refine thenK_ret ?_
          refine blockK_ret ?_
          refine thenK_ret ?_
          refine endK_tmp Tryz.results157 (by decide) ?_
          rw [e4_8]
          exact ⟨⟨k, rfl, by rw [hh]; exact decide_eq_true (by omega)⟩, xw⟩
        · skip
          subst he
          refine Wp.seqDraw (.inl rfl) mixed [([0, 1, 2, 3, 4], none), ([5], none)] (by kernel_rfl) fun K' gd hK hg => ?_
          clear hg
          simp only [pick, nth, List.map_cons, List.map_nil, Option.map_none, Option.map_some]
          refine Mops.absD fun D4 hD4 zD4 => ?_
          replace f3 := Ext.fz hD4 c3_0 f3
          replace xw := Ext.trans xw hD4
          replace xl2 := Ext.trans xl2 hD4
          replace c3_0 := Ext.cell hD4 c3_0
          replace c3_1 := Ext.cell hD4 c3_1
          replace d1 := Ext.cell hD4 d1
          replace d2 := Ext.cell hD4 d2
          clear hD4
          apply Mops.none
          · intro w' hE'
            have hC' := hE'.cellsS
            go_simp
            with_reducible rfl
          apply Mops.none
          · intro w' hE'
            have hC' := hE'.cellsS
            go_simp
            with_reducible rfl
          refine Mops.done ?_
          refine hK _ _ ?_
          clear hK K' gd
          refine Wp.keep [0, 3, 5, 7, 8, 16] fun r9 hkeep => ?_
          obtain ⟨e0_9, e3_9, e5_9, e7_9, e8_9, e16_9, -⟩ := hkeep
          simp [go_sem, e0_6, e3_6, e5_6, e7_6, e8_6] at e0_9 e3_9 e5_9 e7_9 e8_9 e16_9
          clear e0_6 e3_6 e5_6 e7_6 e8_6
          refine Wp.condF (by go_simp) ?_
          refine Wp.skip ?_
          refine blockK_normal ?_
          refine thenK_normal ?_
          refine Wp.loneRegion (.inl rfl) (by kernel_rfl) fun K' gd hK hg => ?_
          clear hg
          go_simp
          refine hK _ _ ?_
          clear hK K' gd
          refine Ends.keep [0, 3, 7, 8] fun r10 hkeep => ?_
          obtain ⟨e0_10, e3_10, e7_10, e8_10, -⟩ := hkeep
          simp [go_sem, e0_9, e3_9, e5_9, e7_9, e8_9, e16_9] at e0_10 e3_10 e7_10 e8_10
          clear e0_9 e3_9 e5_9 e7_9 e8_9 e16_9
          refine Ends.mk ?_
          refine thenK_normal ⟨by omega, ⟨by rw [e0_10, e0_3], by rw [e3_10, e3_3], by rw [e7_10, e7_3], trivial⟩, rfl, xl2, ?_⟩
          exact ⟨by rw [e8_10, IntWalk.i64_in _ (by omega)]; rfl, by rw [hht, hq, decide_eq_false (fun e => he2 (by injection e with _ e; exact e.symm))]; rfl⟩
      · skip
        refine Wp.seqDraw (.inl rfl) mixed [([0, 1, 2, 3, 4], none), ([5], none)] (by kernel_rfl) fun K' gd hK hg => ?_
        clear hg
        simp only [pick, nth, List.map_cons, List.map_nil, Option.map_none, Option.map_some]
        refine Mops.absD fun D5 hD5 zD5 => ?_
        replace f3 := Ext.fz hD5 c3_0 f3
        replace xw := Ext.trans xw hD5
        replace xl2 := Ext.trans xl2 hD5
        replace c3_0 := Ext.cell hD5 c3_0
        replace c3_1 := Ext.cell hD5 c3_1
        replace d1 := Ext.cell hD5 d1
        replace d2 := Ext.cell hD5 d2
        clear hD5
        apply Mops.none
        · intro w' hE'
          have hC' := hE'.cellsS
          go_simp
          with_reducible rfl
        apply Mops.none
        · intro w' hE'
          have hC' := hE'.cellsS
          go_simp
          with_reducible rfl
        refine Mops.done ?_
        refine hK _ _ ?_
        clear hK K' gd
        refine Wp.keep [0, 3, 5, 7, 8, 16] fun r11 hkeep => ?_
        obtain ⟨e0_11, e3_11, e5_11, e7_11, e8_11, e16_11, -⟩ := hkeep
        simp [go_sem, e0_6, e3_6, e5_6, e7_6, e8_6] at e0_11 e3_11 e5_11 e7_11 e8_11 e16_11
        clear e0_6 e3_6 e5_6 e7_6 e8_6
        refine Wp.condF (by go_simp) ?_
        refine Wp.skip ?_
        refine blockK_normal ?_
        refine thenK_normal ?_
        refine Wp.loneRegion (.inl rfl) (by kernel_rfl) fun K' gd hK hg => ?_
        clear hg
        go_simp
        refine hK _ _ ?_
        clear hK K' gd
        refine Ends.keep [0, 3, 7, 8] fun r12 hkeep => ?_
        obtain ⟨e0_12, e3_12, e7_12, e8_12, -⟩ := hkeep
        simp [go_sem, e0_11, e3_11, e5_11, e7_11, e8_11, e16_11] at e0_12 e3_12 e7_12 e8_12
        clear e0_11 e3_11 e5_11 e7_11 e8_11 e16_11
        refine Ends.mk ?_
        refine thenK_normal ⟨by omega, ⟨by rw [e0_12, e0_3], by rw [e3_12, e3_3], by rw [e7_12, e7_3], trivial⟩, rfl, xl2, ?_⟩
        exact ⟨by rw [e8_12, IntWalk.i64_in _ (by omega)]; rfl, by rw [hht, hq, decide_eq_false (fun e => he (by injection e with e _; exact e.symm))]; rfl⟩
    · refine Wp.condF (by go_simp) ?_
      obtain rfl : k = l.length := by omega
      refine Wp.exit ?_
      refine thenK_exit ?_
      refine thenK_exit ?_
      refine blockK_here ?_
      refine thenK_normal ?_
      refine Wp.seqRegion (.inl rfl) (by kernel_rfl) fun K' gd hK hg => ?_
      clear hg
      go_simp
      refine hK _ _ ?_
      clear hK K' gd
      refine Wp.keep [4] fun r13 hkeep => ?_
      obtain ⟨e4_13, -⟩ := hkeep
      simp [go_sem, e0_5, e3_5, e7_5, e8_5, e9_5] at e4_13
      clear e0_5 e3_5 e7_5 e8_5 e9_5
      refine Wp.ret ?_
      refine endK_tmp Tryz.results157 (by decide) ?_
      rw [e4_13]
      exact ⟨⟨-1, rfl, by rw [List.take_length] at hq; rw [hq]; rfl⟩, xw⟩
theorem containsS_c (v : Value) (l : List SZ) (s : SZ) (w : World) (hl : StintsV w w.heap.size v l) (hln : l.length ≤ 1000000) :
    CallsV Tryz.prog 147 #[v, .agg #[.int .i64 s.1, .int .i64 s.2]] w fun v w' => v = .bool (hasZ l s) ∧ Ext w w' := by
  obtain ⟨A1, e1, rfl, -⟩ := id hl
  obtain ⟨s1, s2⟩ := s
  refine Wp.fn Tryz.func147 rfl Tryz.ntmps147 (by simp) ?_
  have xw := Ext.refl w
  refine Wp.keep [0, 1] fun r1 hkeep => ?_
  obtain ⟨e0_1, e1_1, -⟩ := hkeep
  simp [go_sem] at e0_1 e1_1
  refine Wp.seqRegion (.inl rfl) (by kernel_rfl) fun K' gd hK hg => ?_
  clear hg
  refine Wops.cut 1 fun K1 hK1 => ?_
  simp only [List.take_succ_cons, List.take_zero]
  go_simp
  refine hK1 _ _ ?_
  clear hK1 K1
  simp only [List.drop_succ_cons, List.drop_zero]
  refine Wops.absA fun V3_1 n3 hV3_1 => ?_
  obtain ⟨q3, hV3_1, s3, kV3_1, f3, r3⟩ := hV3_1
  try simp only [q3] at kV3_1 f3 r3 ⊢
  replace xw := Ext.trans xw hV3_1
  have c3_0 := kV3_1 0 _ rfl
  have c3_1 := kV3_1 1 _ rfl
  clear kV3_1 hV3_1
  clear r3
  go_simp
  refine hK _ _ ?_
  clear hK K' gd
  refine Wp.keep [0, 3] fun r2 hkeep => ?_
  obtain ⟨e0_2, e3_2, -⟩ := hkeep
  simp [go_sem, e0_1, e1_1] at e0_2 e3_2
  clear e0_1 e1_1
  refine Wp.seqRegion (.inl rfl) (by kernel_rfl) fun K' gd hK hg => ?_
  clear hg
  refine Wops.cut 3 fun K1 hK1 => ?_
  simp only [List.take_succ_cons, List.take_zero]
  go_simp
  refine Wcall (.inl rfl) (indexS_c _ l (s1, s2) _ (hl.ext xw) hln) ?_
  rintro v w2 ⟨⟨k, rfl, hk⟩, hE⟩
  go_simp
  refine hK1 _ _ ?_
  clear hK1 K1
  simp only [List.drop_succ_cons, List.drop_zero]
  have z3 := Below.size hE
  replace f3 := Ext.fz hE c3_0 f3
  replace xw := Ext.trans xw hE
  replace c3_0 := Ext.cell hE c3_0
  replace c3_1 := Ext.cell hE c3_1
  clear hE
  go_simp
  refine hK _ _ ?_
  clear hK K' gd
  refine Wp.keep [4] fun r4 hkeep => ?_
  obtain ⟨e4_4, -⟩ := hkeep
  simp [go_sem, e0_2, e3_2] at e4_4
  clear e0_2 e3_2
  refine Wp.ret ?_
  refine endK_tmp Tryz.results147 (by decide) ?_
  rw [e4_4]
  exact ⟨by first | rw [hk] | simp [← hk], xw⟩
theorem behind_has {o : Ord} (ho : OrdOk o) {s t : Nat × Nat} (hs : s.1 < o.n ∧ s.2 < o.m) (ht : t.1 < o.n ∧ t.2 < o.m) : t ∈ behindL o s ↔ s ∈ beforeL o t := by
  obtain ⟨s1, s2⟩ := s
  obtain ⟨t1, t2⟩ := t
  have h1 := ho.vC s2 hs.2
  have h2 := ho.vC t2 ht.2
  simp only at hs ht h1 h2
  unfold behindL beforeL
  simp only [List.mem_append]
  constructor
  · rintro (h | h)
    · split at h
      · simp only [List.mem_singleton, Prod.mk.injEq] at h
        obtain ⟨rfl, rfl⟩ := h
        left; rw [if_pos (by omega)]; simp <;> omega
      · cases h
    · split at h
      · simp only [List.mem_singleton, Prod.mk.injEq] at h
        obtain ⟨rfl, rfl⟩ := h
        right; rw [if_pos (by omega)]; simp <;> omega
      · cases h
  · rintro (h | h)
    · split at h
      · simp only [List.mem_singleton, Prod.mk.injEq] at h
        obtain ⟨rfl, rfl⟩ := h
        left; rw [if_pos (by omega)]; simp <;> omega
      · cases h
    · split at h
      · simp only [List.mem_singleton, Prod.mk.injEq] at h
        obtain ⟨rfl, rfl⟩ := h
        right; rw [if_pos (by omega)]; simp <;> omega
      · cases h
theorem hasZ_mem (l : List SZ) (s : SZ) : hasZ l s = decide (s ∈ l) := by
  unfold hasZ
  by_cases h : s ∈ l
  · rw [decide_eq_true h, List.any_eq_true]; exact ⟨s, h, by simp⟩
  · rw [decide_eq_false h, Bool.eq_false_iff]
    intro e; obtain ⟨x, hx, hxs⟩ := List.any_eq_true.1 e
    exact h (by rw [← of_decide_eq_true hxs]; exact hx)
theorem zS_mem {l : List (Nat × Nat)} {x : Nat × Nat} : zS x ∈ l.map zS ↔ x ∈ l := by
  rw [List.mem_map]
  constructor
  · rintro ⟨y, hy, e⟩
    have : y = x := by
      unfold zS at e
      simp only [Prod.mk.injEq] at e
      obtain ⟨y1, y2⟩ := y
      obtain ⟨x1, x2⟩ := x
      simp only at e
      rw [show y1 = x1 by omega, show y2 = x2 by omega]
    rw [← this]; exact hy
  · exact fun h => ⟨x, h, rfl⟩
theorem hasZ_behind {o : Ord} (ho : OrdOk o) {s t : Nat × Nat} (hs : s.1 < o.n ∧ s.2 < o.m) (ht : t.1 < o.n ∧ t.2 < o.m) : hasZ ((behindL o s).map zS) (zS t) = hasZ (waitsZ o (zS t)) (zS s) := by
  rw [hasZ_mem, hasZ_mem]
  have e : waitsZ o (zS t) = (beforeL o t).map zS := by
    unfold waitsZ zS; simp
  rw [e]
  congr 1
  rw [zS_mem, zS_mem]
  exact propext (behind_has ho hs ht)
def showsR (o : Ord) (day : Int) (prev : SZ) (r : List SZ) : Int := if r.all (isSZ o) then showsF o day prev r else -1
theorem showsR_cons (o : Ord) (day : Int) (prev s : SZ) (r : List SZ) : showsR o day prev (s :: r) = if isSZ o s = true then (if hasZ (waitsZ o s) prev then showsR o (day + o.T prev.1.toNat prev.2.toNat) s r else -1) else -1 := by
  unfold showsR
  rw [List.all_cons, showsF_cons]
  by_cases h1 : isSZ o s = true
  · rw [if_pos h1, h1, Bool.true_and]
    by_cases h2 : r.all (isSZ o) = true
    · rw [if_pos h2, if_pos h2]
    · rw [if_neg h2, if_neg h2]; split <;> rfl
  · rw [if_neg h1, if_neg (by rw [Bool.and_eq_true]; exact fun h => h1 h.1)]
theorem showsV_cons (o : Ord) (s : SZ) (r : List SZ) : showsV o (s :: r) = if isSZ o s = true then (if s.2 = 0 then showsR o (o.A s.1.toNat) s r else -1) else -1 := by
  show (if (s :: r).all (isSZ o) then (if s.2 = 0 then showsF o (o.A s.1.toNat) s r else -1) else -1) = _
  unfold showsR
  rw [List.all_cons]
  by_cases h1 : isSZ o s = true
  · rw [if_pos h1, h1, Bool.true_and]
    by_cases h2 : r.all (isSZ o) = true
    · rw [if_pos h2, if_pos h2]
    · rw [if_neg h2, if_neg h2]; split <;> rfl
  · rw [if_neg h1, if_neg (by rw [Bool.and_eq_true]; exact fun h => h1 h.1)]
def leadN (o : Ord) (l : List SZ) : Int := if 0 ≤ showsV o l then showsV o l else 0
def leadB (o : Ord) (l : List SZ) : Bool := decide (0 ≤ showsV o l)
end Go.Proofs.YtnfagcccgmakdaaGreat
namespace Go.Proofs.YtnfagcccgmakdaaGreat
open Go.RowKit Go.Wk Go.Proofs
set_option maxHeartbeats 1000000
def lastZ (p : SZ) : List SZ → SZ
  | [] => p
  | s :: r => lastZ s r
theorem lastZ_get (p : SZ) : ∀ r : List SZ, (p :: r).getLast? = some (lastZ p r)
  | [] => rfl
  | s :: r => by
    rw [lastZ, ← lastZ_get s r]; rfl
theorem lastZ_append (p t : SZ) : ∀ r : List SZ, lastZ p (r ++ [t]) = t
  | [] => rfl
  | s :: r => by rw [List.cons_append, lastZ, lastZ_append s t r]
theorem showsR_nil (o : Ord) (d : Int) (p : SZ) : showsR o d p [] = d := rfl
theorem showsR_append {o : Ord} {t : SZ} (ht : isSZ o t = true) : ∀ (r : List SZ) (day : Int) (p : SZ), 0 ≤ showsR o day p r → hasZ (waitsZ o t) (lastZ p r) = true →
    showsR o day p (r ++ [t]) = showsR o day p r + o.T (lastZ p r).1.toNat (lastZ p r).2.toNat
  | [], day, p, _, hw => by
    rw [List.nil_append, showsR_cons, if_pos ht]
    unfold lastZ at hw ⊢
    rw [if_pos hw, showsR_nil, showsR_nil]
  | s :: r, day, p, h0, hw => by
    rw [List.cons_append, showsR_cons, showsR_cons] at *
    split
    · rename_i h1
      rw [if_pos h1] at h0
      split
      · rename_i h2
        rw [if_pos h2] at h0
        exact showsR_append ht r _ s h0 hw
      · rename_i h2; rw [if_neg h2] at h0; omega
    · rename_i h1; rw [if_neg h1] at h0; omega
theorem showsR_le {o : Ord} (ho : OrdOk o) : ∀ (r : List SZ) (day : Int) (p : Nat × Nat), p.1 < o.n ∧ p.2 < o.m → day ≤ begA o p.1 p.2 → 0 ≤ showsR o day (zS p) r →
    ∃ q : Nat × Nat, lastZ (zS p) r = zS q ∧ q.1 < o.n ∧ q.2 < o.m ∧ showsR o day (zS p) r ≤ begA o q.1 q.2
  | [], day, p, hp, hd, _ => ⟨p, rfl, hp.1, hp.2, hd⟩
  | s :: r, day, p, hp, hd, h0 => by
    rw [showsR_cons] at h0 ⊢
    split at h0
    · rename_i h1
      split at h0
      · rename_i h2
        rw [if_pos h1, if_pos h2]
        obtain ⟨i, j, hsi, hsj, hi, hj⟩ := isStint_nat h1
        obtain ⟨s1, s2⟩ := s
        simp only at hsi hsj
        subst hsi hsj
        have hm : p ∈ beforeL o (i, j) := by
          rw [hasZ_mem] at h2
          have := of_decide_eq_true h2
          have e : waitsZ o (((i : Nat) : Int), ((j : Nat) : Int)) = (beforeL o (i, j)).map zS := by unfold waitsZ; simp
          rw [e, zS_mem] at this
          exact this
        have hb : begA o p.1 p.2 + o.T p.1 p.2 ≤ begA o i j := by
          rw [begA_fill ho hi hj]
          exact mostL_ge_mem hm
        have := showsR_le ho r (day + o.T (zS p).1.toNat (zS p).2.toNat) (i, j) ⟨hi, hj⟩ (by
          show day + o.T ((p.1 : Nat) : Int).toNat ((p.2 : Nat) : Int).toNat ≤ _
          rw [Int.toNat_natCast, Int.toNat_natCast]; dsimp only; omega) h0
        exact this
      · omega
    · omega
theorem shows_le {o : Ord} (ho : OrdOk o) {l : List SZ} (h : 0 ≤ showsV o l) : ∃ q : Nat × Nat, l.getLast? = some (zS q) ∧ q.1 < o.n ∧ q.2 < o.m ∧ showsV o l ≤ begA o q.1 q.2 := by
  cases l with
  | nil => exact absurd (show (0 : Int) ≤ -1 from h) (by decide)
  | cons s r =>
    rw [showsV_cons] at h ⊢
    split at h
    · rename_i h1
      split at h
      · rename_i h2
        rw [if_pos h1, if_pos h2]
        obtain ⟨i, j, hsi, hsj, hi, hj⟩ := isStint_nat h1
        obtain ⟨s1, s2⟩ := s
        simp only at hsi hsj h2
        subst hsi hsj
        have hj0 : j = 0 := by omega
        subst hj0
        have hA : o.A i ≤ begA o i 0 := by
          rw [begA_fill ho hi hj, if_pos rfl]; exact mostL_ge
        obtain ⟨q, h3, h4, h5, h6⟩ := showsR_le ho r (o.A i) (i, 0) ⟨hi, hj⟩ hA h
        exact ⟨q, by rw [lastZ_get]; exact congrArg some h3, h4, h5, h6⟩
      · omega
    · omega
theorem mostL_attained {o : Ord} {t : Nat → Nat → Int} {first : Int} (xs : List (Nat × Nat)) : mostL o t first xs = first ∨ ∃ x ∈ xs, t x.1 x.2 + o.T x.1 x.2 = mostL o t first xs := by
  induction xs generalizing first with
  | nil => exact .inl rfl
  | cons x xs ih =>
    have e : mostL o t first (x :: xs) = mostL o t (max first (t x.1 x.2 + o.T x.1 x.2)) xs := rfl
    rw [e]
    rcases ih (first := max first (t x.1 x.2 + o.T x.1 x.2)) with h | ⟨y, hy, h⟩
    · rw [h]
      rcases Int.le_total first (t x.1 x.2 + o.T x.1 x.2) with h1 | h1
      · right; exact ⟨x, List.mem_cons_self, by omega⟩
      · left; omega
    · right; exact ⟨y, List.mem_cons_of_mem _ hy, h⟩
theorem sz_nat {o : Ord} {s : Nat × Nat} (h1 : s.1 < o.n) (h2 : s.2 < o.m) : isSZ o (zS s) = true := by
  unfold isSZ isStint zS
  rw [decide_eq_true (by dsimp only; omega), decide_eq_true (by dsimp only; omega)]; rfl
theorem path_shows {o : Ord} (ho : OrdOk o) : ∀ (f : Nat) (s : Nat × Nat), s.1 + s.2 ≤ f → s.1 < o.n → s.2 < o.m →
    ∃ p r, ((backF o f s).reverse).map zS = p :: r ∧ lastZ p r = zS s ∧ showsV o (p :: r) = begA o s.1 s.2 := by
  intro f
  induction f with
  | zero =>
    intro s h h1 h2
    have hs : s = (0, 0) := by obtain ⟨a, b⟩ := s; simp at h ⊢; exact h
    subst hs
    refine ⟨zS (0, 0), [], rfl, rfl, ?_⟩
    rw [showsV_cons, if_pos (sz_nat h1 h2), if_pos (by rfl), showsR_nil, begA_fill ho h1 h2]
    have hC := ho.vC 0 h2
    have hb : beforeL o (0, 0) = [] := by unfold beforeL; simp; omega
    rw [hb]; rfl
  | succ f ih =>
    intro s h h1 h2
    obtain ⟨i, j⟩ := s
    simp only at h h1 h2
    have hstep : backF o (f + 1) (i, j) = (i, j) :: (match nextS o (i, j) with | some x => backF o f x | none => []) := rfl
    cases hn : nextS o (i, j) with
    | none =>
      rw [hn] at hstep
      rw [hstep]
      have hno : ∀ x ∈ beforeL o (i, j), matchB o (i, j) x = false := fun x hx => by
        have := List.find?_eq_none.1 hn x hx
        simpa using this
      have hfill := begA_fill ho h1 h2
      rcases mostL_attained (o := o) (t := begA o) (first := if j = 0 then o.A i else 0) (beforeL o (i, j)) with h3 | ⟨x, hx, h3⟩
      · have hj0 : j = 0 := by
          rcases Nat.eq_zero_or_pos j with h4 | h4
          · exact h4
          · exfalso
            obtain ⟨k, rfl⟩ : ∃ k, j = k + 1 := ⟨j - 1, by omega⟩
            rw [if_neg (by omega)] at h3 hfill
            have h5 := mostL_ge_mem (o := o) (t := begA o) (first := 0) (before_piece o i k)
            have h6 := begA_ok ho h1 (show k < o.m by omega)
            have h7 := ho.vT i k h1 (by omega)
            dsimp only at h5
            omega
        subst hj0
        rw [if_pos rfl] at h3 hfill
        refine ⟨zS (i, 0), [], rfl, rfl, ?_⟩
        rw [showsV_cons, if_pos (sz_nat h1 h2), if_pos (by rfl), showsR_nil]
        show o.A ((i : Nat) : Int).toNat = begA o i 0
        rw [Int.toNat_natCast, hfill, h3]
      · exfalso
        have := hno x hx
        unfold matchB at this
        have := of_decide_eq_false this
        dsimp only at this
        exact this (by rw [hfill]; exact h3)
    | some x =>
      rw [hn] at hstep
      obtain ⟨hm, hlt⟩ := nextS_lt ho h2 hn
      have hb := beforeL_mem (i := i) (j := j) (ho.vC j h2).1 hm
      obtain ⟨p, r, e1, e2, e3⟩ := ih x (by simp only at hlt; omega) (by omega) (by omega)
      have hmx : begA o x.1 x.2 + o.T x.1 x.2 = begA o i j := by
        have := List.find?_some hn
        unfold matchB at this
        exact of_decide_eq_true this
      refine ⟨p, r ++ [zS (i, j)], ?_, lastZ_append _ _ _, ?_⟩
      · rw [hstep, List.reverse_cons, List.map_append, e1]; rfl
      · have h9 := begA_ok ho (show x.1 < o.n by omega) (show x.2 < o.m by omega)
        rw [showsV_cons] at e3 ⊢
        split at e3
        · rename_i h3
          split at e3
          · rename_i h4
            rw [if_pos h3, if_pos h4, showsR_append (sz_nat h1 h2) r _ p (by omega) ?_, e3, e2]
            · show _ + o.T ((x.1 : Nat) : Int).toNat ((x.2 : Nat) : Int).toNat = _
              rw [Int.toNat_natCast, Int.toNat_natCast]; exact hmx
            · rw [e2, hasZ_mem]
              have e : waitsZ o (zS (i, j)) = (beforeL o (i, j)).map zS := by unfold waitsZ zS; simp
              rw [e]
              exact decide_eq_true (zS_mem.2 hm)
          · omega
        · omega
theorem pathZ_shows {o : Ord} (ho : OrdOk o) {i j : Nat} (hi : i < o.n) (hj : j < o.m) : showsV o (pathZ o (i, j)) = begA o i j ∧ (pathZ o (i, j)).getLast? = some (zS (i, j)) := by
  obtain ⟨p, r, e1, e2, e3⟩ := path_shows ho (i + j) (i, j) (Nat.le_refl _) hi hj
  have e : pathZ o (i, j) = p :: r := e1
  rw [e, lastZ_get, e2]; exact ⟨e3, rfl⟩
end Go.Proofs.YtnfagcccgmakdaaGreat
namespace Go.Proofs.YtnfagcccgmakdaaGreat
open Go.RowKit Go.Wk Go.Proofs
attribute [local irreducible] Go.Wk.Wops Go.Wk.Wp Go.Wk.Mtree Go.Wk.Mops
set_option maxHeartbeats 4000000
theorem showsV_head (o : Ord) : ∀ (l : List SZ) (h : 0 < l.length), showsV o l = if isSZ o l[0] = true then (if l[0].2 = 0 then showsR o (o.A l[0].1.toNat) l[0] (l.drop 1) else -1) else -1
  | s :: r, _ => showsV_cons o s r
theorem leads_c (a : OA) (o : Ord) (v1 : Value) (l : List SZ) (w : World) (hO : OrdF w w.heap.size a o) (hg : OrdGood o) (hl : StintsV w w.heap.size v1 l) (hln : l.length ≤ 1000) :
    CallsV Tryz.prog 122 #[.agg #[a.cv o, a.rv o], v1] w fun v w' => v = .tuple #[.int .i64 (leadN o l), .bool (leadB o l)] ∧ Ext w w' := by
  have ho := hg.ok
  have hn := ho.hn2
  have hm := ho.hm2
  have hm1 := ho.hm1
  have hV : OrderV w w.heap.size (.agg #[a.cv o, a.rv o]) o := hO.orderV hg
  have hf := hg.fits
  obtain ⟨A1, e1, rfl, -⟩ := id hl
  have hno : ∀ {x : Int}, showsV o l = x → x < 0 → leadN o l = 0 ∧ leadB o l = false := fun h h' => by unfold leadN leadB; rw [h, if_neg (by omega), decide_eq_false (by omega)]; exact ⟨rfl, rfl⟩
  simp only [OA.cv, OA.rv] at hV ⊢
  refine Wp.fn Tryz.func122 rfl Tryz.ntmps122 (by simp) ?_
  have xw := Ext.refl w
  refine Wp.keep [0, 1] fun r1 hkeep => ?_
  obtain ⟨e0_1, e1_1, -⟩ := hkeep
  simp [go_sem] at e0_1 e1_1
  by_cases hl0 : l.length = 0
  · skip
    refine Wp.seqRegion (.inl rfl) (by kernel_rfl) fun K' gd hK hg => ?_
    clear hg
    refine Wops.cut 1 fun K1 hK1 => ?_
    simp only [List.take_succ_cons, List.take_zero]
    go_simp
    refine hK1 _ _ ?_
    clear hK1 K1
    simp only [List.drop_succ_cons, List.drop_zero]
    refine Wops.absA fun V2_1 n2 hV2_1 => ?_
    obtain ⟨q2, hV2_1, s2, kV2_1, f2, r2⟩ := hV2_1
    try simp only [q2] at kV2_1 f2 r2 ⊢
    replace xw := Ext.trans xw hV2_1
    have c2_0 := kV2_1 0 _ rfl
    have c2_1 := kV2_1 1 _ rfl
    clear kV2_1 hV2_1
    clear r2
    go_simp
    refine hK _ _ ?_
    clear hK K' gd
    refine Wp.keep [1, 2] fun r2 hkeep => ?_
    obtain ⟨e1_2, e2_2, -⟩ := hkeep
    simp [go_sem, e0_1, e1_1] at e1_2 e2_2
    clear e0_1 e1_1
    refine Wp.seq ?_
    refine Wp.seqDraw (.inl rfl) mixed [([0, 1, 2, 3], none), ([4, 5, 6, 7], some (8, false)), ([9, 10, 11], none), ([12, 13, 14, 15, 16], none), ([17], none)] (by kernel_rfl) fun K' gd hK hg => ?_
    have g3 : gd 3 = some 13 := hg 3
    have g11 : gd 11 = some 21 := hg 11
    clear hg
    simp only [pick, nth, List.map_cons, List.map_nil, Option.map_none, Option.map_some]
    refine Mops.absD fun D2 hD2 zD2 => ?_
    replace f2 := Ext.fz hD2 c2_0 f2
    replace xw := Ext.trans xw hD2
    replace c2_0 := Ext.cell hD2 c2_0
    replace c2_1 := Ext.cell hD2 c2_1
    clear hD2
    apply Mops.none
    · intro w' hE'
      have hC' := hE'.cellsS
      go_simp
      with_reducible rfl
    apply Mops.act
    · intro w' hE'
      have hC' := hE'.cellsS
      go_simp
      with_reducible rfl
    intro K1 hK1
    go_simp
    refine hK1 _ _ (Ext.refl _) ?_
    clear hK1 K1
    apply Mops.none
    · intro w' hE'
      have hC' := hE'.cellsS
      go_simp
      with_reducible rfl
    apply Mops.none
    · intro w' hE'
      have hC' := hE'.cellsS
      go_simp
      with_reducible rfl
    apply Mops.none
    · intro w' hE'
      have hC' := hE'.cellsS
      go_simp
      with_reducible rfl
    refine Mops.done ?_
    refine hK _ _ ?_
    clear hK K' gd g3 g11
    refine Wp.keep [1, 2, 27] fun r3 hkeep => ?_
    obtain ⟨e1_3, e2_3, e27_3, -⟩ := hkeep
    simp [go_sem, e1_2, e2_2] at e1_3 e2_3 e27_3
    clear e1_2 e2_2
    refine Wp.condT (by go_simp) ?_
    refine Wp.seqRegion (.inl rfl) (by kernel_rfl) fun K' gd hK hg => ?_
    clear hg
    go_simp
    refine hK _ _ ?_
    clear hK K' gd
    refine Wp.keep [4, 5] fun r4 hkeep => ?_
    obtain ⟨e4_4, e5_4, -⟩ := hkeep
    simp [go_sem, e1_3, e2_3, e27_3] at e4_4 e5_4
    clear e1_3 e2_3 e27_3
    refine Wp.ret ?_
    refine thenK_ret ?_
    refine endK_tmp2 Tryz.results122 (by decide) (by decide) ?_
    rw [e4_4, e5_4]
    have hs : showsV o l = -1 := by rw [List.eq_nil_of_length_eq_zero hl0]; rfl
    obtain ⟨h1, h2⟩ := hno hs (by omega); exact ⟨by rw [h1, h2], xw⟩
  · skip
    have hlp : 0 < l.length := by omega
    obtain ⟨b1, o1, rfl, d1, d2⟩ := StintsV.at hl hlp
    have lb : b1 < w.heap.size := cell_lt d1
    have d1 := xw.cell d1
    have d2 := xw.cell d2
    obtain ⟨⟨y1, y2⟩, hy0⟩ : ∃ y, l[0] = y := ⟨_, rfl⟩
    rw [hy0] at d1 d2
    rw [Nat.zero_mul, Nat.add_zero] at d1 d2
    have hsv : ∃ _u : Unit, showsV o l = if isSZ o (y1, y2) = true then (if y2 = 0 then showsR o (o.A y1.toNat) (y1, y2) (l.drop 1) else -1) else -1 := ⟨(), by rw [showsV_head o l hlp, hy0]⟩
    have hz : (0 : Int) < (l.length : Int) := by omega
    have hl0' : ¬ (l.length : Int) = 0 := by omega
    have p1 : w.cell? ⟨b1, o1, none⟩ = some (.int .i64 y1) := d1
    have p2 : w.cell? ⟨b1, o1 + 1, none⟩ = some (.int .i64 y2) := d2
    clear d1 d2
    by_cases hst : isStint o y1 y2 = true
    · skip
      by_cases hy : y2 = 0
      · skip
        subst hy
        refine Wp.seqRegion (.inl rfl) (by kernel_rfl) fun K' gd hK hg => ?_
        clear hg
        refine Wops.cut 1 fun K1 hK1 => ?_
        simp only [List.take_succ_cons, List.take_zero]
        go_simp
        refine hK1 _ _ ?_
        clear hK1 K1
        simp only [List.drop_succ_cons, List.drop_zero]
        refine Wops.absA fun V2_3 n2 hV2_3 => ?_
        obtain ⟨q2, hV2_3, s2, kV2_3, f2, r2⟩ := hV2_3
        try simp only [q2] at kV2_3 f2 r2 ⊢
        replace xw := Ext.trans xw hV2_3
        replace p1 := Ext.cell hV2_3 p1
        replace p2 := Ext.cell hV2_3 p2
        have c2_0 := kV2_3 0 _ rfl
        have c2_1 := kV2_3 1 _ rfl
        clear kV2_3 hV2_3
        clear r2
        go_simp
        refine hK _ _ ?_
        clear hK K' gd
        refine Wp.keep [1, 2] fun r5 hkeep => ?_
        obtain ⟨e1_5, e2_5, -⟩ := hkeep
        simp [go_sem, e0_1, e1_1] at e1_5 e2_5
        clear e0_1 e1_1
        refine Wp.seq ?_
        refine Wp.seqDraw (.inl rfl) mixed [([0, 1, 2, 3], none), ([4, 5, 6, 7], some (8, false)), ([9, 10, 11], none), ([12, 13, 14, 15, 16], none), ([17], none)] (by kernel_rfl) fun K' gd hK hg => ?_
        have g3 : gd 3 = some 13 := hg 3
        have g11 : gd 11 = some 21 := hg 11
        clear hg
        simp only [pick, nth, List.map_cons, List.map_nil, Option.map_none, Option.map_some]
        refine Mops.absD fun D4 hD4 zD4 => ?_
        replace f2 := Ext.fz hD4 c2_0 f2
        replace xw := Ext.trans xw hD4
        replace p1 := Ext.cell hD4 p1
        replace p2 := Ext.cell hD4 p2
        replace c2_0 := Ext.cell hD4 c2_0
        replace c2_1 := Ext.cell hD4 c2_1
        clear hD4
        apply Mops.none
        · intro w' hE'
          have hC' := hE'.cellsS
          go_simp
          with_reducible rfl
        apply Mops.act
        · intro w' hE'
          have hC' := hE'.cellsS
          go_simp
          with_reducible rfl
        intro K1 hK1
        go_simp
        refine Wcall (.inl rfl) (stint_c _ o y1 0 _ (hV.ext xw) hf) ?_
        rintro v w2 ⟨rfl, hE⟩
        rw [hst]
        go_simp
        refine hK1 _ _ (by assumption) ?_
        clear hK1 K1
        have z6 := Below.size hE
        replace f2 := Ext.fz hE c2_0 f2
        replace xw := Ext.trans xw hE
        replace p1 := Ext.cell hE p1
        replace p2 := Ext.cell hE p2
        replace c2_0 := Ext.cell hE c2_0
        replace c2_1 := Ext.cell hE c2_1
        clear hE
        apply Mops.none
        · intro w' hE'
          have hC' := hE'.cellsS
          go_simp
          with_reducible rfl
        apply Mops.none
        · intro w' hE'
          have hC' := hE'.cellsS
          go_simp
          with_reducible rfl
        apply Mops.none
        · intro w' hE'
          have hC' := hE'.cellsS
          go_simp
          with_reducible rfl
        refine Mops.done ?_
        refine hK _ _ ?_
        clear hK K' gd g3 g11
        refine Wp.keep [1, 2, 27] fun r7 hkeep => ?_
        obtain ⟨e1_7, e2_7, e27_7, -⟩ := hkeep
        simp [go_sem, e1_5, e2_5] at e1_7 e2_7 e27_7
        clear e1_5 e2_5
        refine Wp.condF (by go_simp) ?_
        obtain ⟨i, j, hy1, hy2, hi, hj⟩ := isStint_nat hst
        obtain rfl : j = 0 := by omega
        clear hy2
        subst hy1
        have hrA := hO.hr (by omega)
        have d3 := xw.cell (hO.hA i hi)
        have b2 : (i : Int) < (o.n : Int) := by omega
        have hAi := ho.vA i hi
        have lr : a.rb < w.heap.size := hO.bR (by omega)
        have hsv2 : ∃ _u : Unit, showsV o l = showsR o (o.A i) l[0] (l.drop 1) := ⟨(), by obtain ⟨-, h⟩ := hsv; rw [h, if_pos (show isSZ o (_, _) = true from hst), if_pos (by rfl), Int.toNat_natCast, hy0]⟩
        clear hsv
        have hcap : l.length ≤ e1 := (by obtain ⟨_, _, e, -, h⟩ := hl; injection e with e e2 e3; omega)
        by_cases h1 : l.length = 1
        · skip
          refine Wp.skip ?_
          refine thenK_normal ?_
          refine Wp.seqDraw (.inl rfl) mixed [([0, 1, 2, 3, 4], none), ([5, 6, 7, 8, 9], none)] (by kernel_rfl) fun K' gd hK hg => ?_
          clear hg
          simp only [pick, nth, List.map_cons, List.map_nil, Option.map_none, Option.map_some]
          refine Mops.absD fun D5 hD5 zD5 => ?_
          replace f2 := Ext.fz hD5 c2_0 f2
          replace xw := Ext.trans xw hD5
          replace p1 := Ext.cell hD5 p1
          replace p2 := Ext.cell hD5 p2
          replace c2_0 := Ext.cell hD5 c2_0
          replace c2_1 := Ext.cell hD5 c2_1
          replace d3 := Ext.cell hD5 d3
          clear hD5
          apply Mops.none
          · intro w' hE'
            have hC' := hE'.cellsS
            go_simp
            with_reducible rfl
          apply Mops.none
          · intro w' hE'
            have hC' := hE'.cellsS
            go_simp
            with_reducible rfl
          refine Mops.done ?_
          refine hK _ _ ?_
          clear hK K' gd
          refine Wp.keep [1, 2, 6] fun r8 hkeep => ?_
          obtain ⟨e1_8, e2_8, e6_8, -⟩ := hkeep
          simp [go_sem, e1_7, e2_7, e27_7] at e1_8 e2_8 e6_8
          clear e1_7 e2_7 e27_7
          refine Wp.seq ?_
          refine Wp.seqRegion (.inl rfl) (by kernel_rfl) fun K' gd hK hg => ?_
          clear hg
          go_simp
          refine hK _ _ ?_
          clear hK K' gd
          refine Wp.keep [1, 2, 6, 38, 39, 40] fun r9 hkeep => ?_
          obtain ⟨e1_9, e2_9, e6_9, e38_9, e39_9, e40_9, -⟩ := hkeep
          simp [go_sem, e1_8, e2_8, e6_8] at e1_9 e2_9 e6_9 e38_9 e39_9 e40_9
          clear e1_8 e2_8 e6_8
          refine Wp.block ?_
          refine Wp.loop (fun k ρ ds wk => AllEq [1, 2, 38, 39] ρ r9 ∧ ds = [] ∧ (Ext D5 wk) ∧ (ρ 40 = .int .i64 0 ∧ ρ 6 = .int .i64 (o.A i))) (0) ?_ ?_
          · refine ⟨AllEq.refl _ _, rfl, Ext.refl _, ?_⟩
            exact ⟨e40_9, e6_9⟩
          · rintro k r10 _ wk hk ⟨hA, rfl, xl6, e40, e6⟩
            obtain ⟨e1_10, e2_10, e38_10, e39_10, -⟩ := hA
            rw [e1_9] at e1_10
            rw [e2_9] at e2_10
            rw [e38_9] at e38_10
            rw [e39_9] at e39_10
            have zxl6 := Below.size xl6
            replace f2 := Ext.fz xl6 c2_0 f2
            replace xw := Ext.trans xw xl6
            replace p1 := Ext.cell xl6 p1
            replace p2 := Ext.cell xl6 p2
            replace c2_0 := Ext.cell xl6 c2_0
            replace c2_1 := Ext.cell xl6 c2_1
            replace d3 := Ext.cell xl6 d3
            refine Wp.seqRegion (.inl rfl) (by kernel_rfl) fun K' gd hK hg => ?_
            clear hg
            go_simp
            refine hK _ _ ?_
            clear hK K' gd
            refine Wp.keep [1, 2, 6, 38, 39, 40, 41] fun r11 hkeep => ?_
            obtain ⟨e1_11, e2_11, e6_11, e38_11, e39_11, e40_11, e41_11, -⟩ := hkeep
            simp [go_sem, e1_10, e2_10, e6, e38_10, e39_10, e40] at e1_11 e2_11 e6_11 e38_11 e39_11 e40_11 e41_11
            clear e1_10 e2_10 e6 e38_10 e39_10 e40
            refine Wp.seq ?_
            refine Wp.condF (by go_simp) ?_
            refine Wp.exit ?_
            refine thenK_exit ?_
            refine thenK_exit ?_
            refine blockK_here ?_
            refine thenK_normal ?_
            refine Wp.seqRegion (.inl rfl) (by kernel_rfl) fun K' gd hK hg => ?_
            clear hg
            go_simp
            refine hK _ _ ?_
            clear hK K' gd
            refine Wp.keep [4, 5] fun r12 hkeep => ?_
            obtain ⟨e4_12, e5_12, -⟩ := hkeep
            simp [go_sem, e1_11, e2_11, e6_11, e38_11, e39_11, e40_11, e41_11] at e4_12 e5_12
            clear e1_11 e2_11 e6_11 e38_11 e39_11 e40_11 e41_11
            refine Wp.ret ?_
            refine endK_tmp2 Tryz.results122 (by decide) (by decide) ?_
            rw [e4_12, e5_12]
            have hs : showsV o l = o.A i := by obtain ⟨-, h⟩ := hsv2; rw [h, List.drop_of_length_le (by omega), showsR_nil]
            exact ⟨by unfold leadN leadB; rw [hs, if_pos hAi.1, decide_eq_true hAi.1], xw⟩
        · skip
          obtain ⟨m9, hm9⟩ : ∃ m9, l.length = m9 + 1 := ⟨l.length - 1, by omega⟩
          have hce : ¬ e1 = 1 := by omega
          have hce2 : (1 : Int) ≤ (m9 : Int) + 1 := by omega
          refine Wp.skip ?_
          refine thenK_normal ?_
          refine Wp.seqDraw (.inl rfl) mixed [([0, 1, 2, 3, 4], none), ([5, 6, 7, 8, 9], none)] (by kernel_rfl) fun K' gd hK hg => ?_
          clear hg
          simp only [pick, nth, List.map_cons, List.map_nil, Option.map_none, Option.map_some]
          refine Mops.absD fun D7 hD7 zD7 => ?_
          replace f2 := Ext.fz hD7 c2_0 f2
          replace xw := Ext.trans xw hD7
          replace p1 := Ext.cell hD7 p1
          replace p2 := Ext.cell hD7 p2
          replace c2_0 := Ext.cell hD7 c2_0
          replace c2_1 := Ext.cell hD7 c2_1
          replace d3 := Ext.cell hD7 d3
          clear hD7
          apply Mops.none
          · intro w' hE'
            have hC' := hE'.cellsS
            go_simp
            with_reducible rfl
          apply Mops.none
          · intro w' hE'
            have hC' := hE'.cellsS
            go_simp
            with_reducible rfl
          refine Mops.done ?_
          refine hK _ _ ?_
          clear hK K' gd
          refine Wp.keep [1, 2, 6] fun r13 hkeep => ?_
          obtain ⟨e1_13, e2_13, e6_13, -⟩ := hkeep
          simp [go_sem, e1_7, e2_7, e27_7] at e1_13 e2_13 e6_13
          clear e1_7 e2_7 e27_7
          refine Wp.seq ?_
          clear hrA
          refine Wp.seqRegion (.inl rfl) (by kernel_rfl) fun K' gd hK hg => ?_
          clear hg
          go_simp
          refine hK _ _ ?_
          clear hK K' gd
          refine Wp.keep [1, 2, 6, 38, 39, 40] fun r14 hkeep => ?_
          obtain ⟨e1_14, e2_14, e6_14, e38_14, e39_14, e40_14, -⟩ := hkeep
          simp [go_sem, e1_13, e2_13, e6_13] at e1_14 e2_14 e6_14 e38_14 e39_14 e40_14
          clear e1_13 e2_13 e6_13
          refine Wp.block ?_
          refine Wp.loop (fun k ρ ds wk => AllEq [1, 2, 38, 39] ρ r14 ∧ ds = [] ∧ (Ext D7 wk) ∧ (∃ (day : Int), ρ 40 = .int .i64 (k : Int) ∧ ρ 6 = .int .i64 day ∧ (∃ hk : k < l.length, showsV o l = showsR o day l[k] (l.drop (k + 1)) ∧ isSZ o l[k] = true) ∧ 0 ≤ day ∧ day ≤ 730 + 60 * (k : Int))) (m9) ?_ ?_
          · refine ⟨AllEq.refl _ _, rfl, Ext.refl _, ?_⟩
            obtain ⟨-, h⟩ := hsv2; exact ⟨o.A i, by rw [e40_14]; rfl, e6_14, ⟨hlp, h, by rw [hy0]; exact hst⟩, hAi.1, by omega⟩
          · rintro k r15 _ wk hk ⟨hA, rfl, xl8, ⟨day, e40, e6, ⟨hkl, hsv, hsz⟩, hd1, hd2⟩⟩
            obtain ⟨e1_15, e2_15, e38_15, e39_15, -⟩ := hA
            rw [e1_14] at e1_15
            rw [e2_14] at e2_15
            rw [e38_14] at e38_15
            rw [e39_14] at e39_15
            have zxl8 := Below.size xl8
            replace f2 := Ext.fz xl8 c2_0 f2
            replace xw := Ext.trans xw xl8
            replace p1 := Ext.cell xl8 p1
            replace p2 := Ext.cell xl8 p2
            replace c2_0 := Ext.cell xl8 c2_0
            replace c2_1 := Ext.cell xl8 c2_1
            replace d3 := Ext.cell xl8 d3
            refine Wp.seqRegion (.inl rfl) (by kernel_rfl) fun K' gd hK hg => ?_
            clear hg
            go_simp
            refine hK _ _ ?_
            clear hK K' gd
            refine Wp.keep [1, 2, 6, 38, 39, 40, 41] fun r16 hkeep => ?_
            obtain ⟨e1_16, e2_16, e6_16, e38_16, e39_16, e40_16, e41_16, -⟩ := hkeep
            simp [go_sem, e1_15, e2_15, e6, e38_15, e39_15, e40] at e1_16 e2_16 e6_16 e38_16 e39_16 e40_16 e41_16
            clear e1_15 e2_15 e6 e38_15 e39_15 e40
            refine Wp.seq ?_
            by_cases h : k < m9
            · refine Wp.condT (by go_simp) ?_
              have hk1 : k + 1 < l.length := by omega
              obtain ⟨_, _, e3, x1, x2⟩ := StintsV.at hl hkl
              injection e3 with e3
              injection e3 with e3 e4
              subst e3 e4
              obtain ⟨_, _, e3, y1, y2⟩ := StintsV.at hl hk1
              injection e3 with e3
              injection e3 with e3 e4
              subst e3 e4
              rw [show o1 + (k + 1) * 2 = o1 + 2 + k * 2 by omega] at y1 y2
              obtain ⟨⟨u1, u2⟩, hu⟩ : ∃ y, l[k] = y := ⟨_, rfl⟩
              obtain ⟨⟨t1, t2⟩, ht⟩ : ∃ y, l[k + 1] = y := ⟨_, rfl⟩
              rw [hu] at x1 x2 hsz
              rw [ht] at y1 y2
              have hsv3 : ∃ _u : Unit, showsV o l = if isSZ o (t1, t2) = true then (if hasZ (waitsZ o (t1, t2)) (u1, u2) then showsR o (day + o.T u1.toNat u2.toNat) l[k + 1] (l.drop (k + 1 + 1)) else -1) else -1 := ⟨(), by rw [hsv, List.drop_eq_getElem_cons hk1, showsR_cons, hu, ht]⟩
              clear hsv
              obtain ⟨ui, uj, hui, huj, hu1, hu2⟩ := isStint_nat (show isStint o u1 u2 = true from hsz)
              subst hui huj
              have x1 := xw.cell x1
              have x2 := xw.cell x2
              have y1 := xw.cell y1
              have y2 := xw.cell y2
              have z1 := xw.cell (hO.hT ui hu1)
              have z2 := xw.cell (hO.hTT ui uj hu1 hu2)
              have b3 : (k : Int) < (m9 : Int) := by omega
              have b4 : (k : Int) < (m9 : Int) + 1 := by omega
              have b5 : (ui : Int) < (o.n : Int) := by omega
              have b6 : (uj : Int) < (o.m : Int) := by omega
              have hTu := ho.vT ui uj hu1 hu2
              have lt1 : a.tb ui < w.heap.size := hO.bT ui hu1
              have hCu := ho.vC uj hu2
              have hwd : IntKind.i64.wrap (day + o.T ui uj) = day + o.T ui uj := IntWalk.i64_in _ (by omega)
              by_cases hts : isStint o t1 t2 = true
              · skip
                obtain ⟨ti, tj, hti, htj, ht1, ht2⟩ := isStint_nat hts
                subst hti htj
                refine Wp.skip ?_
                refine thenK_normal ?_
                refine Wp.seq ?_
                refine Wp.block ?_
                refine Wp.seqRegion (.inl rfl) (by kernel_rfl) fun K' gd hK hg => ?_
                clear hg
                refine Wops.cut 4 fun K1 hK1 => ?_
                simp only [List.take_succ_cons, List.take_zero]
                go_simp
                refine hK1 _ _ ?_
                clear hK1 K1
                simp only [List.drop_succ_cons, List.drop_zero]
                refine Wops.absA fun V8_9 n8 hV8_9 => ?_
                obtain ⟨q8, hV8_9, s8, kV8_9, f8, r8⟩ := hV8_9
                try simp only [q8] at kV8_9 f8 r8 ⊢
                replace f2 := Ext.fz hV8_9 c2_0 f2
                replace xw := Ext.trans xw hV8_9
                replace xl8 := Ext.trans xl8 hV8_9
                replace p1 := Ext.cell hV8_9 p1
                replace p2 := Ext.cell hV8_9 p2
                replace c2_0 := Ext.cell hV8_9 c2_0
                replace c2_1 := Ext.cell hV8_9 c2_1
                replace d3 := Ext.cell hV8_9 d3
                replace x1 := Ext.cell hV8_9 x1
                replace x2 := Ext.cell hV8_9 x2
                replace y1 := Ext.cell hV8_9 y1
                replace y2 := Ext.cell hV8_9 y2
                replace z1 := Ext.cell hV8_9 z1
                replace z2 := Ext.cell hV8_9 z2
                have c8_0 := kV8_9 0 _ rfl
                have c8_1 := kV8_9 1 _ rfl
                clear kV8_9 hV8_9
                clear r8
                refine Wops.cut 2 fun K1 hK1 => ?_
                simp only [List.take_succ_cons, List.take_zero]
                go_simp
                refine hK1 _ _ ?_
                clear hK1 K1
                simp only [List.drop_succ_cons, List.drop_zero]
                refine Wops.absS (b := n8) (i := 0) [_, _] (somes [cellVal c8_0, cellVal c8_1] (by simp) (by intro j v hj; match j, hj with | 0, hj => (simp at hj; subst hj; exact c8_0) | 1, hj => (simp at hj; subst hj; exact c8_1))) fun P10 hP10 => ?_
                have zP10 := hP10.same
                replace f2 := Put.frz hP10 f2
                replace f8 := Put.frz hP10 f8
                replace xw := Put.to xw hP10 (by omega)
                replace xl8 := Put.to xl8 hP10 (by omega)
                replace p1 := Put.cell hP10 p1 (by omega)
                replace p2 := Put.cell hP10 p2 (by omega)
                replace c2_0 := Put.cell hP10 c2_0 (by omega)
                replace c2_1 := Put.cell hP10 c2_1 (by omega)
                replace d3 := Put.cell hP10 d3 (by omega)
                replace x1 := Put.cell hP10 x1 (by omega)
                replace x2 := Put.cell hP10 x2 (by omega)
                replace y1 := Put.cell hP10 y1 (by omega)
                replace y2 := Put.cell hP10 y2 (by omega)
                replace z1 := Put.cell hP10 z1 (by omega)
                replace z2 := Put.cell hP10 z2 (by omega)
                clear c8_0
                clear c8_1
                have c8_0 := hP10.new 0 _ rfl
                try simp only [Nat.reduceAdd, Nat.zero_add, Nat.add_zero] at c8_0
                have c8_1 := hP10.new 1 _ rfl
                try simp only [Nat.reduceAdd, Nat.zero_add, Nat.add_zero] at c8_1
                clear hP10
                try simp only [Wops_nil, updO_some, updO_none]
                refine hK _ _ ?_
                clear hK K' gd
                refine Wp.keep [1, 2, 6, 7, 8, 38, 39, 40] fun r17 hkeep => ?_
                obtain ⟨e1_17, e2_17, e6_17, e7_17, e8_17, e38_17, e39_17, e40_17, -⟩ := hkeep
                simp [go_sem, e1_16, e2_16, e6_16, e38_16, e39_16, e40_16, e41_16] at e1_17 e2_17 e6_17 e7_17 e8_17 e38_17 e39_17 e40_17
                clear e1_16 e2_16 e6_16 e38_16 e39_16 e40_16 e41_16
                refine Wp.seqRegion (.inl rfl) (by kernel_rfl) fun K' gd hK hg => ?_
                clear hg
                refine Wops.cut 6 fun K1 hK1 => ?_
                simp only [List.take_succ_cons, List.take_zero]
                go_simp
                refine hK1 _ _ ?_
                clear hK1 K1
                simp only [List.drop_succ_cons, List.drop_zero]
                refine Wops.absA fun V9_11 n9 hV9_11 => ?_
                obtain ⟨q9, hV9_11, s9, kV9_11, f9, r9⟩ := hV9_11
                try simp only [q9] at kV9_11 f9 r9 ⊢
                replace f2 := Ext.fz hV9_11 c2_0 f2
                replace f8 := Ext.fz hV9_11 c8_0 f8
                replace xw := Ext.trans xw hV9_11
                replace xl8 := Ext.trans xl8 hV9_11
                replace p1 := Ext.cell hV9_11 p1
                replace p2 := Ext.cell hV9_11 p2
                replace c2_0 := Ext.cell hV9_11 c2_0
                replace c2_1 := Ext.cell hV9_11 c2_1
                replace d3 := Ext.cell hV9_11 d3
                replace x1 := Ext.cell hV9_11 x1
                replace x2 := Ext.cell hV9_11 x2
                replace y1 := Ext.cell hV9_11 y1
                replace y2 := Ext.cell hV9_11 y2
                replace z1 := Ext.cell hV9_11 z1
                replace z2 := Ext.cell hV9_11 z2
                replace c8_0 := Ext.cell hV9_11 c8_0
                replace c8_1 := Ext.cell hV9_11 c8_1
                have c9_0 := kV9_11 0 _ rfl
                have c9_1 := kV9_11 1 _ rfl
                clear kV9_11 hV9_11
                clear r9
                try simp only [Wops_nil, updO_some, updO_none]
                refine hK _ _ ?_
                clear hK K' gd
                refine Wp.keep [1, 2, 6, 8, 9, 38, 39, 40] fun r18 hkeep => ?_
                obtain ⟨e1_18, e2_18, e6_18, e8_18, e9_18, e38_18, e39_18, e40_18, -⟩ := hkeep
                simp [go_sem, e1_17, e2_17, e6_17, e7_17, e8_17, e38_17, e39_17, e40_17] at e1_18 e2_18 e6_18 e8_18 e9_18 e38_18 e39_18 e40_18
                clear e1_17 e2_17 e6_17 e7_17 e8_17 e38_17 e39_17 e40_17
                refine Wp.seq ?_
                refine Wp.seqDraw (.inl rfl) mixed [([0, 1], some (2, false)), ([3, 4], none), ([5, 6, 9], some (7, false)), ([], some (8, false)), ([], some (10, false)), ([11, 12], none)] (by kernel_rfl) fun K' gd hK hg => ?_
                have g4 : gd 4 = some 53 := hg 4
                clear hg
                simp only [pick, nth, List.map_cons, List.map_nil, Option.map_none, Option.map_some]
                refine Mops.absD fun D12 hD12 zD12 => ?_
                replace f2 := Ext.fz hD12 c2_0 f2
                replace f8 := Ext.fz hD12 c8_0 f8
                replace f9 := Ext.fz hD12 c9_0 f9
                replace xw := Ext.trans xw hD12
                replace xl8 := Ext.trans xl8 hD12
                replace p1 := Ext.cell hD12 p1
                replace p2 := Ext.cell hD12 p2
                replace c2_0 := Ext.cell hD12 c2_0
                replace c2_1 := Ext.cell hD12 c2_1
                replace d3 := Ext.cell hD12 d3
                replace x1 := Ext.cell hD12 x1
                replace x2 := Ext.cell hD12 x2
                replace y1 := Ext.cell hD12 y1
                replace y2 := Ext.cell hD12 y2
                replace z1 := Ext.cell hD12 z1
                replace z2 := Ext.cell hD12 z2
                replace c8_0 := Ext.cell hD12 c8_0
                replace c8_1 := Ext.cell hD12 c8_1
                replace c9_0 := Ext.cell hD12 c9_0
                replace c9_1 := Ext.cell hD12 c9_1
                clear hD12
                apply Mops.act
                · intro w' hE'
                  have hC' := hE'.cellsS
                  go_simp
                  with_reducible rfl
                intro K1 hK1
                go_simp
                refine Wcall (.inl rfl) (stint_c _ o (ti : Int) (tj : Int) _ (hV.ext xw) hf) ?_
                rintro v w4 ⟨rfl, hE⟩
                rw [hts]
                go_simp
                refine hK1 _ _ (by assumption) ?_
                clear hK1 K1
                have z19 := Below.size hE
                replace f2 := Ext.fz hE c2_0 f2
                replace f8 := Ext.fz hE c8_0 f8
                replace f9 := Ext.fz hE c9_0 f9
                replace xw := Ext.trans xw hE
                replace xl8 := Ext.trans xl8 hE
                replace p1 := Ext.cell hE p1
                replace p2 := Ext.cell hE p2
                replace c2_0 := Ext.cell hE c2_0
                replace c2_1 := Ext.cell hE c2_1
                replace d3 := Ext.cell hE d3
                replace x1 := Ext.cell hE x1
                replace x2 := Ext.cell hE x2
                replace y1 := Ext.cell hE y1
                replace y2 := Ext.cell hE y2
                replace z1 := Ext.cell hE z1
                replace z2 := Ext.cell hE z2
                replace c8_0 := Ext.cell hE c8_0
                replace c8_1 := Ext.cell hE c8_1
                replace c9_0 := Ext.cell hE c9_0
                replace c9_1 := Ext.cell hE c9_1
                clear hE
                apply Mops.none
                · intro w' hE'
                  have hC' := hE'.cellsS
                  go_simp
                  with_reducible rfl
                apply Mops.act
                · intro w' hE'
                  have hC' := hE'.cellsS
                  go_simp
                  with_reducible rfl
                intro K1 hK1
                go_simp
                refine Wcall (.inl rfl) (behind_c a o (ui : Int) (uj : Int) _) ?_
                rintro v w5 ⟨bs, bo, rfl, hE, s0, s1, s2, s3, -, -⟩
                have hCw := hO.ext (Ext.trans xw hE)
                go_simp
                refine hK1 _ _ (by assumption) ?_
                clear hK1 K1
                have z20 := Below.size hE
                replace f2 := Ext.fz hE c2_0 f2
                replace f8 := Ext.fz hE c8_0 f8
                replace f9 := Ext.fz hE c9_0 f9
                replace xw := Ext.trans xw hE
                replace xl8 := Ext.trans xl8 hE
                replace p1 := Ext.cell hE p1
                replace p2 := Ext.cell hE p2
                replace c2_0 := Ext.cell hE c2_0
                replace c2_1 := Ext.cell hE c2_1
                replace d3 := Ext.cell hE d3
                replace x1 := Ext.cell hE x1
                replace x2 := Ext.cell hE x2
                replace y1 := Ext.cell hE y1
                replace y2 := Ext.cell hE y2
                replace z1 := Ext.cell hE z1
                replace z2 := Ext.cell hE z2
                replace c8_0 := Ext.cell hE c8_0
                replace c8_1 := Ext.cell hE c8_1
                replace c9_0 := Ext.cell hE c9_0
                replace c9_1 := Ext.cell hE c9_1
                clear hE
                apply Mops.act
                · exact fun _ _ => Rops_done
                intro K1 hK1
                go_simp
                have hcj := hCw.hC uj hu2
                refine Wcall (.inl rfl) (collect_c 151 #[.pointer (some ⟨bs, 0, none⟩), .pointer (some ⟨bo, 0, none⟩)] (behindL o (ui, uj)) _ _ (behind_it a o ui uj bs bo hu1 hu2 (by omega) (by omega) hCu.1 hCu.2) (enters_of Tryz.func151 (by kernel_rfl) rfl) (fun W hW => ⟨hW.cell s0, hW.cell s1, hW.cell s2, hW.cell s3, hW.cell hcj⟩) (by unfold behindL; rw [List.length_append]; split <;> split <;> simp)) ?_
                rintro v w6 ⟨hv6, hE⟩
                go_simp
                refine hK1 _ _ (by assumption) ?_
                clear hK1 K1
                have z21 := Below.size hE
                replace f2 := Ext.fz hE c2_0 f2
                replace f8 := Ext.fz hE c8_0 f8
                replace f9 := Ext.fz hE c9_0 f9
                replace xw := Ext.trans xw hE
                replace xl8 := Ext.trans xl8 hE
                replace p1 := Ext.cell hE p1
                replace p2 := Ext.cell hE p2
                replace c2_0 := Ext.cell hE c2_0
                replace c2_1 := Ext.cell hE c2_1
                replace d3 := Ext.cell hE d3
                replace x1 := Ext.cell hE x1
                replace x2 := Ext.cell hE x2
                replace y1 := Ext.cell hE y1
                replace y2 := Ext.cell hE y2
                replace z1 := Ext.cell hE z1
                replace z2 := Ext.cell hE z2
                replace c8_0 := Ext.cell hE c8_0
                replace c8_1 := Ext.cell hE c8_1
                replace c9_0 := Ext.cell hE c9_0
                replace c9_1 := Ext.cell hE c9_1
                clear hE
                apply Mops.act
                · exact fun _ _ => Rops_done
                intro K1 hK1
                go_simp
                refine Wcall (.inl rfl) (containsS_c _ _ ((ti : Int), (tj : Int)) _ hv6.stintsV (by rw [List.length_map]; unfold behindL; rw [List.length_append]; split <;> split <;> simp)) ?_
                rintro v w7 ⟨rfl, hE⟩
                go_simp
                refine hK1 _ _ (by assumption) ?_
                clear hK1 K1
                have z22 := Below.size hE
                replace f2 := Ext.fz hE c2_0 f2
                replace f8 := Ext.fz hE c8_0 f8
                replace f9 := Ext.fz hE c9_0 f9
                replace xw := Ext.trans xw hE
                replace xl8 := Ext.trans xl8 hE
                replace p1 := Ext.cell hE p1
                replace p2 := Ext.cell hE p2
                replace c2_0 := Ext.cell hE c2_0
                replace c2_1 := Ext.cell hE c2_1
                replace d3 := Ext.cell hE d3
                replace x1 := Ext.cell hE x1
                replace x2 := Ext.cell hE x2
                replace y1 := Ext.cell hE y1
                replace y2 := Ext.cell hE y2
                replace z1 := Ext.cell hE z1
                replace z2 := Ext.cell hE z2
                replace c8_0 := Ext.cell hE c8_0
                replace c8_1 := Ext.cell hE c8_1
                replace c9_0 := Ext.cell hE c9_0
                replace c9_1 := Ext.cell hE c9_1
                clear hE
                apply Mops.none
                · intro w' hE'
                  have hC' := hE'.cellsS
                  go_simp
                  with_reducible rfl
                refine Mops.done ?_
                refine hK _ _ ?_
                clear hK K' gd g4
                refine Wp.keep [1, 2, 6, 9, 38, 39, 40, 61] fun r23 hkeep => ?_
                obtain ⟨e1_23, e2_23, e6_23, e9_23, e38_23, e39_23, e40_23, e61_23, -⟩ := hkeep
                simp [go_sem, e1_18, e2_18, e6_18, e8_18, e9_18, e38_18, e39_18, e40_18] at e1_23 e2_23 e6_23 e9_23 e38_23 e39_23 e40_23 e61_23
                clear e1_18 e2_18 e6_18 e8_18 e9_18 e38_18 e39_18 e40_18
                by_cases hb : hasZ (waitsZ o ((ti : Int), (tj : Int))) ((ui : Int), (uj : Int)) = true
                · skip
                  have hb2 : hasZ ((behindL o (ui, uj)).map zS) ((ti : Int), (tj : Int)) = true := (hasZ_behind (s := (ui, uj)) (t := (ti, tj)) ho ⟨hu1, hu2⟩ ⟨ht1, ht2⟩).trans hb
                  refine Wp.condF (by go_simp) ?_
                  have hrA := hO.hr (by omega)
                  refine Wp.skip ?_
                  refine thenK_normal ?_
                  refine Wp.loneDraw (.inl rfl) mixed [([0, 1, 2, 3, 4], none), ([5, 6, 7, 8, 9], none), ([10, 11, 12, 13], none)] (by kernel_rfl) fun K' gd hK hg => ?_
                  clear hg
                  simp only [pick, nth, List.map_cons, List.map_nil, Option.map_none, Option.map_some]
                  refine Mops.absD fun D13 hD13 zD13 => ?_
                  replace f2 := Ext.fz hD13 c2_0 f2
                  replace f8 := Ext.fz hD13 c8_0 f8
                  replace f9 := Ext.fz hD13 c9_0 f9
                  replace xw := Ext.trans xw hD13
                  replace xl8 := Ext.trans xl8 hD13
                  replace p1 := Ext.cell hD13 p1
                  replace p2 := Ext.cell hD13 p2
                  replace c2_0 := Ext.cell hD13 c2_0
                  replace c2_1 := Ext.cell hD13 c2_1
                  replace d3 := Ext.cell hD13 d3
                  replace x1 := Ext.cell hD13 x1
                  replace x2 := Ext.cell hD13 x2
                  replace y1 := Ext.cell hD13 y1
                  replace y2 := Ext.cell hD13 y2
                  replace z1 := Ext.cell hD13 z1
                  replace z2 := Ext.cell hD13 z2
                  replace c8_0 := Ext.cell hD13 c8_0
                  replace c8_1 := Ext.cell hD13 c8_1
                  replace c9_0 := Ext.cell hD13 c9_0
                  replace c9_1 := Ext.cell hD13 c9_1
                  clear hD13
                  apply Mops.none
                  · intro w' hE'
                    have hC' := hE'.cellsS
                    go_simp
                    with_reducible rfl
                  apply Mops.none
                  · intro w' hE'
                    have hC' := hE'.cellsS
                    go_simp
                    with_reducible rfl
                  apply Mops.none
                  · intro w' hE'
                    have hC' := hE'.cellsS
                    go_simp
                    with_reducible rfl
                  refine Mops.done ?_
                  refine hK _ _ ?_
                  clear hK K' gd
                  refine Ends.keep [1, 2, 6, 38, 39, 40] fun r24 hkeep => ?_
                  obtain ⟨e1_24, e2_24, e6_24, e38_24, e39_24, e40_24, -⟩ := hkeep
                  simp [go_sem, e1_23, e2_23, e6_23, e9_23, e38_23, e39_23, e40_23, e61_23] at e1_24 e2_24 e6_24 e38_24 e39_24 e40_24
                  clear e1_23 e2_23 e6_23 e9_23 e38_23 e39_23 e40_23 e61_23
                  refine Ends.mk ?_
                  refine blockK_normal ?_
                  refine thenK_normal ?_
                  refine Wp.loneRegion (.inl rfl) (by kernel_rfl) fun K' gd hK hg => ?_
                  clear hg
                  go_simp
                  refine hK _ _ ?_
                  clear hK K' gd
                  refine Ends.keep [1, 2, 6, 38, 39, 40] fun r25 hkeep => ?_
                  obtain ⟨e1_25, e2_25, e6_25, e38_25, e39_25, e40_25, -⟩ := hkeep
                  simp [go_sem, e1_24, e2_24, e6_24, e38_24, e39_24, e40_24] at e1_25 e2_25 e6_25 e38_25 e39_25 e40_25
                  clear e1_24 e2_24 e6_24 e38_24 e39_24 e40_24
                  refine Ends.mk ?_
                  refine thenK_normal ⟨by omega, ⟨by rw [e1_25, e1_14], by rw [e2_25, e2_14], by rw [e38_25, e38_14], by rw [e39_25, e39_14], trivial⟩, rfl, xl8, ?_⟩
                  refine ⟨day + o.T ui uj, by rw [e40_25, IntWalk.i64_in _ (by omega)]; rfl, by rw [e6_25], ⟨hk1, ?_, by rw [ht]; exact hts⟩, by omega, by omega⟩
                  obtain ⟨-, h⟩ := hsv3; rw [h, if_pos (show isSZ o (_, _) = true from hts), if_pos hb, Int.toNat_natCast, Int.toNat_natCast]
                · skip
                  rw [Bool.not_eq_true] at hb
                  have hb2 : hasZ ((behindL o (ui, uj)).map zS) ((ti : Int), (tj : Int)) = false := (hasZ_behind (s := (ui, uj)) (t := (ti, tj)) ho ⟨hu1, hu2⟩ ⟨ht1, ht2⟩).trans hb
                  refine Wp.condT (by go_simp) ?_
                  refine Wp.seqRegion (.inl rfl) (by kernel_rfl) fun K' gd hK hg => ?_
                  clear hg
                  go_simp
                  refine hK _ _ ?_
                  clear hK K' gd
                  refine Wp.keep [4, 5] fun r26 hkeep => ?_
                  obtain ⟨e4_26, e5_26, -⟩ := hkeep
                  simp [go_sem, e1_23, e2_23, e6_23, e9_23, e38_23, e39_23, e40_23, e61_23] at e4_26 e5_26
                  clear e1_23 e2_23 e6_23 e9_23 e38_23 e39_23 e40_23 e61_23
                  refine Wp.ret ?_
                  refine thenK_ret ?_
                  refine blockK_ret ?_
                  refine thenK_ret ?_
                  refine thenK_ret ?_
                  refine blockK_ret ?_
                  refine thenK_ret ?_
                  refine endK_tmp2 Tryz.results122 (by decide) (by decide) ?_
                  rw [e4_26, e5_26]
                  have hs : showsV o l = -1 := by obtain ⟨-, h⟩ := hsv3; rw [h, if_pos (show isSZ o (_, _) = true from hts), if_neg (by rw [hb]; decide)]
                  obtain ⟨h1, h2⟩ := hno hs (by omega); exact ⟨by rw [h1, h2], xw⟩
              · skip
                rw [Bool.not_eq_true] at hts
                refine Wp.skip ?_
                refine thenK_normal ?_
                refine Wp.seq ?_
                refine Wp.block ?_
                refine Wp.seqRegion (.inl rfl) (by kernel_rfl) fun K' gd hK hg => ?_
                clear hg
                refine Wops.cut 4 fun K1 hK1 => ?_
                simp only [List.take_succ_cons, List.take_zero]
                go_simp
                refine hK1 _ _ ?_
                clear hK1 K1
                simp only [List.drop_succ_cons, List.drop_zero]
                refine Wops.absA fun V8_14 n8 hV8_14 => ?_
                obtain ⟨q8, hV8_14, s8, kV8_14, f8, r8⟩ := hV8_14
                try simp only [q8] at kV8_14 f8 r8 ⊢
                replace f2 := Ext.fz hV8_14 c2_0 f2
                replace xw := Ext.trans xw hV8_14
                replace xl8 := Ext.trans xl8 hV8_14
                replace p1 := Ext.cell hV8_14 p1
                replace p2 := Ext.cell hV8_14 p2
                replace c2_0 := Ext.cell hV8_14 c2_0
                replace c2_1 := Ext.cell hV8_14 c2_1
                replace d3 := Ext.cell hV8_14 d3
                replace x1 := Ext.cell hV8_14 x1
                replace x2 := Ext.cell hV8_14 x2
                replace y1 := Ext.cell hV8_14 y1
                replace y2 := Ext.cell hV8_14 y2
                replace z1 := Ext.cell hV8_14 z1
                replace z2 := Ext.cell hV8_14 z2
                have c8_0 := kV8_14 0 _ rfl
                have c8_1 := kV8_14 1 _ rfl
                clear kV8_14 hV8_14
                clear r8
                refine Wops.cut 2 fun K1 hK1 => ?_
                simp only [List.take_succ_cons, List.take_zero]
                go_simp
                refine hK1 _ _ ?_
                clear hK1 K1
                simp only [List.drop_succ_cons, List.drop_zero]
                refine Wops.absS (b := n8) (i := 0) [_, _] (somes [cellVal c8_0, cellVal c8_1] (by simp) (by intro j v hj; match j, hj with | 0, hj => (simp at hj; subst hj; exact c8_0) | 1, hj => (simp at hj; subst hj; exact c8_1))) fun P15 hP15 => ?_
                have zP15 := hP15.same
                replace f2 := Put.frz hP15 f2
                replace f8 := Put.frz hP15 f8
                replace xw := Put.to xw hP15 (by omega)
                replace xl8 := Put.to xl8 hP15 (by omega)
                replace p1 := Put.cell hP15 p1 (by omega)
                replace p2 := Put.cell hP15 p2 (by omega)
                replace c2_0 := Put.cell hP15 c2_0 (by omega)
                replace c2_1 := Put.cell hP15 c2_1 (by omega)
                replace d3 := Put.cell hP15 d3 (by omega)
                replace x1 := Put.cell hP15 x1 (by omega)
                replace x2 := Put.cell hP15 x2 (by omega)
                replace y1 := Put.cell hP15 y1 (by omega)
                replace y2 := Put.cell hP15 y2 (by omega)
                replace z1 := Put.cell hP15 z1 (by omega)
                replace z2 := Put.cell hP15 z2 (by omega)
                clear c8_0
                clear c8_1
                have c8_0 := hP15.new 0 _ rfl
                try simp only [Nat.reduceAdd, Nat.zero_add, Nat.add_zero] at c8_0
                have c8_1 := hP15.new 1 _ rfl
                try simp only [Nat.reduceAdd, Nat.zero_add, Nat.add_zero] at c8_1
                clear hP15
                try simp only [Wops_nil, updO_some, updO_none]
                refine hK _ _ ?_
                clear hK K' gd
                refine Wp.keep [1, 2, 6, 7, 8, 38, 39, 40] fun r27 hkeep => ?_
                obtain ⟨e1_27, e2_27, e6_27, e7_27, e8_27, e38_27, e39_27, e40_27, -⟩ := hkeep
                simp [go_sem, e1_16, e2_16, e6_16, e38_16, e39_16, e40_16, e41_16] at e1_27 e2_27 e6_27 e7_27 e8_27 e38_27 e39_27 e40_27
                clear e1_16 e2_16 e6_16 e38_16 e39_16 e40_16 e41_16
                refine Wp.seqRegion (.inl rfl) (by kernel_rfl) fun K' gd hK hg => ?_
                clear hg
                refine Wops.cut 6 fun K1 hK1 => ?_
                simp only [List.take_succ_cons, List.take_zero]
                go_simp
                refine hK1 _ _ ?_
                clear hK1 K1
                simp only [List.drop_succ_cons, List.drop_zero]
                refine Wops.absA fun V9_16 n9 hV9_16 => ?_
                obtain ⟨q9, hV9_16, s9, kV9_16, f9, r9⟩ := hV9_16
                try simp only [q9] at kV9_16 f9 r9 ⊢
                replace f2 := Ext.fz hV9_16 c2_0 f2
                replace f8 := Ext.fz hV9_16 c8_0 f8
                replace xw := Ext.trans xw hV9_16
                replace xl8 := Ext.trans xl8 hV9_16
                replace p1 := Ext.cell hV9_16 p1
                replace p2 := Ext.cell hV9_16 p2
                replace c2_0 := Ext.cell hV9_16 c2_0
                replace c2_1 := Ext.cell hV9_16 c2_1
                replace d3 := Ext.cell hV9_16 d3
                replace x1 := Ext.cell hV9_16 x1
                replace x2 := Ext.cell hV9_16 x2
                replace y1 := Ext.cell hV9_16 y1
                replace y2 := Ext.cell hV9_16 y2
                replace z1 := Ext.cell hV9_16 z1
                replace z2 := Ext.cell hV9_16 z2
                replace c8_0 := Ext.cell hV9_16 c8_0
                replace c8_1 := Ext.cell hV9_16 c8_1
                have c9_0 := kV9_16 0 _ rfl
                have c9_1 := kV9_16 1 _ rfl
                clear kV9_16 hV9_16
                clear r9
                try simp only [Wops_nil, updO_some, updO_none]
                refine hK _ _ ?_
                clear hK K' gd
                refine Wp.keep [1, 2, 6, 8, 9, 38, 39, 40] fun r28 hkeep => ?_
                obtain ⟨e1_28, e2_28, e6_28, e8_28, e9_28, e38_28, e39_28, e40_28, -⟩ := hkeep
                simp [go_sem, e1_27, e2_27, e6_27, e7_27, e8_27, e38_27, e39_27, e40_27] at e1_28 e2_28 e6_28 e8_28 e9_28 e38_28 e39_28 e40_28
                clear e1_27 e2_27 e6_27 e7_27 e8_27 e38_27 e39_27 e40_27
                refine Wp.seq ?_
                refine Wp.seqDraw (.inl rfl) mixed [([0, 1], some (2, false)), ([3, 4], none), ([5, 6, 9], some (7, false)), ([], some (8, false)), ([], some (10, false)), ([11, 12], none)] (by kernel_rfl) fun K' gd hK hg => ?_
                have g4 : gd 4 = some 53 := hg 4
                clear hg
                simp only [pick, nth, List.map_cons, List.map_nil, Option.map_none, Option.map_some]
                refine Mops.absD fun D17 hD17 zD17 => ?_
                replace f2 := Ext.fz hD17 c2_0 f2
                replace f8 := Ext.fz hD17 c8_0 f8
                replace f9 := Ext.fz hD17 c9_0 f9
                replace xw := Ext.trans xw hD17
                replace xl8 := Ext.trans xl8 hD17
                replace p1 := Ext.cell hD17 p1
                replace p2 := Ext.cell hD17 p2
                replace c2_0 := Ext.cell hD17 c2_0
                replace c2_1 := Ext.cell hD17 c2_1
                replace d3 := Ext.cell hD17 d3
                replace x1 := Ext.cell hD17 x1
                replace x2 := Ext.cell hD17 x2
                replace y1 := Ext.cell hD17 y1
                replace y2 := Ext.cell hD17 y2
                replace z1 := Ext.cell hD17 z1
                replace z2 := Ext.cell hD17 z2
                replace c8_0 := Ext.cell hD17 c8_0
                replace c8_1 := Ext.cell hD17 c8_1
                replace c9_0 := Ext.cell hD17 c9_0
                replace c9_1 := Ext.cell hD17 c9_1
                clear hD17
                apply Mops.act
                · intro w' hE'
                  have hC' := hE'.cellsS
                  go_simp
                  with_reducible rfl
                intro K1 hK1
                go_simp
                refine Wcall (.inl rfl) (stint_c _ o t1 t2 _ (hV.ext xw) hf) ?_
                rintro v w4 ⟨rfl, hE⟩
                rw [hts]
                go_simp
                refine hK1 _ _ (by assumption) ?_
                clear hK1 K1
                have z29 := Below.size hE
                replace f2 := Ext.fz hE c2_0 f2
                replace f8 := Ext.fz hE c8_0 f8
                replace f9 := Ext.fz hE c9_0 f9
                replace xw := Ext.trans xw hE
                replace xl8 := Ext.trans xl8 hE
                replace p1 := Ext.cell hE p1
                replace p2 := Ext.cell hE p2
                replace c2_0 := Ext.cell hE c2_0
                replace c2_1 := Ext.cell hE c2_1
                replace d3 := Ext.cell hE d3
                replace x1 := Ext.cell hE x1
                replace x2 := Ext.cell hE x2
                replace y1 := Ext.cell hE y1
                replace y2 := Ext.cell hE y2
                replace z1 := Ext.cell hE z1
                replace z2 := Ext.cell hE z2
                replace c8_0 := Ext.cell hE c8_0
                replace c8_1 := Ext.cell hE c8_1
                replace c9_0 := Ext.cell hE c9_0
                replace c9_1 := Ext.cell hE c9_1
                clear hE
                apply Mops.none
                · intro w' hE'
                  have hC' := hE'.cellsS
                  go_simp
                  with_reducible rfl
                apply Mops.act
                · intro w' hE'
                  have hC' := hE'.cellsS
                  go_simp
                  with_reducible rfl
                intro K1 hK1
                go_simp
                refine hK1 _ _ (Ext.refl _) ?_
                clear hK1 K1
                apply Mops.act
                · exact fun _ _ => Rops_done
                intro K1 hK1
                go_simp
                refine hK1 _ _ (Ext.refl _) ?_
                clear hK1 K1
                apply Mops.act
                · exact fun _ _ => Rops_done
                intro K1 hK1
                go_simp
                refine hK1 _ _ (Ext.refl _) ?_
                clear hK1 K1
                apply Mops.none
                · intro w' hE'
                  have hC' := hE'.cellsS
                  go_simp
                  with_reducible rfl
                refine Mops.done ?_
                refine hK _ _ ?_
                clear hK K' gd g4
                refine Wp.keep [1, 2, 6, 9, 38, 39, 40, 61] fun r30 hkeep => ?_
                obtain ⟨e1_30, e2_30, e6_30, e9_30, e38_30, e39_30, e40_30, e61_30, -⟩ := hkeep
                simp [go_sem, e1_28, e2_28, e6_28, e8_28, e9_28, e38_28, e39_28, e40_28] at e1_30 e2_30 e6_30 e9_30 e38_30 e39_30 e40_30 e61_30
                clear e1_28 e2_28 e6_28 e8_28 e9_28 e38_28 e39_28 e40_28
                refine Wp.condT (by go_simp) ?_
                refine Wp.seqRegion (.inl rfl) (by kernel_rfl) fun K' gd hK hg => ?_
                clear hg
                go_simp
                refine hK _ _ ?_
                clear hK K' gd
                refine Wp.keep [4, 5] fun r31 hkeep => ?_
                obtain ⟨e4_31, e5_31, -⟩ := hkeep
                simp [go_sem, e1_30, e2_30, e6_30, e9_30, e38_30, e39_30, e40_30, e61_30] at e4_31 e5_31
                clear e1_30 e2_30 e6_30 e9_30 e38_30 e39_30 e40_30 e61_30
                refine Wp.ret ?_
                refine thenK_ret ?_
                refine blockK_ret ?_
                refine thenK_ret ?_
                refine thenK_ret ?_
                refine blockK_ret ?_
                refine thenK_ret ?_
                refine endK_tmp2 Tryz.results122 (by decide) (by decide) ?_
                rw [e4_31, e5_31]
                have hs : showsV o l = -1 := by obtain ⟨-, h⟩ := hsv3; rw [h, if_neg (show ¬ isSZ o (_, _) = true from by unfold isSZ; rw [hts]; decide)]
                obtain ⟨h1, h2⟩ := hno hs (by omega); exact ⟨by rw [h1, h2], xw⟩
            · refine Wp.condF (by go_simp) ?_
              obtain rfl : k = m9 := by omega
              refine Wp.exit ?_
              refine thenK_exit ?_
              refine thenK_exit ?_
              refine blockK_here ?_
              refine thenK_normal ?_
              refine Wp.seqRegion (.inl rfl) (by kernel_rfl) fun K' gd hK hg => ?_
              clear hg
              go_simp
              refine hK _ _ ?_
              clear hK K' gd
              refine Wp.keep [4, 5] fun r32 hkeep => ?_
              obtain ⟨e4_32, e5_32, -⟩ := hkeep
              simp [go_sem, e1_16, e2_16, e6_16, e38_16, e39_16, e40_16, e41_16] at e4_32 e5_32
              clear e1_16 e2_16 e6_16 e38_16 e39_16 e40_16 e41_16
              refine Wp.ret ?_
              refine endK_tmp2 Tryz.results122 (by decide) (by decide) ?_
              rw [e4_32, e5_32]
              have hs : showsV o l = day := by rw [hsv, List.drop_of_length_le (by omega), showsR_nil]
              exact ⟨by unfold leadN leadB; rw [hs, if_pos hd1, decide_eq_true hd1], xw⟩
      · skip
        refine Wp.seqRegion (.inl rfl) (by kernel_rfl) fun K' gd hK hg => ?_
        clear hg
        refine Wops.cut 1 fun K1 hK1 => ?_
        simp only [List.take_succ_cons, List.take_zero]
        go_simp
        refine hK1 _ _ ?_
        clear hK1 K1
        simp only [List.drop_succ_cons, List.drop_zero]
        refine Wops.absA fun V2_18 n2 hV2_18 => ?_
        obtain ⟨q2, hV2_18, s2, kV2_18, f2, r2⟩ := hV2_18
        try simp only [q2] at kV2_18 f2 r2 ⊢
        replace xw := Ext.trans xw hV2_18
        replace p1 := Ext.cell hV2_18 p1
        replace p2 := Ext.cell hV2_18 p2
        have c2_0 := kV2_18 0 _ rfl
        have c2_1 := kV2_18 1 _ rfl
        clear kV2_18 hV2_18
        clear r2
        go_simp
        refine hK _ _ ?_
        clear hK K' gd
        refine Wp.keep [1, 2] fun r33 hkeep => ?_
        obtain ⟨e1_33, e2_33, -⟩ := hkeep
        simp [go_sem, e0_1, e1_1] at e1_33 e2_33
        clear e0_1 e1_1
        refine Wp.seq ?_
        refine Wp.seqDraw (.inl rfl) mixed [([0, 1, 2, 3], none), ([4, 5, 6, 7], some (8, false)), ([9, 10, 11], none), ([12, 13, 14, 15, 16], none), ([17], none)] (by kernel_rfl) fun K' gd hK hg => ?_
        have g3 : gd 3 = some 13 := hg 3
        have g11 : gd 11 = some 21 := hg 11
        clear hg
        simp only [pick, nth, List.map_cons, List.map_nil, Option.map_none, Option.map_some]
        refine Mops.absD fun D19 hD19 zD19 => ?_
        replace f2 := Ext.fz hD19 c2_0 f2
        replace xw := Ext.trans xw hD19
        replace p1 := Ext.cell hD19 p1
        replace p2 := Ext.cell hD19 p2
        replace c2_0 := Ext.cell hD19 c2_0
        replace c2_1 := Ext.cell hD19 c2_1
        clear hD19
        apply Mops.none
        · intro w' hE'
          have hC' := hE'.cellsS
          go_simp
          with_reducible rfl
        apply Mops.act
        · intro w' hE'
          have hC' := hE'.cellsS
          go_simp
          with_reducible rfl
        intro K1 hK1
        go_simp
        refine Wcall (.inl rfl) (stint_c _ o y1 y2 _ (hV.ext xw) hf) ?_
        rintro v w2 ⟨rfl, hE⟩
        rw [hst]
        go_simp
        refine hK1 _ _ (by assumption) ?_
        clear hK1 K1
        have z34 := Below.size hE
        replace f2 := Ext.fz hE c2_0 f2
        replace xw := Ext.trans xw hE
        replace p1 := Ext.cell hE p1
        replace p2 := Ext.cell hE p2
        replace c2_0 := Ext.cell hE c2_0
        replace c2_1 := Ext.cell hE c2_1
        clear hE
        apply Mops.none
        · intro w' hE'
          have hC' := hE'.cellsS
          go_simp
          with_reducible rfl
        apply Mops.none
        · intro w' hE'
          have hC' := hE'.cellsS
          go_simp
          with_reducible rfl
        apply Mops.none
        · intro w' hE'
          have hC' := hE'.cellsS
          go_simp
          with_reducible rfl
        refine Mops.done ?_
        refine hK _ _ ?_
        clear hK K' gd g3 g11
        refine Wp.keep [1, 2, 27] fun r35 hkeep => ?_
        obtain ⟨e1_35, e2_35, e27_35, -⟩ := hkeep
        simp [go_sem, e1_33, e2_33] at e1_35 e2_35 e27_35
        clear e1_33 e2_33
        refine Wp.condT (by go_simp) ?_
        refine Wp.seqRegion (.inl rfl) (by kernel_rfl) fun K' gd hK hg => ?_
        clear hg
        go_simp
        refine hK _ _ ?_
        clear hK K' gd
        refine Wp.keep [4, 5] fun r36 hkeep => ?_
        obtain ⟨e4_36, e5_36, -⟩ := hkeep
        simp [go_sem, e1_35, e2_35, e27_35] at e4_36 e5_36
        clear e1_35 e2_35 e27_35
        refine Wp.ret ?_
        refine thenK_ret ?_
        refine endK_tmp2 Tryz.results122 (by decide) (by decide) ?_
        rw [e4_36, e5_36]
        have hs : showsV o l = -1 := by obtain ⟨-, h⟩ := hsv; rw [h, if_pos (show isSZ o (_, _) = true from hst), if_neg hy]
        obtain ⟨h1, h2⟩ := hno hs (by omega); exact ⟨by rw [h1, h2], xw⟩
    · skip
      rw [Bool.not_eq_true] at hst
      refine Wp.seqRegion (.inl rfl) (by kernel_rfl) fun K' gd hK hg => ?_
      clear hg
      refine Wops.cut 1 fun K1 hK1 => ?_
      simp only [List.take_succ_cons, List.take_zero]
      go_simp
      refine hK1 _ _ ?_
      clear hK1 K1
      simp only [List.drop_succ_cons, List.drop_zero]
      refine Wops.absA fun V2_20 n2 hV2_20 => ?_
      obtain ⟨q2, hV2_20, s2, kV2_20, f2, r2⟩ := hV2_20
      try simp only [q2] at kV2_20 f2 r2 ⊢
      replace xw := Ext.trans xw hV2_20
      replace p1 := Ext.cell hV2_20 p1
      replace p2 := Ext.cell hV2_20 p2
      have c2_0 := kV2_20 0 _ rfl
      have c2_1 := kV2_20 1 _ rfl
      clear kV2_20 hV2_20
      clear r2
      go_simp
      refine hK _ _ ?_
      clear hK K' gd
      refine Wp.keep [1, 2] fun r37 hkeep => ?_
      obtain ⟨e1_37, e2_37, -⟩ := hkeep
      simp [go_sem, e0_1, e1_1] at e1_37 e2_37
      clear e0_1 e1_1
      refine Wp.seq ?_
      refine Wp.seqDraw (.inl rfl) mixed [([0, 1, 2, 3], none), ([4, 5, 6, 7], some (8, false)), ([9, 10, 11], none), ([12, 13, 14, 15, 16], none), ([17], none)] (by kernel_rfl) fun K' gd hK hg => ?_
      have g3 : gd 3 = some 13 := hg 3
      have g11 : gd 11 = some 21 := hg 11
      clear hg
      simp only [pick, nth, List.map_cons, List.map_nil, Option.map_none, Option.map_some]
      refine Mops.absD fun D21 hD21 zD21 => ?_
      replace f2 := Ext.fz hD21 c2_0 f2
      replace xw := Ext.trans xw hD21
      replace p1 := Ext.cell hD21 p1
      replace p2 := Ext.cell hD21 p2
      replace c2_0 := Ext.cell hD21 c2_0
      replace c2_1 := Ext.cell hD21 c2_1
      clear hD21
      apply Mops.none
      · intro w' hE'
        have hC' := hE'.cellsS
        go_simp
        with_reducible rfl
      apply Mops.act
      · intro w' hE'
        have hC' := hE'.cellsS
        go_simp
        with_reducible rfl
      intro K1 hK1
      go_simp
      refine Wcall (.inl rfl) (stint_c _ o y1 y2 _ (hV.ext xw) hf) ?_
      rintro v w2 ⟨rfl, hE⟩
      rw [hst]
      go_simp
      refine hK1 _ _ (by assumption) ?_
      clear hK1 K1
      have z38 := Below.size hE
      replace f2 := Ext.fz hE c2_0 f2
      replace xw := Ext.trans xw hE
      replace p1 := Ext.cell hE p1
      replace p2 := Ext.cell hE p2
      replace c2_0 := Ext.cell hE c2_0
      replace c2_1 := Ext.cell hE c2_1
      clear hE
      apply Mops.none
      · intro w' hE'
        have hC' := hE'.cellsS
        go_simp
        with_reducible rfl
      apply Mops.none
      · intro w' hE'
        have hC' := hE'.cellsS
        go_simp
        with_reducible rfl
      apply Mops.none
      · intro w' hE'
        have hC' := hE'.cellsS
        go_simp
        with_reducible rfl
      refine Mops.done ?_
      refine hK _ _ ?_
      clear hK K' gd g3 g11
      refine Wp.keep [1, 2, 27] fun r39 hkeep => ?_
      obtain ⟨e1_39, e2_39, e27_39, -⟩ := hkeep
      simp [go_sem, e1_37, e2_37] at e1_39 e2_39 e27_39
      clear e1_37 e2_37
      refine Wp.condT (by go_simp) ?_
      refine Wp.seqRegion (.inl rfl) (by kernel_rfl) fun K' gd hK hg => ?_
      clear hg
      go_simp
      refine hK _ _ ?_
      clear hK K' gd
      refine Wp.keep [4, 5] fun r40 hkeep => ?_
      obtain ⟨e4_40, e5_40, -⟩ := hkeep
      simp [go_sem, e1_39, e2_39, e27_39] at e4_40 e5_40
      clear e1_39 e2_39 e27_39
      refine Wp.ret ?_
      refine thenK_ret ?_
      refine endK_tmp2 Tryz.results122 (by decide) (by decide) ?_
      rw [e4_40, e5_40]
      have hs : showsV o l = -1 := by obtain ⟨-, h⟩ := hsv; rw [h, if_neg (show ¬ isSZ o (_, _) = true from by unfold isSZ; rw [hst]; decide)]
      obtain ⟨h1, h2⟩ := hno hs (by omega); exact ⟨by rw [h1, h2], xw⟩
def chkP (o : Ord) (l : List SZ) (d : Int) : Int := if checkS o = 0 then (if 35 < l.length then 2 else if 0 ≤ showsV o l ∧ showsV o l = d then 0 else 8) else checkS o
theorem checkPath_c (v v1 : Value) (o : Ord) (l : List SZ) (d : Int) (w : World) (hV : OrderV w w.heap.size v o) (hf : Fits o) (hl : StintsV w w.heap.size v1 l) (hln : l.length ≤ 1000) :
    CallsV Tryz.prog 56 #[v, v1, .int .i64 d] w fun v w' => v = .int .i64 (chkP o l d) ∧ Ext w w' := by
  obtain ⟨L1, k1, d1, L2, k2, d2, rfl, hV⟩ := hV.two
  obtain ⟨A1, g1, rfl, -⟩ := id hl
  refine Wp.fn Tryz.func56 rfl Tryz.ntmps56 (by simp) ?_
  have xw := Ext.refl w
  refine Wp.keep [0, 1, 2] fun r1 hkeep => ?_
  obtain ⟨e0_1, e1_1, e2_1, -⟩ := hkeep
  simp [go_sem] at e0_1 e1_1 e2_1
  refine Wp.seqRegion (.inl rfl) (by kernel_rfl) fun K' gd hK hg => ?_
  clear hg
  refine Wops.cut 1 fun K1 hK1 => ?_
  simp only [List.take_succ_cons, List.take_zero]
  go_simp
  refine hK1 _ _ ?_
  clear hK1 K1
  simp only [List.drop_succ_cons, List.drop_zero]
  refine Wops.absA fun V3_1 n3 hV3_1 => ?_
  obtain ⟨q3, hV3_1, s3, kV3_1, f3, r3⟩ := hV3_1
  try simp only [q3] at kV3_1 f3 r3 ⊢
  replace xw := Ext.trans xw hV3_1
  have c3_0 := kV3_1 0 _ rfl
  have c3_1 := kV3_1 1 _ rfl
  clear kV3_1 hV3_1
  clear r3
  go_simp
  refine hK _ _ ?_
  clear hK K' gd
  refine Wp.keep [1, 2, 3] fun r2 hkeep => ?_
  obtain ⟨e1_2, e2_2, e3_2, -⟩ := hkeep
  simp [go_sem, e0_1, e1_1, e2_1] at e1_2 e2_2 e3_2
  clear e0_1 e1_1 e2_1
  refine Wp.seq ?_
  refine Wp.seqRegion (.inl rfl) (by kernel_rfl) fun K' gd hK hg => ?_
  clear hg
  refine Wops.cut 2 fun K1 hK1 => ?_
  simp only [List.take_succ_cons, List.take_zero]
  go_simp
  refine Wcall (.inl rfl) (check_c _ o _ (hV.ext xw) hf) ?_
  rintro v w2 ⟨rfl, hE⟩
  go_simp
  refine hK1 _ _ ?_
  clear hK1 K1
  simp only [List.drop_succ_cons, List.drop_zero]
  have z3 := Below.size hE
  replace f3 := Ext.fz hE c3_0 f3
  replace xw := Ext.trans xw hE
  replace c3_0 := Ext.cell hE c3_0
  replace c3_1 := Ext.cell hE c3_1
  clear hE
  go_simp
  refine hK _ _ ?_
  clear hK K' gd
  refine Wp.keep [1, 2, 3, 7] fun r4 hkeep => ?_
  obtain ⟨e1_4, e2_4, e3_4, e7_4, -⟩ := hkeep
  simp [go_sem, e1_2, e2_2, e3_2] at e1_4 e2_4 e3_4 e7_4
  clear e1_2 e2_2 e3_2
  by_cases h0 : checkS o = 0
  · skip
    refine Wp.seqRegion (.inl rfl) (by kernel_rfl) fun K' gd hK hg => ?_
    clear hg
    go_simp
    refine hK _ _ ?_
    clear hK K' gd
    refine Wp.keep [1, 2, 3, 7, 13] fun r5 hkeep => ?_
    obtain ⟨e1_5, e2_5, e3_5, e7_5, e13_5, -⟩ := hkeep
    simp [go_sem, e1_4, e2_4, e3_4, e7_4] at e1_5 e2_5 e3_5 e7_5 e13_5
    clear e1_4 e2_4 e3_4 e7_4
    refine Wp.condF (by go_simp) ?_
    by_cases h1 : (35 : Int) < (l.length : Int)
    · skip
      refine Wp.skip ?_
      refine thenK_normal ?_
      refine Wp.seq ?_
      refine Wp.seqRegion (.inl rfl) (by kernel_rfl) fun K' gd hK hg => ?_
      clear hg
      go_simp
      refine hK _ _ ?_
      clear hK K' gd
      refine Wp.keep [1, 2, 3, 17] fun r6 hkeep => ?_
      obtain ⟨e1_6, e2_6, e3_6, e17_6, -⟩ := hkeep
      simp [go_sem, e1_5, e2_5, e3_5, e7_5, e13_5] at e1_6 e2_6 e3_6 e17_6
      clear e1_5 e2_5 e3_5 e7_5 e13_5
      refine Wp.condT (by go_simp) ?_
      refine Wp.seqRegion (.inl rfl) (by kernel_rfl) fun K' gd hK hg => ?_
      clear hg
      go_simp
      refine hK _ _ ?_
      clear hK K' gd
      refine Wp.keep [6] fun r7 hkeep => ?_
      obtain ⟨e6_7, -⟩ := hkeep
      simp [go_sem, e1_6, e2_6, e3_6, e17_6] at e6_7
      clear e1_6 e2_6 e3_6 e17_6
      refine Wp.ret ?_
      refine thenK_ret ?_
      refine endK_tmp Tryz.results56 (by decide) ?_
      rw [e6_7]
      exact ⟨by unfold chkP; rw [if_pos h0, if_pos (by omega)], xw⟩
    · skip
      refine Wp.skip ?_
      refine thenK_normal ?_
      refine Wp.seq ?_
      refine Wp.seqRegion (.inl rfl) (by kernel_rfl) fun K' gd hK hg => ?_
      clear hg
      go_simp
      refine hK _ _ ?_
      clear hK K' gd
      refine Wp.keep [1, 2, 3, 17] fun r8 hkeep => ?_
      obtain ⟨e1_8, e2_8, e3_8, e17_8, -⟩ := hkeep
      simp [go_sem, e1_5, e2_5, e3_5, e7_5, e13_5] at e1_8 e2_8 e3_8 e17_8
      clear e1_5 e2_5 e3_5 e7_5 e13_5
      refine Wp.condF (by go_simp) ?_
      have hg := checkS_zero.1 h0
      obtain ⟨p, rfl, rfl, rfl, rfl, rfl, rfl, hO⟩ := (hV.ext xw).aO hg
      refine Wp.skip ?_
      refine thenK_normal ?_
      refine Wp.seq ?_
      refine Wp.seqRegion (.inl rfl) (by kernel_rfl) fun K' gd hK hg => ?_
      clear hg
      refine Wops.cut 3 fun K1 hK1 => ?_
      simp only [List.take_succ_cons, List.take_zero]
      go_simp
      refine Wcall (.inl rfl) (leads_c p o _ l _ hO hg (hl.ext xw) hln) ?_
      rintro v w3 ⟨rfl, hE⟩
      go_simp
      refine hK1 _ _ ?_
      clear hK1 K1
      simp only [List.drop_succ_cons, List.drop_zero]
      have z9 := Below.size hE
      replace f3 := Ext.fz hE c3_0 f3
      replace xw := Ext.trans xw hE
      replace c3_0 := Ext.cell hE c3_0
      replace c3_1 := Ext.cell hE c3_1
      clear hE
      go_simp
      refine hK _ _ ?_
      clear hK K' gd
      refine Wp.keep [2, 8, 9] fun r10 hkeep => ?_
      obtain ⟨e2_10, e8_10, e9_10, -⟩ := hkeep
      simp [go_sem, e1_8, e2_8, e3_8, e17_8] at e2_10 e8_10 e9_10
      clear e1_8 e2_8 e3_8 e17_8
      by_cases h2 : 0 ≤ showsV o l
      · skip
        have e1 : leadN o l = showsV o l := if_pos h2
        have e2 : leadB o l = true := decide_eq_true h2
        by_cases h3 : showsV o l = d
        · skip
          refine Wp.seqRegion (.inl rfl) (by kernel_rfl) fun K' gd hK hg => ?_
          have g2 : gd 2 = some 26 := hg 2
          clear hg
          go_simp
          refine hK _ _ ?_
          clear hK K' gd g2
          refine Wp.keep [30] fun r11 hkeep => ?_
          obtain ⟨e30_11, -⟩ := hkeep
          simp [go_sem, e2_10, e8_10, e9_10] at e30_11
          clear e2_10 e8_10 e9_10
          refine Wp.condF (by go_simp) ?_
          refine Wp.skip ?_
          refine thenK_normal ?_
          refine Wp.seqRegion (.inl rfl) (by kernel_rfl) fun K' gd hK hg => ?_
          clear hg
          go_simp
          refine hK _ _ ?_
          clear hK K' gd
          refine Wp.keep [6] fun r12 hkeep => ?_
          obtain ⟨e6_12, -⟩ := hkeep
          simp [go_sem, e30_11] at e6_12
          clear e30_11
          refine Wp.ret ?_
          refine endK_tmp Tryz.results56 (by decide) ?_
          rw [e6_12]
          exact ⟨by unfold chkP; rw [if_pos h0, if_neg (by omega), if_pos ⟨h2, h3⟩], xw⟩
        · skip
          refine Wp.seqRegion (.inl rfl) (by kernel_rfl) fun K' gd hK hg => ?_
          have g2 : gd 2 = some 26 := hg 2
          clear hg
          go_simp
          refine hK _ _ ?_
          clear hK K' gd g2
          refine Wp.keep [30] fun r13 hkeep => ?_
          obtain ⟨e30_13, -⟩ := hkeep
          simp [go_sem, e2_10, e8_10, e9_10] at e30_13
          clear e2_10 e8_10 e9_10
          refine Wp.condT (by go_simp) ?_
          refine Wp.seqRegion (.inl rfl) (by kernel_rfl) fun K' gd hK hg => ?_
          clear hg
          go_simp
          refine hK _ _ ?_
          clear hK K' gd
          refine Wp.keep [6] fun r14 hkeep => ?_
          obtain ⟨e6_14, -⟩ := hkeep
          simp [go_sem, e30_13] at e6_14
          clear e30_13
          refine Wp.ret ?_
          refine thenK_ret ?_
          refine endK_tmp Tryz.results56 (by decide) ?_
          rw [e6_14]
          exact ⟨by unfold chkP; rw [if_pos h0, if_neg (by omega), if_neg (fun h => h3 h.2)], xw⟩
      · skip
        have e2 : leadB o l = false := decide_eq_false h2
        refine Wp.seqRegion (.inl rfl) (by kernel_rfl) fun K' gd hK hg => ?_
        have g2 : gd 2 = some 26 := hg 2
        clear hg
        go_simp
        refine hK _ _ ?_
        clear hK K' gd g2
        refine Wp.keep [30] fun r15 hkeep => ?_
        obtain ⟨e30_15, -⟩ := hkeep
        simp [go_sem, e2_10, e8_10, e9_10] at e30_15
        clear e2_10 e8_10 e9_10
        refine Wp.condT (by go_simp) ?_
        refine Wp.seqRegion (.inl rfl) (by kernel_rfl) fun K' gd hK hg => ?_
        clear hg
        go_simp
        refine hK _ _ ?_
        clear hK K' gd
        refine Wp.keep [6] fun r16 hkeep => ?_
        obtain ⟨e6_16, -⟩ := hkeep
        simp [go_sem, e30_15] at e6_16
        clear e30_15
        refine Wp.ret ?_
        refine thenK_ret ?_
        refine endK_tmp Tryz.results56 (by decide) ?_
        rw [e6_16]
        exact ⟨by unfold chkP; rw [if_pos h0, if_neg (by omega), if_neg (fun h => h2 h.1)], xw⟩
  · skip
    refine Wp.seqRegion (.inl rfl) (by kernel_rfl) fun K' gd hK hg => ?_
    clear hg
    go_simp
    refine hK _ _ ?_
    clear hK K' gd
    refine Wp.keep [1, 2, 3, 7, 13] fun r17 hkeep => ?_
    obtain ⟨e1_17, e2_17, e3_17, e7_17, e13_17, -⟩ := hkeep
    simp [go_sem, e1_4, e2_4, e3_4, e7_4] at e1_17 e2_17 e3_17 e7_17 e13_17
    clear e1_4 e2_4 e3_4 e7_4
    refine Wp.condT (by go_simp) ?_
    refine Wp.seqRegion (.inl rfl) (by kernel_rfl) fun K' gd hK hg => ?_
    clear hg
    go_simp
    refine hK _ _ ?_
    clear hK K' gd
    refine Wp.keep [6] fun r18 hkeep => ?_
    obtain ⟨e6_18, -⟩ := hkeep
    simp [go_sem, e1_17, e2_17, e3_17, e7_17, e13_17] at e6_18
    clear e1_17 e2_17 e3_17 e7_17 e13_17
    refine Wp.ret ?_
    refine thenK_ret ?_
    refine endK_tmp Tryz.results56 (by decide) ?_
    rw [e6_18]
    exact ⟨by unfold chkP; rw [if_neg h0], xw⟩
end Go.Proofs.YtnfagcccgmakdaaGreat
namespace Go.Proofs.YtnfagcccgmakdaaGreat
open Go.RowKit Go.Wk Go.Proofs
attribute [local irreducible] Go.Wk.Wops Go.Wk.Wp Go.Wk.Mtree Go.Wk.Mops
set_option maxHeartbeats 4000000
theorem mod_nat2 {a : Int} {n : Nat} (ha : 0 ≤ a) (hn : 0 < n) : ∃ s : Nat, a.tmod (n : Int) = (s : Int) ∧ s < n := by
  refine ⟨(a % n).toNat, ?_, ?_⟩
  · rw [Int.tmod_eq_emod_of_nonneg ha]
    have := Int.emod_nonneg a (show (n : Int) ≠ 0 by omega)
    omega
  · have := Int.emod_lt_of_pos a (show (0 : Int) < n by omega)
    have := Int.emod_nonneg a (show (n : Int) ≠ 0 by omega)
    omega
theorem backF_len3 (o : Ord) : ∀ (f : Nat) (s : Nat × Nat), (backF o f s).length ≤ f + 1
  | 0, _ => Nat.le_refl _
  | f + 1, s => by
    show (s :: (match nextS o s with | some x => backF o f x | none => [])).length ≤ _
    cases nextS o s with
    | none => simp
    | some x => have := backF_len3 o f x; simp; omega
theorem pathL_len3 (o : Ord) (s : Nat × Nat) : (pathL o s).length ≤ s.1 + s.2 + 1 := by
  unfold pathL; rw [List.length_reverse]; exact backF_len3 o _ s
theorem getLast_idx {α : Type} {l : List α} {x : α} (h : l.getLast? = some x) : ∃ k, l.length = k + 1 ∧ ∃ hk : k < l.length, l[k] = x := by
  rw [List.getLast?_eq_getElem?] at h
  obtain ⟨h1, h2⟩ := List.getElem?_eq_some_iff.1 h
  exact ⟨l.length - 1, by omega, h1, h2⟩
theorem stint_nat2 {o : Ord} {i j : Nat} (hi : i < o.n) (hj : j < o.m) : isStint o (i : Int) (j : Int) = true := by
  unfold isStint; simp; omega
theorem Times_t (v : Value) (o : Ord) (w : World) (hV : OrderV w w.heap.size v o) (hg : OrdGood o) (hn : 0 < o.n) :
    CallsV Tryz.prog 12 #[v] w fun v w' => ∃ bt obt ct rbt rot rct, v = .tuple #[.slice (some ⟨bt, obt, none⟩) o.n ct, .int .i64 0] ∧ TabH w' (.slice (some ⟨bt, obt, none⟩) o.n ct) o (begA o) ∧ TabG w' bt obt rbt rot rct o.n o.m (begA o) ∧ Ext w w' :=
  (Times_g v o w hV hg hn).mono fun _ _ ⟨t, h1, h2, h3⟩ => by
    obtain ⟨-, b, ob, c, rb, ro, rc, rfl, h4⟩ := id h2
    exact ⟨b, ob, c, rb, ro, rc, h1, h2, h4, h3⟩
theorem Path_t (v : Value) (o : Ord) (i j : Nat) (P : List SZ) (k : Nat) (w : World) (hV : OrderV w w.heap.size v o) (hg : OrdGood o) (hi : i < o.n) (hj : j < o.m) (hP : pathZ o (i, j) = P) (hk : P.length = k + 1) (hk1 : ∃ hk : k < P.length, P[k] = zS (i, j)) :
    CallsV Tryz.prog 55 #[v, .agg #[.int .i64 (i : Int), .int .i64 (j : Int)]] w fun v w' => ∃ b ob c, v = .tuple #[.slice (some ⟨b, ob, none⟩) (k + 1) c, .int .i64 0] ∧ StintsV w' w'.heap.size (.slice (some ⟨b, ob, none⟩) (k + 1) c) P ∧
      w'.cell? ⟨b, ob + k * 2, none⟩ = some (.int .i64 (i : Int)) ∧ w'.cell? ⟨b, ob + k * 2 + 1, none⟩ = some (.int .i64 (j : Int)) ∧ Ext w w' :=
  (Path_c v o i j w hV hg.fits).mono fun _ _ ⟨t, h1, h2, h3⟩ => by
    have h0 := askS_good hg (stint_nat2 hi hj)
    rw [h0] at h1 h2; rw [if_pos rfl, Int.toNat_natCast, Int.toNat_natCast, hP] at h2
    have h4 := h2.stintsV
    obtain ⟨A, c, rfl, h5⟩ := id h4
    obtain ⟨hk1, hk2⟩ := hk1
    obtain ⟨b, ob, rfl, h6, h7⟩ := h4.at hk1
    rw [hk2] at h6 h7
    rw [hk] at h1 h4
    exact ⟨b, ob, c, h1, h4, h6, h7, h3⟩
theorem prove_c (v v1 : Value) (o : Ord) (a b : Int) (l : List SZ) (d : Int) (w : World) (hV : OrderV w w.heap.size v o) (hf : Fits o) (ha : 0 ≤ a ∧ a ≤ 255) (hb : 0 ≤ b ∧ b ≤ 255) (hl : StintsV w w.heap.size v1 l) :
    CallsV Tryz.prog 7 #[v, .int .u8 a, .int .u8 b, v1, .int .i64 d] w fun v w' => v = .bool true ∧ Ext w w' := by
  obtain ⟨L1, k1, d1, L2, k2, d2, rfl, hV⟩ := hV.two
  obtain ⟨A1, g1, rfl, -⟩ := id hl
  refine Wp.fn Tryz.func7 rfl Tryz.ntmps7 (by simp) ?_
  have xw := Ext.refl w
  refine Wp.keep [0, 1, 2, 3, 4] fun r1 hkeep => ?_
  obtain ⟨e0_1, e1_1, e2_1, e3_1, e4_1, -⟩ := hkeep
  simp [go_sem] at e0_1 e1_1 e2_1 e3_1 e4_1
  by_cases hs : SmallP o
  · skip
    refine Wp.seqRegion (.inl rfl) (by kernel_rfl) fun K' gd hK hg => ?_
    clear hg
    refine Wops.cut 1 fun K1 hK1 => ?_
    simp only [List.take_succ_cons, List.take_zero]
    go_simp
    refine hK1 _ _ ?_
    clear hK1 K1
    simp only [List.drop_succ_cons, List.drop_zero]
    refine Wops.absA fun V5_1 n5 hV5_1 => ?_
    obtain ⟨q5, hV5_1, s5, kV5_1, f5, r5⟩ := hV5_1
    try simp only [q5] at kV5_1 f5 r5 ⊢
    replace xw := Ext.trans xw hV5_1
    have c5_0 := kV5_1 0 _ rfl
    have c5_1 := kV5_1 1 _ rfl
    clear kV5_1 hV5_1
    clear r5
    go_simp
    refine hK _ _ ?_
    clear hK K' gd
    refine Wp.keep [1, 2, 3, 4, 5] fun r2 hkeep => ?_
    obtain ⟨e1_2, e2_2, e3_2, e4_2, e5_2, -⟩ := hkeep
    simp [go_sem, e0_1, e1_1, e2_1, e3_1, e4_1] at e1_2 e2_2 e3_2 e4_2 e5_2
    clear e0_1 e1_1 e2_1 e3_1 e4_1
    refine Wp.seq ?_
    refine Wp.seqRegion (.inl rfl) (by kernel_rfl) fun K' gd hK hg => ?_
    have g3 : gd 3 = some 20 := hg 3
    clear hg
    refine Wops.cut 2 fun K1 hK1 => ?_
    simp only [List.take_succ_cons, List.take_zero]
    go_simp
    refine Wcall (.inl rfl) (small_T hs _ (hV.ext xw) hf) ?_
    rintro v w2 ⟨rfl, hE⟩
    go_simp
    refine hK1 _ _ ?_
    clear hK1 K1
    simp only [List.drop_succ_cons, List.drop_zero]
    have z3 := Below.size hE
    replace f5 := Ext.fz hE c5_0 f5
    replace xw := Ext.trans xw hE
    replace c5_0 := Ext.cell hE c5_0
    replace c5_1 := Ext.cell hE c5_1
    clear hE
    go_simp
    refine hK _ _ ?_
    clear hK K' gd g3
    refine Wp.keep [1, 2, 3, 4, 5, 24] fun r4 hkeep => ?_
    obtain ⟨e1_4, e2_4, e3_4, e4_4, e5_4, e24_4, -⟩ := hkeep
    simp [go_sem, e1_2, e2_2, e3_2, e4_2, e5_2] at e1_4 e2_4 e3_4 e4_4 e5_4 e24_4
    clear e1_2 e2_2 e3_2 e4_2 e5_2
    by_cases hln : (60 : Int) < (l.length : Int)
    · skip
      refine Wp.condT (by go_simp) ?_
      refine Wp.seqRegion (.inl rfl) (by kernel_rfl) fun K' gd hK hg => ?_
      clear hg
      refine Wops.cut 1 fun K1 hK1 => ?_
      simp only [List.take_succ_cons, List.take_zero]
      go_simp
      refine Wcall (.inl rfl) (sanity_c _) ?_
      rintro v w3 ⟨rfl, hE⟩
      go_simp
      refine hK1 _ _ ?_
      clear hK1 K1
      simp only [List.drop_succ_cons, List.drop_zero]
      have z5 := Below.size hE
      replace f5 := Ext.fz hE c5_0 f5
      replace xw := Ext.trans xw hE
      replace c5_0 := Ext.cell hE c5_0
      replace c5_1 := Ext.cell hE c5_1
      clear hE
      go_simp
      refine hK _ _ ?_
      clear hK K' gd
      refine Wp.keep [10] fun r6 hkeep => ?_
      obtain ⟨e10_6, -⟩ := hkeep
      simp [go_sem, e1_4, e2_4, e3_4, e4_4, e5_4, e24_4] at e10_6
      clear e1_4 e2_4 e3_4 e4_4 e5_4 e24_4
      refine Wp.ret ?_
      refine thenK_ret ?_
      refine endK_tmp Tryz.results7 (by decide) ?_
      rw [e10_6]
      exact ⟨rfl, xw⟩
    · skip
      refine Wp.condF (by go_simp) ?_
      have hg := hs.good
      have ho := hg.ok
      have hc0 : checkS o = 0 := checkS_zero.2 hg
      have hn := hs.n
      have hm1 := ho.hm1
      have hm8 := hs.m
      obtain ⟨p, rfl, rfl, rfl, rfl, rfl, rfl, hO⟩ := (hV.ext xw).aO hg
      obtain ⟨si, hsi, hsn⟩ := mod_nat2 ha.1 hn.1
      obtain ⟨sj, hsj, hsm⟩ := mod_nat2 (n := o.m) hb.1 (by omega)
      have hwa : IntKind.i64.wrap a = a := IntWalk.i64_in _ (by omega)
      have hwb : IntKind.i64.wrap b = b := IntWalk.i64_in _ (by omega)
      have hn0 : ¬ o.n = 0 := by omega
      have hm0 : ¬ o.m = 0 := by omega
      obtain ⟨hsw, hla⟩ := pathZ_shows ho hsn hsm
      have hpl : (pathZ o (si, sj)).length ≤ 30 := (by unfold pathZ; rw [List.length_map]; have := pathL_len3 o (si, sj); simp only at this; omega)
      obtain ⟨k9, hk9, hkl⟩ := getLast_idx hla
      obtain ⟨P, hP⟩ : ∃ _P, pathZ o (si, sj) = _P := ⟨_, rfl⟩
      rw [hP] at hsw hpl hk9
      have hkl2 : ∃ hk : k9 < P.length, P[k9] = zS (si, sj) := (by subst hP; exact hkl)
      have hb0 : 0 ≤ begA o si sj := (begA_ok ho hsn hsm).1
      have hck : chkP o P (begA o si sj) = 0 := (by unfold chkP; rw [if_pos hc0, if_neg (by omega), if_pos ⟨by omega, hsw⟩])
      clear hkl hla hsw
      have hP2 : ∃ _u : Unit, pathZ o (si, sj) = P ∧ P.length = k9 + 1 := ⟨(), hP, hk9⟩
      clear hP hk9
      have b3 : (si : Int) < (o.n : Int) := by omega
      have b4 : (sj : Int) < (o.m : Int) := by omega
      have b5 : ((k9 : Int) + 1 == 0) = false := (by simp; omega)
      have hw9 : IntKind.i64.wrap (k9 : Int) = (k9 : Int) := IntWalk.i64_in _ (by have := hP2.choose_spec.2; omega)
      have b9 : (k9 : Int) < (k9 : Int) + 1 := by omega
      refine Wp.skip ?_
      refine thenK_normal ?_
      refine Wp.seqRegion (.inl rfl) (by kernel_rfl) fun K' gd hK hg => ?_
      clear hg
      refine Wops.cut 2 fun K1 hK1 => ?_
      simp only [List.take_succ_cons, List.take_zero]
      go_simp
      refine Wcall (.inl rfl) (Times_t _ o _ (hV.ext xw) hg hn.1) ?_
      rintro v w3 ⟨bt, obt, ct, rbt, rot, rct, rfl, hT, hG, hE⟩
      go_simp
      refine hK1 _ _ ?_
      clear hK1 K1
      simp only [List.drop_succ_cons, List.drop_zero]
      have z7 := Below.size hE
      replace f5 := Ext.fz hE c5_0 f5
      replace xw := Ext.trans xw hE
      replace c5_0 := Ext.cell hE c5_0
      replace c5_1 := Ext.cell hE c5_1
      clear hE
      go_simp
      refine hK _ _ ?_
      clear hK K' gd
      refine Wp.keep [1, 2, 3, 4, 5, 11, 12] fun r8 hkeep => ?_
      obtain ⟨e1_8, e2_8, e3_8, e4_8, e5_8, e11_8, e12_8, -⟩ := hkeep
      simp [go_sem, e1_4, e2_4, e3_4, e4_4, e5_4, e24_4] at e1_8 e2_8 e3_8 e4_8 e5_8 e11_8 e12_8
      clear e1_4 e2_4 e3_4 e4_4 e5_4 e24_4
      refine Wp.seq ?_
      refine Wp.seqRegion (.inl rfl) (by kernel_rfl) fun K' gd hK hg => ?_
      have g2 : gd 2 = some 33 := hg 2
      clear hg
      refine Wops.cut 6 fun K1 hK1 => ?_
      simp only [List.take_succ_cons, List.take_zero]
      go_simp
      refine Wcall (.inl rfl) (wide_g _ _ o _ _ (hV.ext xw) hT (by omega)) ?_
      rintro v w4 ⟨rfl, hE⟩
      go_simp
      refine hK1 _ _ ?_
      clear hK1 K1
      simp only [List.drop_succ_cons, List.drop_zero]
      have z9 := Below.size hE
      replace f5 := Ext.fz hE c5_0 f5
      replace hT := hT.ext hE
      replace hG := hG.ext hE
      replace xw := Ext.trans xw hE
      replace c5_0 := Ext.cell hE c5_0
      replace c5_1 := Ext.cell hE c5_1
      clear hE
      go_simp
      refine hK _ _ ?_
      clear hK K' gd g2
      refine Wp.keep [1, 2, 3, 4, 5, 11, 38] fun r10 hkeep => ?_
      obtain ⟨e1_10, e2_10, e3_10, e4_10, e5_10, e11_10, e38_10, -⟩ := hkeep
      simp [go_sem, e1_8, e2_8, e3_8, e4_8, e5_8, e11_8, e12_8] at e1_10 e2_10 e3_10 e4_10 e5_10 e11_10 e38_10
      clear e1_8 e2_8 e3_8 e4_8 e5_8 e11_8 e12_8
      refine Wp.condF (by go_simp) ?_
      refine Wp.skip ?_
      refine thenK_normal ?_
      refine Wp.seqDrawT (.inl rfl) mixed (.rd [0, 1, 2, 3, 4, 5, 6, 7, 8, 9, 10, 11] (.both (.act 12 false (.act 13 false (.act 14 true .done))) (.act 13 false (.act 12 false (.act 14 true .done))))) (by kernel_rfl) (fun ρ W => AllEq [3, 4, 5, 11] ρ r10 ∧ (Ext w4 W ∧ ∃ sb, ρ 13 = .pointer (some ⟨sb, 0, none⟩) ∧ W.cell? ⟨sb, 0, none⟩ = some (.int .i64 (si : Int)) ∧ W.cell? ⟨sb, 1, none⟩ = some (.int .i64 (sj : Int)))) (fun K' gd hK hg => ?_) ?_
      · skip
        clear hg
        simp only [pickT, nth, List.map_cons, List.map_nil]
        apply Mtree.reads
        · intro w' hE'
          have hC' := hE'.cellsS
          go_simp
          with_reducible rfl
        refine Mtree.two ?_ ?_
        · skip
          refine Mtree.step fun K1 hK1 => ?_
          go_simp
          refine Wcall (.inl rfl) (at_c (si : Int) (sj : Int) _) ?_
          rintro v w5 ⟨rfl, hE5⟩
          first | have zq : w4.heap.size ≤ w5.heap.size := (Below.size hE5 : w4.drew.heap.size ≤ w5.heap.size) | have zq := Below.size hE5
          go_simp
          refine hK1 _ _ (by assumption) ?_
          clear hK1 K1
          refine Mtree.step fun K1 hK1 => ?_
          go_simp
          refine hK1 _ _ (by first | exact (Ext.refl _).alloc _ | exact Ext.refl _) ?_
          clear hK1 K1
          first | refine Mtree.abs fun V11 hV11 sV11 hVc hVf => ?_ | refine Mtree.absD fun V11 hV11 sV11 hVc hVf => ?_
          have cV11_0 := hVc 0 _ rfl
          have fV11_0 := hVf 0
          have cV11_1 := hVc 1 _ rfl
          have fV11_1 := hVf 1
          clear hVc hVf
          refine Mtree.stepT fun K1 hK1 => ?_
          go_simp
          refine hK1 _ _ ?_
          clear hK1 K1
          refine Mtree.fin ?_
          refine hK _ _ ⟨by simp [AllEq, go_sem], ?_⟩
          refine ⟨by repeat (first | assumption | exact Ext.refl _ | refine Ext.drew ?_ | refine Ext.alloc ?_ _ | refine Ext.setC ?_ (by omega) _ | refine Ext.trans ?_ (by assumption)), ?_⟩
          exact ⟨_, rfl, by go_simp, by go_simp⟩
        · skip
          refine Mtree.step fun K1 hK1 => ?_
          go_simp
          refine hK1 _ _ (by first | exact (Ext.refl _).alloc _ | exact Ext.refl _) ?_
          clear hK1 K1
          first | refine Mtree.abs fun V12 hV12 sV12 hVc hVf => ?_ | refine Mtree.absD fun V12 hV12 sV12 hVc hVf => ?_
          have cV12_0 := hVc 0 _ rfl
          have fV12_0 := hVf 0
          have cV12_1 := hVc 1 _ rfl
          have fV12_1 := hVf 1
          clear hVc hVf
          refine Mtree.step fun K1 hK1 => ?_
          go_simp
          refine Wcall (.inl rfl) (at_c (si : Int) (sj : Int) _) ?_
          rintro v w5 ⟨rfl, hE5⟩
          first | have zq : w4.heap.size ≤ w5.heap.size := (Below.size hE5 : w4.drew.heap.size ≤ w5.heap.size) | have zq := Below.size hE5
          go_simp
          refine hK1 _ _ (by assumption) ?_
          clear hK1 K1
          have fc13 := (Ext.frozen hE5 cV12_0).trans fV12_0
          have c13 := Ext.cell hE5 cV12_0
          have fc14 := (Ext.frozen hE5 cV12_1).trans fV12_1
          have c14 := Ext.cell hE5 cV12_1
          refine Mtree.stepT fun K1 hK1 => ?_
          go_simp
          refine hK1 _ _ ?_
          clear hK1 K1
          refine Mtree.fin ?_
          refine hK _ _ ⟨by simp [AllEq, go_sem], ?_⟩
          refine ⟨by repeat (first | assumption | exact Ext.refl _ | refine Ext.drew ?_ | refine Ext.alloc ?_ _ | refine Ext.setC ?_ (by omega) _ | refine Ext.trans ?_ (by assumption)), ?_⟩
          exact ⟨_, rfl, by go_simp, by go_simp⟩
      · rintro r15 W ⟨hA, hT2, sb, e13, s0, s1⟩
        obtain ⟨e3_15, e4_15, e5_15, e11_15, -⟩ := hA
        rw [e3_10] at e3_15
        rw [e4_10] at e4_15
        rw [e5_10] at e5_15
        rw [e11_10] at e11_15
        clear e1_10 e2_10 e3_10 e4_10 e5_10 e11_10 e38_10
        have zhT2 := Below.size hT2
        replace f5 := Ext.fz hT2 c5_0 f5
        replace hT := hT.ext hT2
        replace hG := hG.ext hT2
        replace xw := Ext.trans xw hT2
        replace c5_0 := Ext.cell hT2 c5_0
        replace c5_1 := Ext.cell hT2 c5_1
        clear hwa hwb hsi hsj
        have y1 := hG.row si hsn
        have y2 := hG.cell si sj hsn hsm
        refine Wp.seqRegion (.inl rfl) (by kernel_rfl) fun K' gd hK hg => ?_
        clear hg
        refine Wops.cut 3 fun K1 hK1 => ?_
        simp only [List.take_succ_cons, List.take_zero]
        go_simp
        refine Wcall (.inl rfl) (Path_t _ o si sj P k9 _ (hV.ext xw) hg hsn hsm hP2.choose_spec.1 hP2.choose_spec.2 hkl2) ?_
        rintro v w6 ⟨b2, o2, g2, rfl, hp, p1, p2, hE⟩
        go_simp
        refine hK1 _ _ ?_
        clear hK1 K1
        simp only [List.drop_succ_cons, List.drop_zero]
        have z16 := Below.size hE
        replace f5 := Ext.fz hE c5_0 f5
        replace hT := hT.ext hE
        replace hG := hG.ext hE
        replace xw := Ext.trans xw hE
        replace c5_0 := Ext.cell hE c5_0
        replace c5_1 := Ext.cell hE c5_1
        replace s0 := Ext.cell hE s0
        replace s1 := Ext.cell hE s1
        replace y1 := Ext.cell hE y1
        replace y2 := Ext.cell hE y2
        clear hE
        go_simp
        refine hK _ _ ?_
        clear hK K' gd
        refine Wp.keep [3, 4, 5, 11, 13, 14, 15] fun r17 hkeep => ?_
        obtain ⟨e3_17, e4_17, e5_17, e11_17, e13_17, e14_17, e15_17, -⟩ := hkeep
        simp [go_sem, e3_15, e4_15, e5_15, e11_15, e13] at e3_17 e4_17 e5_17 e11_17 e13_17 e14_17 e15_17
        clear e3_15 e4_15 e5_15 e11_15 e13
        refine Wp.seq ?_
        refine Wp.seqDraw (.inl rfl) mixed [([0, 1, 2], none), ([3, 4, 5, 6, 7], none), ([8, 9, 10, 11, 12], none), ([13], some (14, false)), ([15, 16, 17], none), ([18, 19, 20, 21, 22], none), ([23, 24, 25, 26, 27], none), ([28, 29, 30, 31], none)] (by kernel_rfl) fun K' gd hK hg => ?_
        have g2 : gd 2 = some 60 := hg 2
        have g17 : gd 17 = some 75 := hg 17
        have g22 : gd 22 = some 80 := hg 22
        clear hg
        simp only [pick, nth, List.map_cons, List.map_nil, Option.map_none, Option.map_some]
        refine Mops.absD fun D3 hD3 zD3 => ?_
        replace f5 := Ext.fz hD3 c5_0 f5
        replace hT := hT.ext hD3
        replace hG := hG.ext hD3
        replace hp := hp.ext hD3
        replace xw := Ext.trans xw hD3
        replace c5_0 := Ext.cell hD3 c5_0
        replace c5_1 := Ext.cell hD3 c5_1
        replace s0 := Ext.cell hD3 s0
        replace s1 := Ext.cell hD3 s1
        replace y1 := Ext.cell hD3 y1
        replace y2 := Ext.cell hD3 y2
        replace p1 := Ext.cell hD3 p1
        replace p2 := Ext.cell hD3 p2
        clear hD3
        apply Mops.none
        · intro w' hE'
          have hC' := hE'.cellsS
          go_simp
          with_reducible rfl
        apply Mops.none
        · intro w' hE'
          have hC' := hE'.cellsS
          go_simp
          with_reducible rfl
        apply Mops.none
        · intro w' hE'
          have hC' := hE'.cellsS
          go_simp
          with_reducible rfl
        apply Mops.act
        · intro w' hE'
          have hC' := hE'.cellsS
          go_simp
          with_reducible rfl
        intro K1 hK1
        go_simp
        refine Wcall (.inl rfl) (checkPath_c _ _ o P _ _ (hV.ext xw) hf hp (by omega)) ?_
        rintro v w7 ⟨rfl, hE⟩
        rw [hck]
        go_simp
        refine hK1 _ _ (by assumption) ?_
        clear hK1 K1
        have z18 := Below.size hE
        replace f5 := Ext.fz hE c5_0 f5
        replace hT := hT.ext hE
        replace hG := hG.ext hE
        replace hp := hp.ext hE
        replace xw := Ext.trans xw hE
        replace c5_0 := Ext.cell hE c5_0
        replace c5_1 := Ext.cell hE c5_1
        replace s0 := Ext.cell hE s0
        replace s1 := Ext.cell hE s1
        replace y1 := Ext.cell hE y1
        replace y2 := Ext.cell hE y2
        replace p1 := Ext.cell hE p1
        replace p2 := Ext.cell hE p2
        clear hE
        apply Mops.none
        · intro w' hE'
          have hC' := hE'.cellsS
          go_simp
          with_reducible rfl
        apply Mops.none
        · intro w' hE'
          have hC' := hE'.cellsS
          go_simp
          with_reducible rfl
        apply Mops.none
        · intro w' hE'
          have hC' := hE'.cellsS
          go_simp
          with_reducible rfl
        apply Mops.none
        · intro w' hE'
          have hC' := hE'.cellsS
          go_simp
          with_reducible rfl
        refine Mops.done ?_
        refine hK _ _ ?_
        clear hK K' gd g2 g17 g22
        refine Wp.keep [3, 4, 5, 11, 89] fun r19 hkeep => ?_
        obtain ⟨e3_19, e4_19, e5_19, e11_19, e89_19, -⟩ := hkeep
        simp [go_sem, e3_17, e4_17, e5_17, e11_17, e13_17, e14_17, e15_17] at e3_19 e4_19 e5_19 e11_19 e89_19
        clear e3_17 e4_17 e5_17 e11_17 e13_17 e14_17 e15_17
        refine Wp.condF (by go_simp) ?_
        by_cases h1 : chkP o l d = 0
        · skip
          refine Wp.skip ?_
          refine thenK_normal ?_
          refine Wp.seq ?_
          refine Wp.seqRegion (.inl rfl) (by kernel_rfl) fun K' gd hK hg => ?_
          clear hg
          refine Wops.cut 4 fun K1 hK1 => ?_
          simp only [List.take_succ_cons, List.take_zero]
          go_simp
          refine Wcall (.inl rfl) (checkPath_c _ _ o l d _ (hV.ext xw) hf (hl.ext xw) (by omega)) ?_
          rintro v w8 ⟨rfl, hE⟩
          rw [h1]
          go_simp
          refine hK1 _ _ ?_
          clear hK1 K1
          simp only [List.drop_succ_cons, List.drop_zero]
          have z20 := Below.size hE
          replace f5 := Ext.fz hE c5_0 f5
          replace hT := hT.ext hE
          replace hG := hG.ext hE
          replace hp := hp.ext hE
          replace xw := Ext.trans xw hE
          replace c5_0 := Ext.cell hE c5_0
          replace c5_1 := Ext.cell hE c5_1
          replace s0 := Ext.cell hE s0
          replace s1 := Ext.cell hE s1
          replace y1 := Ext.cell hE y1
          replace y2 := Ext.cell hE y2
          replace p1 := Ext.cell hE p1
          replace p2 := Ext.cell hE p2
          clear hE
          go_simp
          refine hK _ _ ?_
          clear hK K' gd
          refine Wp.keep [3, 4, 5, 11, 94] fun r21 hkeep => ?_
          obtain ⟨e3_21, e4_21, e5_21, e11_21, e94_21, -⟩ := hkeep
          simp [go_sem, e3_19, e4_19, e5_19, e11_19, e89_19] at e3_21 e4_21 e5_21 e11_21 e94_21
          clear e3_19 e4_19 e5_19 e11_19 e89_19
          refine Wp.condF (by go_simp) ?_
          obtain ⟨⟨qi, qj⟩, hql, hq1, hq2, hq3⟩ : ∃ q : Nat × Nat, l.getLast? = some (zS q) ∧ q.1 < o.n ∧ q.2 < o.m ∧ d ≤ begA o q.1 q.2 := (by unfold chkP at h1; rw [if_pos hc0] at h1; have h2 : 0 ≤ showsV o l ∧ showsV o l = d := (by by_cases h2 : 0 ≤ showsV o l ∧ showsV o l = d; exact h2; rw [if_neg (by omega), if_neg h2] at h1; omega); obtain ⟨q, r1, r2, r3, r4⟩ := shows_le ho h2.1; exact ⟨q, r1, r2, r3, by omega⟩)
          obtain ⟨k8, hk8, hkl, hkq⟩ := getLast_idx hql
          obtain ⟨b1, o1, rfl, r1, r2⟩ := StintsV.at hl hkl
          rw [hkq] at r1 r2
          have r3 : w.cell? ⟨b1, o1 + k8 * 2, none⟩ = some (.int .i64 (qi : Int)) := r1
          have r4 : w.cell? ⟨b1, o1 + k8 * 2 + 1, none⟩ = some (.int .i64 (qj : Int)) := r2
          have r3 := xw.cell r3
          have r4 := xw.cell r4
          have y3 := hG.row qi hq1
          have y4 := hG.cell qi qj hq1 hq2
          clear r1 r2 hql hkq
          simp only at hq1 hq2 hq3
          have b6 : (qi : Int) < (o.n : Int) := by omega
          have b7 : (qj : Int) < (o.m : Int) := by omega
          have b8 : ((k8 : Int) + 1 == 0) = false := (by simp; omega)
          have hw8 : IntKind.i64.wrap (k8 : Int) = (k8 : Int) := IntWalk.i64_in _ (by omega)
          have b10 : (k8 : Int) < (k8 : Int) + 1 := by omega
          have hcap : k8 + 1 ≤ g1 := (by obtain ⟨_, _, e, -, h⟩ := hl; injection e with e e2 e3; omega)
          refine Wp.skip ?_
          refine thenK_normal ?_
          refine Wp.seq ?_
          refine Wp.seqRegion (.inl rfl) (by kernel_rfl) fun K' gd hK hg => ?_
          clear hg
          go_simp
          refine hK _ _ ?_
          clear hK K' gd
          refine Wp.keep [3, 4, 5, 11, 98] fun r22 hkeep => ?_
          obtain ⟨e3_22, e4_22, e5_22, e11_22, e98_22, -⟩ := hkeep
          simp [go_sem, e3_21, e4_21, e5_21, e11_21, e94_21] at e3_22 e4_22 e5_22 e11_22 e98_22
          clear e3_21 e4_21 e5_21 e11_21 e94_21
          refine Wp.condF (by go_simp) ?_
          refine Wp.skip ?_
          refine thenK_normal ?_
          refine Wp.seqRegion (.inl rfl) (by kernel_rfl) fun K' gd hK hg => ?_
          clear hg
          refine Wops.cut 8 fun K1 hK1 => ?_
          simp only [List.take_succ_cons, List.take_zero]
          go_simp
          refine hK1 _ _ ?_
          clear hK1 K1
          simp only [List.drop_succ_cons, List.drop_zero]
          refine Wops.absA fun V16_4 n16 hV16_4 => ?_
          obtain ⟨q16, hV16_4, s16, kV16_4, f16, r16⟩ := hV16_4
          try simp only [q16] at kV16_4 f16 r16 ⊢
          replace f5 := Ext.fz hV16_4 c5_0 f5
          replace hT := hT.ext hV16_4
          replace hG := hG.ext hV16_4
          replace hp := hp.ext hV16_4
          replace xw := Ext.trans xw hV16_4
          replace c5_0 := Ext.cell hV16_4 c5_0
          replace c5_1 := Ext.cell hV16_4 c5_1
          replace s0 := Ext.cell hV16_4 s0
          replace s1 := Ext.cell hV16_4 s1
          replace y1 := Ext.cell hV16_4 y1
          replace y2 := Ext.cell hV16_4 y2
          replace p1 := Ext.cell hV16_4 p1
          replace p2 := Ext.cell hV16_4 p2
          replace r3 := Ext.cell hV16_4 r3
          replace r4 := Ext.cell hV16_4 r4
          replace y3 := Ext.cell hV16_4 y3
          replace y4 := Ext.cell hV16_4 y4
          have c16_0 := kV16_4 0 _ rfl
          have c16_1 := kV16_4 1 _ rfl
          clear kV16_4 hV16_4
          clear r16
          try simp only [Wops_nil, updO_some, updO_none]
          refine hK _ _ ?_
          clear hK K' gd
          refine Wp.keep [4, 5, 11, 16] fun r23 hkeep => ?_
          obtain ⟨e4_23, e5_23, e11_23, e16_23, -⟩ := hkeep
          simp [go_sem, e3_22, e4_22, e5_22, e11_22, e98_22] at e4_23 e5_23 e11_23 e16_23
          clear e3_22 e4_22 e5_22 e11_22 e98_22
          refine Wp.seqDraw (.inl rfl) mixed [([], some (0, false)), ([1], none), ([2, 3, 4, 5, 6], none), ([7, 8, 9, 10, 11], none), ([12, 13], none), ([14, 15, 16, 17, 18], none), ([19, 20, 21, 22, 23], none), ([24, 25, 26], none), ([27, 28, 29, 30, 31], none), ([32, 33, 34, 35, 36], none), ([37, 38, 39], none)] (by kernel_rfl) fun K' gd hK hg => ?_
          have g1 : gd 1 = some 106 := hg 1
          have g6 : gd 6 = some 111 := hg 6
          have g13 : gd 13 = some 118 := hg 13
          have g18 : gd 18 = some 123 := hg 18
          have g26 : gd 26 = some 131 := hg 26
          clear hg
          simp only [pick, nth, List.map_cons, List.map_nil, Option.map_none, Option.map_some]
          refine Mops.absD fun D5 hD5 zD5 => ?_
          replace f5 := Ext.fz hD5 c5_0 f5
          replace f16 := Ext.fz hD5 c16_0 f16
          replace hT := hT.ext hD5
          replace hG := hG.ext hD5
          replace hp := hp.ext hD5
          replace xw := Ext.trans xw hD5
          replace c5_0 := Ext.cell hD5 c5_0
          replace c5_1 := Ext.cell hD5 c5_1
          replace s0 := Ext.cell hD5 s0
          replace s1 := Ext.cell hD5 s1
          replace y1 := Ext.cell hD5 y1
          replace y2 := Ext.cell hD5 y2
          replace p1 := Ext.cell hD5 p1
          replace p2 := Ext.cell hD5 p2
          replace r3 := Ext.cell hD5 r3
          replace r4 := Ext.cell hD5 r4
          replace y3 := Ext.cell hD5 y3
          replace y4 := Ext.cell hD5 y4
          replace c16_0 := Ext.cell hD5 c16_0
          replace c16_1 := Ext.cell hD5 c16_1
          clear hD5
          apply Mops.act
          · exact fun _ _ => Rops_done
          intro K1 hK1
          go_simp
          refine Wcall (.inl rfl) (sanity_c _) ?_
          rintro v w9 ⟨rfl, hE⟩
          go_simp
          refine hK1 _ _ (by assumption) ?_
          clear hK1 K1
          have z24 := Below.size hE
          replace f5 := Ext.fz hE c5_0 f5
          replace f16 := Ext.fz hE c16_0 f16
          replace hT := hT.ext hE
          replace hG := hG.ext hE
          replace hp := hp.ext hE
          replace xw := Ext.trans xw hE
          replace c5_0 := Ext.cell hE c5_0
          replace c5_1 := Ext.cell hE c5_1
          replace s0 := Ext.cell hE s0
          replace s1 := Ext.cell hE s1
          replace y1 := Ext.cell hE y1
          replace y2 := Ext.cell hE y2
          replace p1 := Ext.cell hE p1
          replace p2 := Ext.cell hE p2
          replace r3 := Ext.cell hE r3
          replace r4 := Ext.cell hE r4
          replace y3 := Ext.cell hE y3
          replace y4 := Ext.cell hE y4
          replace c16_0 := Ext.cell hE c16_0
          replace c16_1 := Ext.cell hE c16_1
          clear hE
          apply Mops.none
          · intro w' hE'
            have hC' := hE'.cellsS
            go_simp
            with_reducible rfl
          apply Mops.none
          · intro w' hE'
            have hC' := hE'.cellsS
            go_simp
            with_reducible rfl
          apply Mops.none
          · intro w' hE'
            have hC' := hE'.cellsS
            go_simp
            with_reducible rfl
          apply Mops.none
          · intro w' hE'
            have hC' := hE'.cellsS
            go_simp
            with_reducible rfl
          apply Mops.none
          · intro w' hE'
            have hC' := hE'.cellsS
            go_simp
            with_reducible rfl
          apply Mops.none
          · intro w' hE'
            have hC' := hE'.cellsS
            go_simp
            with_reducible rfl
          apply Mops.none
          · intro w' hE'
            have hC' := hE'.cellsS
            go_simp
            with_reducible rfl
          apply Mops.none
          · intro w' hE'
            have hC' := hE'.cellsS
            go_simp
            with_reducible rfl
          apply Mops.none
          · intro w' hE'
            have hC' := hE'.cellsS
            go_simp
            with_reducible rfl
          apply Mops.none
          · intro w' hE'
            have hC' := hE'.cellsS
            go_simp
            with_reducible rfl
          refine Mops.done ?_
          refine hK _ _ ?_
          clear hK K' gd g1 g6 g13 g18 g26
          refine Wp.keep [10] fun r25 hkeep => ?_
          obtain ⟨e10_25, -⟩ := hkeep
          simp [go_sem, e4_23, e5_23, e11_23, e16_23] at e10_25
          clear e4_23 e5_23 e11_23 e16_23
          refine Wp.ret ?_
          refine endK_tmp Tryz.results7 (by decide) ?_
          rw [e10_25]
          exact ⟨by simp, xw⟩
        · skip
          refine Wp.skip ?_
          refine thenK_normal ?_
          refine Wp.seq ?_
          refine Wp.seqRegion (.inl rfl) (by kernel_rfl) fun K' gd hK hg => ?_
          clear hg
          refine Wops.cut 4 fun K1 hK1 => ?_
          simp only [List.take_succ_cons, List.take_zero]
          go_simp
          refine Wcall (.inl rfl) (checkPath_c _ _ o l d _ (hV.ext xw) hf (hl.ext xw) (by omega)) ?_
          rintro v w8 ⟨rfl, hE⟩
          go_simp
          refine hK1 _ _ ?_
          clear hK1 K1
          simp only [List.drop_succ_cons, List.drop_zero]
          have z26 := Below.size hE
          replace f5 := Ext.fz hE c5_0 f5
          replace hT := hT.ext hE
          replace hG := hG.ext hE
          replace hp := hp.ext hE
          replace xw := Ext.trans xw hE
          replace c5_0 := Ext.cell hE c5_0
          replace c5_1 := Ext.cell hE c5_1
          replace s0 := Ext.cell hE s0
          replace s1 := Ext.cell hE s1
          replace y1 := Ext.cell hE y1
          replace y2 := Ext.cell hE y2
          replace p1 := Ext.cell hE p1
          replace p2 := Ext.cell hE p2
          clear hE
          go_simp
          refine hK _ _ ?_
          clear hK K' gd
          refine Wp.keep [3, 4, 5, 11, 94] fun r27 hkeep => ?_
          obtain ⟨e3_27, e4_27, e5_27, e11_27, e94_27, -⟩ := hkeep
          simp [go_sem, e3_19, e4_19, e5_19, e11_19, e89_19] at e3_27 e4_27 e5_27 e11_27 e94_27
          clear e3_19 e4_19 e5_19 e11_19 e89_19
          refine Wp.condT (by go_simp) ?_
          refine Wp.seqRegion (.inl rfl) (by kernel_rfl) fun K' gd hK hg => ?_
          clear hg
          refine Wops.cut 1 fun K1 hK1 => ?_
          simp only [List.take_succ_cons, List.take_zero]
          go_simp
          refine Wcall (.inl rfl) (sanity_c _) ?_
          rintro v w9 ⟨rfl, hE⟩
          go_simp
          refine hK1 _ _ ?_
          clear hK1 K1
          simp only [List.drop_succ_cons, List.drop_zero]
          have z28 := Below.size hE
          replace f5 := Ext.fz hE c5_0 f5
          replace hT := hT.ext hE
          replace hG := hG.ext hE
          replace hp := hp.ext hE
          replace xw := Ext.trans xw hE
          replace c5_0 := Ext.cell hE c5_0
          replace c5_1 := Ext.cell hE c5_1
          replace s0 := Ext.cell hE s0
          replace s1 := Ext.cell hE s1
          replace y1 := Ext.cell hE y1
          replace y2 := Ext.cell hE y2
          replace p1 := Ext.cell hE p1
          replace p2 := Ext.cell hE p2
          clear hE
          go_simp
          refine hK _ _ ?_
          clear hK K' gd
          refine Wp.keep [10] fun r29 hkeep => ?_
          obtain ⟨e10_29, -⟩ := hkeep
          simp [go_sem, e3_27, e4_27, e5_27, e11_27, e94_27] at e10_29
          clear e3_27 e4_27 e5_27 e11_27 e94_27
          refine Wp.ret ?_
          refine thenK_ret ?_
          refine endK_tmp Tryz.results7 (by decide) ?_
          rw [e10_29]
          exact ⟨rfl, xw⟩
  · skip
    refine Wp.seqRegion (.inl rfl) (by kernel_rfl) fun K' gd hK hg => ?_
    clear hg
    refine Wops.cut 1 fun K1 hK1 => ?_
    simp only [List.take_succ_cons, List.take_zero]
    go_simp
    refine hK1 _ _ ?_
    clear hK1 K1
    simp only [List.drop_succ_cons, List.drop_zero]
    refine Wops.absA fun V5_6 n5 hV5_6 => ?_
    obtain ⟨q5, hV5_6, s5, kV5_6, f5, r5⟩ := hV5_6
    try simp only [q5] at kV5_6 f5 r5 ⊢
    replace xw := Ext.trans xw hV5_6
    have c5_0 := kV5_6 0 _ rfl
    have c5_1 := kV5_6 1 _ rfl
    clear kV5_6 hV5_6
    clear r5
    go_simp
    refine hK _ _ ?_
    clear hK K' gd
    refine Wp.keep [1, 2, 3, 4, 5] fun r30 hkeep => ?_
    obtain ⟨e1_30, e2_30, e3_30, e4_30, e5_30, -⟩ := hkeep
    simp [go_sem, e0_1, e1_1, e2_1, e3_1, e4_1] at e1_30 e2_30 e3_30 e4_30 e5_30
    clear e0_1 e1_1 e2_1 e3_1 e4_1
    refine Wp.seq ?_
    refine Wp.seqRegion (.inl rfl) (by kernel_rfl) fun K' gd hK hg => ?_
    have g3 : gd 3 = some 20 := hg 3
    clear hg
    refine Wops.cut 2 fun K1 hK1 => ?_
    simp only [List.take_succ_cons, List.take_zero]
    go_simp
    refine Wcall (.inl rfl) (small_F hs _ (hV.ext xw) hf) ?_
    rintro v w2 ⟨rfl, hE⟩
    go_simp
    refine hK1 _ _ ?_
    clear hK1 K1
    simp only [List.drop_succ_cons, List.drop_zero]
    have z31 := Below.size hE
    replace f5 := Ext.fz hE c5_0 f5
    replace xw := Ext.trans xw hE
    replace c5_0 := Ext.cell hE c5_0
    replace c5_1 := Ext.cell hE c5_1
    clear hE
    go_simp
    refine hK _ _ ?_
    clear hK K' gd g3
    refine Wp.keep [1, 2, 3, 4, 5, 24] fun r32 hkeep => ?_
    obtain ⟨e1_32, e2_32, e3_32, e4_32, e5_32, e24_32, -⟩ := hkeep
    simp [go_sem, e1_30, e2_30, e3_30, e4_30, e5_30] at e1_32 e2_32 e3_32 e4_32 e5_32 e24_32
    clear e1_30 e2_30 e3_30 e4_30 e5_30
    refine Wp.condT (by go_simp) ?_
    refine Wp.seqRegion (.inl rfl) (by kernel_rfl) fun K' gd hK hg => ?_
    clear hg
    refine Wops.cut 1 fun K1 hK1 => ?_
    simp only [List.take_succ_cons, List.take_zero]
    go_simp
    refine Wcall (.inl rfl) (sanity_c _) ?_
    rintro v w3 ⟨rfl, hE⟩
    go_simp
    refine hK1 _ _ ?_
    clear hK1 K1
    simp only [List.drop_succ_cons, List.drop_zero]
    have z33 := Below.size hE
    replace f5 := Ext.fz hE c5_0 f5
    replace xw := Ext.trans xw hE
    replace c5_0 := Ext.cell hE c5_0
    replace c5_1 := Ext.cell hE c5_1
    clear hE
    go_simp
    refine hK _ _ ?_
    clear hK K' gd
    refine Wp.keep [10] fun r34 hkeep => ?_
    obtain ⟨e10_34, -⟩ := hkeep
    simp [go_sem, e1_32, e2_32, e3_32, e4_32, e5_32, e24_32] at e10_34
    clear e1_32 e2_32 e3_32 e4_32 e5_32 e24_32
    refine Wp.ret ?_
    refine thenK_ret ?_
    refine endK_tmp Tryz.results7 (by decide) ?_
    rw [e10_34]
    exact ⟨rfl, xw⟩
end Go.Proofs.YtnfagcccgmakdaaGreat
namespace Go.Proofs.YtnfagcccgmakdaaGreat
open Go.ChangeShapes Go.WideShapes Go.RowKit Go.Wk Go.Proofs
theorem list_two' {α : Type} {l : List α} (h : l.length = 2) : ∃ a b, l = [a, b] := by
  match l, h with
  | [a, b], _ => exact ⟨a, b, rfl⟩
theorem openS {w : World} {v : Value} (h : Rd Tryz.prog w 45 [v]) : ∃ l : List SZ, StintsV w w.heap.size v l ∧ l.length ≤ farI := by
  have e1 : Tryz.prog.cellsOf 56 = 2 := by kernel_rfl
  have e2 : Tryz.prog.bytesOf 56 = 16 := by kernel_rfl
  have e3 : Tryz.prog.cellsOf 3 = 1 := by kernel_rfl
  obtain ⟨A, n, c, rfl, hn, hc, hx⟩ := h.list Tryz.underlying45 (by rw [e1]; decide) (by rw [e2]; decide)
  rw [e1] at hx
  clear e1 e2
  obtain ⟨f, hf⟩ := Go.Deep.choose_lt (α := SZ) (p := fun i z => ∃ b o, A = some ⟨b, o, none⟩ ∧ b < w.heap.size ∧ w.cell? ⟨b, o + i * 2, none⟩ = some (.int .i64 z.1) ∧ w.cell? ⟨b, o + i * 2 + 1, none⟩ = some (.int .i64 z.2)) fun i hi => by
    obtain ⟨b, o, cs, h1, h2, h3, h4, h5⟩ := hx i hi
    obtain ⟨-, hs⟩ := h5.struct Tryz.underlying56
    have s0 : Rd Tryz.prog w 3 ((cs.drop 0).take (Tryz.prog.cellsOf 3)) := hs 0 _ rfl
    have s1 : Rd Tryz.prog w 3 ((cs.drop 1).take (Tryz.prog.cellsOf 3)) := hs 1 _ rfl
    rw [e3] at s0 s1
    clear e3
    obtain ⟨c0, c1, rfl⟩ := list_two' h3
    obtain ⟨z0, q0, -⟩ := s0.int Tryz.underlying3
    obtain ⟨z1, q1, -⟩ := s1.int Tryz.underlying3
    simp only [List.drop_zero, List.take_succ_cons, List.take_zero, List.drop_succ_cons, List.cons.injEq, and_true] at q0 q1
    subst q0; subst q1
    exact ⟨(z0, z1), b, o, h1, h2, by have := h4 0 (by decide); simpa using this, by have := h4 1 (by decide); simpa using this⟩
  clear e3
  have hl : ((List.range n).map f).length = n := by simp
  refine ⟨(List.range n).map f, ⟨A, c, by rw [hl], fun hne => ?_, by rw [hl]; exact hn⟩, by rw [hl]; omega⟩
  have h0 : 0 < n := by
    rcases Nat.eq_zero_or_pos n with e | e
    · subst e; exact absurd rfl hne
    · exact e
  obtain ⟨b, o, h1, h2, -⟩ := hf 0 h0
  refine ⟨b, o, h1, h2, fun k hk => ?_⟩
  rw [hl] at hk
  obtain ⟨b', o', h1', h2', h3', h4'⟩ := hf k hk
  rw [h1] at h1'
  injection h1' with h1'
  injection h1' with hb ho
  subst hb; subst ho
  simpa using ⟨h3', h4'⟩
theorem prove_d (v v1 : Value) (o : Ord) (a b : Int) (l : List SZ) (d : Int) (w : World) (hV : OrderV w w.heap.size v o) (hf : Fits o) (ha : 0 ≤ a ∧ a ≤ 255) (hb : 0 ≤ b ∧ b ≤ 255) (hl : StintsV w w.heap.size v1 l) (_ : l.length ≤ farI) :
    CallsV Tryz.prog 7 #[v, .int .u8 a, .int .u8 b, v1, .int .i64 d] w fun v w' => v = .bool true ∧ Ext w w' := prove_c v v1 o a b l d w hV hf ha hb hl
section
variable {H : Type} {enc : TypeId × Value → H} {P : Program} {w : World} {base : Nat} {spare : Nat → Bool} {held : Bool}
theorem trodAll_five {t0 t1 t2 t3 t4 : TypeId} {args : Array Value} {ds : List (DataW H)} {ps : List MemPlace} (h : DataW.TrodAll enc P w base spare held [t0, t1, t2, t3, t4] args.toList ds ps) :
    ∃ v0 v1 v2 v3 v4 d0 d1 d2 d3 d4, args = #[v0, v1, v2, v3, v4] ∧ ds = [d0, d1, d2, d3, d4] := by
  obtain ⟨v0, vs, d0, ds', p, q, hargs, rfl, rfl, -, h⟩ := trodAll_cons h
  obtain ⟨v1, vs1, d1, ds1, p1, q1, rfl, rfl, rfl, -, h⟩ := trodAll_cons h
  obtain ⟨v2, vs2, d2, ds2, p2, q2, rfl, rfl, rfl, -, h⟩ := trodAll_cons h
  obtain ⟨v3, vs3, d3, ds3, p3, q3, rfl, rfl, rfl, -, h⟩ := trodAll_cons h
  obtain ⟨v4, vs4, d4, ds4, p4, q4, rfl, rfl, rfl, -, h⟩ := trodAll_cons h
  obtain ⟨rfl, rfl, rfl⟩ := trodAll_nil h
  exact ⟨v0, v1, v2, v3, v4, d0, d1, d2, d3, d4, by cases args; simp_all, rfl⟩
end
theorem own : ownKnob Tryz.prog.godebug = none := by kernel_rfl
theorem laidOut : laidOutB Tryz.prog = true := by kernel_rfl
set_option maxRecDepth 100000 in
theorem orderPathsProve_lifted (os : Os) (started : os.Started) (H : Type) (enc : TypeId × Value → H) :
    ReturnsInHanded {} Tryz.checked os 7 .any (Rows.orderPathsProveSpec.pre6 enc Tryz.prog Tryz.f7 Rows.orderPathsProveRow.domain false) (Rows.orderPathsProveSpec.post enc Tryz.prog Tryz.f7 false true false false) := by
  refine returnsInHanded_of_change_sized (C := Tryz.checked) own started (by kernel_rfl) Tryz.func7
    (ChangeSpec.witness6 (enc := enc) (C := Tryz.checked) false ⟨#[], #[.agg #[.slice none 0 0, .slice none 0 0], .int .u8 0, .int .u8 0, .slice none 0 0, .int .i64 0], []⟩ 8 (by kernel_rfl) (by kernel_rfl) (by kernel_rfl) (by kernel_rfl)) ?_
  intro W base args ds gs before hval0 hW0 _ hsz0 _
  have hval : ∀ (j : Nat) t v, Tryz.f7.params[j]? = some t → args[j]? = some v → Value.okWide Tryz.prog W .any base t v := hval0
  have hW : DataW.Whole enc Tryz.prog Tryz.f7.params.toList [] false W args.toList ds gs before := hW0
  have hsz : (DataW.weightsEach Tryz.prog (Tryz.f7.params.toList ++ []) (ds ++ gs)).all (· ≤ reachBytes) = true := hsz0
  clear hval0 hsz0
  obtain ⟨p, q, hA, hV, -, -, -⟩ := hW
  obtain ⟨rfl, -⟩ := trodVars_none hV
  rw [List.append_nil, List.append_nil] at hsz
  rw [Tryz.params7] at hA hsz hval
  obtain ⟨hlen, hR⟩ := Rd.of_args hA hsz
  obtain ⟨v0, v1, v2, v3, v4, d0, d1, d2, d3, d4, rfl, rfl⟩ := trodAll_five hA
  have r0 := hR 0 _ v0 rfl rfl
  have r1 := hR 1 _ v1 rfl rfl
  have r2 := hR 2 _ v2 rfl rfl
  have r3 := hR 3 _ v3 rfl rfl
  have r4 := hR 4 _ v4 rfl rfl
  obtain ⟨cs0, rfl, -⟩ := okWide_struct Tryz.underlying25 (hval 0 _ v0 rfl rfl)
  obtain ⟨m1, rfl⟩ := okWide_int Tryz.underlying5 (hval 1 _ v1 rfl rfl)
  obtain ⟨m2, rfl⟩ := okWide_int Tryz.underlying5 (hval 2 _ v2 rfl rfl)
  obtain ⟨A3, n3, c3, rfl⟩ := okWide_slice Tryz.underlying45 (hval 3 _ v3 rfl rfl)
  obtain ⟨m4, rfl⟩ := okWide_int Tryz.underlying3 (hval 4 _ v4 rfl rfl)
  obtain ⟨x0, h0, f0⟩ := openO ⟨cs0, rfl⟩ r0
  obtain ⟨x1, hm1, f1⟩ := r1.int Tryz.underlying5
  have e1 : x1 = m1 := by
    have e : [Value.int .u8 m1] = [Value.int .u8 x1] := hm1
    injection e with e _
    injection e with _ e
    exact e.symm
  subst e1
  obtain ⟨x2, hm2, f2⟩ := r2.int Tryz.underlying5
  have e2 : x2 = m2 := by
    have e : [Value.int .u8 m2] = [Value.int .u8 x2] := hm2
    injection e with e _
    injection e with _ e
    exact e.symm
  subst e2
  obtain ⟨x3, h3, f3⟩ := openS (v := .slice A3 n3 c3) r3
  obtain ⟨x4, hm4, f4⟩ := r4.int Tryz.underlying3
  have e4 : x4 = m4 := by
    have e : [Value.int .i64 m4] = [Value.int .i64 x4] := hm4
    injection e with e _
    injection e with _ e
    exact e.symm
  subst e4
  refine (prove_d _ _ x0 x1 x2 x3 x4 W h0 f0 (Go.bounds_u8 f1) (Go.bounds_u8 f2) h3 f3).calls.mono fun e W' ⟨v, he, hv, hE⟩ => ?_
  subst he; subst hv
  exact ⟨_, rfl, law_post hW0 laidOut rfl (by rw [Tryz.params7]; intro t ht; simp at ht; rcases ht with rfl | rfl | rfl | rfl | rfl <;> exact ⟨by kernel_rfl, of_decide_eq_true (by kernel_rfl)⟩) rfl Tryz.underlying4 rfl rfl rfl hE⟩
theorem orderPathsProve_holds : Rows.OrderPathsProveSaid :=
  OpenClaim.holds_of_wide 7 Tryz.f7 rfl rfl rfl rfl rfl rfl rfl ⟨rfl, rfl, rfl, rfl, rfl⟩ rfl rfl rfl rfl rfl (by kernel_rfl) Tryz.func7 (by kernel_rfl)
    (of_decide_eq_true (by kernel_rfl)) (by unfold Func.isWrapper; first | (rw [if_pos (by decide +kernel)]; kernel_rfl) | (rw [if_neg (by decide +kernel)]; exact ⟨rfl, rfl⟩))
    (fun os started H enc _ => orderPathsProve_lifted os started H enc)
#print axioms orderPathsProve_holds
end Go.Proofs.YtnfagcccgmakdaaGreat
