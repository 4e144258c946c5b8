/- The specification's End, Ample, Waits, Idle. Printed by wip/mk82.py. The specification's slack, Critical, Latest. Printed by wip/mk83.py. The specification's copied. The specification's changed orders. The specification's piece, More, Save, Need. The specification's Save, Need. The specification's comparison of orders. OrderCopies. The specification's stint, Delayed, Reach. OrderLater. For every input, in whatever memory: OrderLater returns true, and its arguments read as before. No condition. -/
import Derived.Test.YtnfagcccgmakdaaGreatP1
import Derived.Test.YtnfagcccgmakdaaGreatP8
import Derived.Test.YtnfagcccgmakdaaGreatP6
import Derived.Test.YtnfagcccgmakdaaGreatRows
import Derived.ProofKit
import Derived.JoinedOf
import Derived.OpenShut
set_option linter.all false
namespace Go.Wk
open Go.RowKit
set_option linter.unusedVariables false
structure Chg (L : List Nat) (w V : World) : Prop where
  os : V.os = w.os
  tape : V.tape = w.tape
  output : V.output = w.output
  size : w.heap.size ≤ V.heap.size
  block : ∀ k, k < w.heap.size → k ∉ L → V.heap[k]? = w.heap[k]?
theorem Chg.refl (L : List Nat) (w : World) : Chg L w w := ⟨rfl, rfl, rfl, Nat.le_refl _, fun _ _ _ => rfl⟩
theorem Chg.ext {L : List Nat} {w V V' : World} (h : Chg L w V) (hE : Ext V V') : Chg L w V' :=
  ⟨hE.os.trans h.os, hE.tape.trans h.tape, hE.output.trans h.output, Nat.le_trans h.size hE.size, fun k hk hn => (hE.block k (Nat.lt_of_lt_of_le hk h.size)).trans (h.block k hk hn)⟩
theorem Chg.drew {L : List Nat} {w V : World} (h : Chg L w V) : Chg L w V.drew := h.ext (Ext.refl V).drew
theorem Chg.alloc {L : List Nat} {w V : World} (h : Chg L w V) (o : Obj) : Chg L w (V.alloc o) := h.ext ((Ext.refl V).alloc o)
theorem Chg.setC {L : List Nat} {w V : World} (h : Chg L w V) {b k : Nat} {v : Value} (hb : b ∈ L) : Chg L w (V.setCell ⟨b, k, Option.none⟩ v) :=
  ⟨h.os, h.tape, h.output, by simpa using h.size, fun i hi hn => (Below.heap_setCell _ _ _ _ (fun e => hn (by rw [e]; exact hb))).trans (h.block i hi hn)⟩
theorem Chg.lt {w : World} {a : Addr} {v : Value} (h : w.cell? a = some v) : a.block < w.heap.size := cell_lt h
theorem Chg.cell {L : List Nat} {w V : World} (h : Chg L w V) {b i : Nat} {v : Value} (c : w.cell? ⟨b, i, none⟩ = some v) (hb : b ∉ L) : V.cell? ⟨b, i, none⟩ = some v :=
  (World.cell?_of_block (a := ⟨b, i, none⟩) (h.block b (cell_lt c) hb)).trans c
theorem Chg.fz {L : List Nat} {w V : World} (h : Chg L w V) {b i : Nat} {v : Value} (c : w.cell? ⟨b, i, none⟩ = some v) (f : ∀ k, w.frozen? ⟨b, k, none⟩ = false) (hb : b ∉ L) : ∀ k, V.frozen? ⟨b, k, none⟩ = false := fun k =>
  (World.frozen?_of_block (a := ⟨b, k, none⟩) (h.block b (cell_lt c) hb)).trans (f k)
theorem Chg.to {L : List Nat} {X w V : World} (x : Ext X w) (h : Chg L w V) (hL : ∀ b ∈ L, X.heap.size ≤ b) : Ext X V :=
  ⟨h.os.trans x.os, h.tape.trans x.tape, h.output.trans x.output, Nat.le_trans x.size h.size, fun k hk => (h.block k (Nat.lt_of_lt_of_le hk x.size) (fun hm => by have := hL k hm; omega)).trans (x.block k hk)⟩
theorem Chg.more {L L' : List Nat} {X w V : World} (x : Chg L' X w) (h : Chg L w V) (hL : ∀ b ∈ L, X.heap.size ≤ b ∨ b ∈ L') : Chg L' X V :=
  ⟨h.os.trans x.os, h.tape.trans x.tape, h.output.trans x.output, Nat.le_trans x.size h.size, fun k hk hn => (h.block k (Nat.lt_of_lt_of_le hk x.size) (fun hm => by rcases hL k hm with h1 | h1; omega; exact hn h1)).trans (x.block k hk hn)⟩
theorem Ext.fz {w V : World} (h : Ext w V) {b i : Nat} {v : Value} (c : w.cell? ⟨b, i, none⟩ = some v) (f : ∀ k, w.frozen? ⟨b, k, none⟩ = false) : ∀ k, V.frozen? ⟨b, k, none⟩ = false := fun k =>
  (World.frozen?_of_block (a := ⟨b, k, none⟩) (Below.block h b (cell_lt c))).trans (f k)
def nthV : List Value → Nat → Option Value
  | [], _ => none
  | v :: _, 0 => some v
  | _ :: l, i + 1 => nthV l i
theorem nthV_eq : ∀ (l : List Value) (i : Nat), nthV l i = l[i]?
  | [], i => by simp [nthV]
  | v :: l, 0 => rfl
  | v :: l, i + 1 => by rw [nthV, nthV_eq l i]; simp
theorem _root_.Go.World.ownsRow.ext {w w' : World} {base e size n : Nat} {v : Value} {xs : List Value} (h : w.ownsRow base e size v n xs) (hE : Ext w w') : w'.ownsRow base e size v n xs := by
  refine ⟨h.1, ?_⟩
  rcases h.2 with hn | ⟨g, cap, cur, rfl, hb, hg, rest⟩
  · exact .inl hn
  · exact .inr ⟨g, cap, cur, rfl, hb, (Below.block hE g (Array.getElem?_eq_some_iff.1 hg).1).trans hg, rest⟩
def RowC (w : World) (b : Nat) (e : TypeId) (cs : List Value) : Prop := w.heap[b]? = some (.cells cs.toArray e (0, 0))
theorem RowC.lt {w : World} {b : Nat} {e : TypeId} {cs : List Value} (h : RowC w b e cs) : b < w.heap.size := (Array.getElem?_eq_some_iff.1 h).1
theorem RowC.ext {w w' : World} {b : Nat} {e : TypeId} {cs : List Value} (h : RowC w b e cs) (hE : Ext w w') : RowC w' b e cs := (Below.block hE b h.lt).trans h
theorem RowC.cell {w : World} {b : Nat} {e : TypeId} {cs : List Value} (h : RowC w b e cs) (j : Nat) : w.cell? ⟨b, j, none⟩ = cs[j]? := by
  have := cell_of_row w b j cs.toArray e (0, 0) h
  simpa using this
theorem RowC.frozen {w : World} {b : Nat} {e : TypeId} {cs : List Value} (h : RowC w b e cs) (j : Nat) : w.frozen? ⟨b, j, none⟩ = false := by
  unfold World.frozen?; rw [h]; simp
theorem RowC.own {w : World} {b : Nat} {e : TypeId} {cs : List Value} (h : RowC w b e cs) {base size k c : Nat} (hb : base ≤ b) (hk : k ≤ c) (hc : c ≤ maxLen) (hl : cs.length = c * size) :
    w.ownsRow base e size (.slice (some ⟨b, 0, none⟩) k c) k (cs.take (k * size)) :=
  ⟨by have := Nat.mul_le_mul_right size hk; rw [List.length_take]; omega, .inr ⟨b, c, cs.toArray, rfl, hb, h, hk, hc, by simpa using hl, by simp⟩⟩
def setL (w : World) (b i : Nat) : List Value → World
  | [] => w
  | v :: vs => setL (w.setCell ⟨b, i, none⟩ v) b (i + 1) vs
theorem setL_size (b : Nat) : ∀ (vs : List Value) (w : World) (i : Nat), (setL w b i vs).heap.size = w.heap.size
  | [], _, _ => rfl
  | v :: vs, w, i => by rw [setL, setL_size b vs]; simp
theorem setL_heap (b : Nat) : ∀ (vs : List Value) (w : World) (i k : Nat), k ≠ b → (setL w b i vs).heap[k]? = w.heap[k]?
  | [], _, _, _, _ => rfl
  | v :: vs, w, i, k, h => by rw [setL, setL_heap b vs _ _ k h]; exact Below.heap_setCell _ _ _ _ h
theorem setL_frozen (b : Nat) : ∀ (vs : List Value) (w : World) (i : Nat) (a : Addr), (setL w b i vs).frozen? a = w.frozen? a
  | [], _, _, _ => rfl
  | v :: vs, w, i, a => by rw [setL, setL_frozen b vs]; exact World.frozen?_setCell ..
theorem setL_off (b : Nat) : ∀ (vs : List Value) (w : World) (i j : Nat), j < i ∨ i + vs.length ≤ j → (setL w b i vs).cell? ⟨b, j, none⟩ = w.cell? ⟨b, j, none⟩
  | [], _, _, _, _ => rfl
  | v :: vs, w, i, j, h => by
    rw [setL, setL_off b vs _ _ _ (by simp at h; omega)]
    exact World.cell?_setCell_other _ _ _ _ (by intro e; injection e with _ e; simp at h; omega)
theorem setL_on (b : Nat) : ∀ (vs : List Value) (w : World) (i : Nat), (∀ j, j < vs.length → (w.cell? ⟨b, i + j, none⟩).isSome = true) → ∀ j v, vs[j]? = some v → (setL w b i vs).cell? ⟨b, i + j, none⟩ = some v
  | [], _, _, _, j, v, h => by simp at h
  | u :: vs, w, i, hs, j, v, h => by
    have h0 := hs 0 (by simp)
    rw [setL]
    cases j with
    | zero =>
      simp at h; subst h
      rw [Nat.add_zero, setL_off b vs _ _ _ (by omega)]
      exact World.cell?_setCell_same' _ _ _ (by simpa using h0)
    | succ j =>
      have := setL_on b vs (w.setCell ⟨b, i, none⟩ u) (i + 1) (fun k hk => ?_) j v (by simpa using h)
      · rw [show i + (j + 1) = i + 1 + j by omega]; exact this
      · rw [World.cell?_setCell_other _ _ _ _ (by intro e; injection e with _ e; omega)]
        have := hs (k + 1) (by simp; omega)
        rw [show i + 1 + k = i + (k + 1) by omega]; exact this
theorem setL_row (b : Nat) : ∀ (vs : List Value) (w : World) (i : Nat) (cs : Array Value) (t : TypeId), w.heap[b]? = some (.cells cs t (0, 0)) → ∃ cs', (setL w b i vs).heap[b]? = some (.cells cs' t (0, 0)) ∧ cs'.size = cs.size
  | [], _, _, cs, _, h => ⟨cs, h, rfl⟩
  | v :: vs, w, i, cs, t, h => by
    have h1 : ∃ cs1, (w.setCell ⟨b, i, none⟩ v).heap[b]? = some (.cells cs1 t (0, 0)) ∧ cs1.size = cs.size := ⟨_, heap_setCell_same w b i cs t v h, by simp⟩
    obtain ⟨cs1, h1, e1⟩ := h1
    obtain ⟨cs', h2, e2⟩ := setL_row b vs _ (i + 1) cs1 t h1
    exact ⟨cs', h2, e2.trans e1⟩
structure Put (w V : World) (b i : Nat) (vs : List Value) : Prop where
  chg : Chg [b] w V
  same : V.heap.size ≤ w.heap.size ∧ w.heap.size ≤ V.heap.size
  new : ∀ j v, nthV vs j = some v → V.cell? ⟨b, i + j, none⟩ = some v
  old : ∀ j, j < i ∨ i + vs.length ≤ j → V.cell? ⟨b, j, none⟩ = w.cell? ⟨b, j, none⟩
  fz : ∀ a, V.frozen? a = w.frozen? a
  row : ∀ cs t, w.heap[b]? = some (.cells cs t (0, 0)) → ∃ cs', V.heap[b]? = some (.cells cs' t (0, 0)) ∧ cs'.size = cs.size
  eq : V = setL w b i vs
theorem setL_put {w : World} {b i : Nat} {vs : List Value} (hs : ∀ j, j < vs.length → (w.cell? ⟨b, i + j, none⟩).isSome = true) : Put w (setL w b i vs) b i vs := by
  have hos : ∀ (vs : List Value) (w : World) (i : Nat), (setL w b i vs).os = w.os ∧ (setL w b i vs).tape = w.tape ∧ (setL w b i vs).output = w.output := by
    intro vs
    induction vs with
    | nil => exact fun _ _ => ⟨rfl, rfl, rfl⟩
    | cons v vs ih => exact fun w i => ih _ _
  exact ⟨⟨(hos vs w i).1, (hos vs w i).2.1, (hos vs w i).2.2, by rw [setL_size]; exact Nat.le_refl _, fun k _ hk => setL_heap b vs w i k (by simpa using hk)⟩, ⟨by rw [setL_size]; exact Nat.le_refl _, by rw [setL_size]; exact Nat.le_refl _⟩, fun j v h => setL_on b vs w i hs j v (by rw [← nthV_eq]; exact h), fun j hj => setL_off b vs w i j hj, fun a => setL_frozen b vs w i a, fun cs t h => setL_row b vs w i cs t h, rfl⟩
theorem Put.cell {w V : World} {b i : Nat} {vs : List Value} (h : Put w V b i vs) {k j : Nat} {v : Value} (c : w.cell? ⟨k, j, none⟩ = some v) (hk : k ≠ b) : V.cell? ⟨k, j, none⟩ = some v := h.chg.cell c (by simpa using hk)
theorem Put.frz {w V : World} {b i : Nat} {vs : List Value} (h : Put w V b i vs) {k : Nat} (f : ∀ j, w.frozen? ⟨k, j, none⟩ = false) : ∀ j, V.frozen? ⟨k, j, none⟩ = false := fun j => (h.fz _).trans (f j)
theorem Put.to {X w V : World} {b i : Nat} {vs : List Value} (x : Ext X w) (h : Put w V b i vs) (hb : X.heap.size ≤ b) : Ext X V := Chg.to x h.chg (by simpa using hb)
theorem Put.more {L : List Nat} {X w V : World} {b i : Nat} {vs : List Value} (x : Chg L X w) (h : Put w V b i vs) (hb : X.heap.size ≤ b ∨ b ∈ L) : Chg L X V := Chg.more x h.chg (by simpa using hb)
structure New (w V : World) (n : Nat) (cs : Array Value) : Prop where
  at_ : w.heap.size = n
  ext : Ext w V
  size : V.heap.size ≤ n + 1 ∧ n + 1 ≤ V.heap.size
  cell : ∀ i v, nthV cs.toList i = some v → V.cell? ⟨n, i, none⟩ = some v
  fz : ∀ i, V.frozen? ⟨n, i, none⟩ = false
  row : ∃ t, V.heap[n]? = some (.cells cs t (0, 0))
theorem new_alloc (w : World) (cs : Array Value) (t : TypeId) : New w (w.alloc (.cells cs t)) w.heap.size cs :=
  ⟨rfl, (Ext.refl _).alloc _, ⟨by simp, by simp⟩, fun i v h => by rw [cell_nw]; rw [nthV_eq] at h; simpa using h, fun i => frozen_nw .., t, World.alloc_heap_new w _⟩
theorem _root_.Go.World.ownsRow.put {w V : World} {base e size n b i : Nat} {v : Value} {xs vs : List Value} (h : w.ownsRow base e size v n xs) (p : Put w V b i vs) (hb : b < base) : V.ownsRow base e size v n xs := by
  refine ⟨h.1, ?_⟩
  rcases h.2 with hn | ⟨g, cap, cur, rfl, hg0, hg, rest⟩
  · exact .inl hn
  · exact .inr ⟨g, cap, cur, rfl, hg0, (p.chg.block g (Array.getElem?_eq_some_iff.1 hg).1 (by simp; omega)).trans hg, rest⟩
section
variable {F : Fence} {P : Program} {N : Nat} {gd : Nat → Option Nat} {K : (Nat → Value) → World → Prop} {ρ : Nat → Value} {w : World}
theorem Wops.absA {L : List Oper} {cs : Array Value} {t : TypeId} (h : ∀ V n, New w V n cs → Wops F P N gd K L ρ V) : Wops F P N gd K L ρ (w.alloc (.cells cs t)) := h _ _ (new_alloc w cs t)
theorem Mops.absA {S : List (List Oper × Option (Oper × Bool))} {cs : Array Value} {t : TypeId} (h : ∀ V n, New w V n cs → Mops F P N gd K S ρ V) : Mops F P N gd K S ρ (w.alloc (.cells cs t)) := h _ _ (new_alloc w cs t)
theorem Mops.absD {S : List (List Oper × Option (Oper × Bool))} (h : ∀ V, Ext w V → (V.heap.size ≤ w.heap.size ∧ w.heap.size ≤ V.heap.size) → Mops F P N gd K S ρ V) : Mops F P N gd K S ρ w.drew := h _ (Ext.refl w).drew ⟨Nat.le_refl _, Nat.le_refl _⟩
theorem Wops.absS {L : List Oper} {b i : Nat} (vs : List Value) (hs : ∀ j, j < vs.length → (w.cell? ⟨b, i + j, none⟩).isSome = true) (h : ∀ V, Put w V b i vs → Wops F P N gd K L ρ V) : Wops F P N gd K L ρ (setL w b i vs) := h _ (setL_put hs)
theorem Mops.absS {S : List (List Oper × Option (Oper × Bool))} {b i : Nat} (vs : List Value) (hs : ∀ j, j < vs.length → (w.cell? ⟨b, i + j, Option.none⟩).isSome = true) (h : ∀ V, Put w V b i vs → Mops F P N gd K S ρ V) : Mops F P N gd K S ρ (setL w b i vs) := h _ (setL_put hs)
theorem Wp.absS {c : Code} {ds : List Deferred} {Q : Post} {b i : Nat} (vs : List Value) (hs : ∀ j, j < vs.length → (w.cell? ⟨b, i + j, none⟩).isSome = true) (h : ∀ V, Put w V b i vs → Wp F P N c Q ρ ds V) : Wp F P N c Q ρ ds (setL w b i vs) := h _ (setL_put hs)
end
theorem some1 {w : World} {b i : Nat} {v0 : Value} (h0 : w.cell? ⟨b, i, none⟩ = some v0) {x0 : Value} : ∀ j, j < [x0].length → (w.cell? ⟨b, i + j, none⟩).isSome = true := by
  intro j hj; match j, hj with | 0, _ => simp [h0]
theorem somes {w : World} {b i : Nat} {vs : List Value} (l : List Value) (hl : vs.length ≤ l.length) (h : ∀ j v, l[j]? = some v → w.cell? ⟨b, i + j, none⟩ = some v) : ∀ j, j < vs.length → (w.cell? ⟨b, i + j, none⟩).isSome = true := fun j hj => by
  rw [h j (l[j]'(by omega)) (List.getElem?_eq_getElem _)]; rfl
@[reducible] def cellVal {w : World} {a : Addr} {v : Value} (_ : w.cell? a = some v) : Value := v
theorem grown_chg {w w' : World} {row : Option Nat} (h : w.grownBy w' row) : Chg row.toList w w' :=
  ⟨h.os, h.tape, h.output, h.size, fun k hk hn => h.block k hk (fun e => hn (by rw [← e]; simp))⟩
theorem lt_off {row : Option Nat} {S T b : Nat} (LT : ∀ k, row = some k → S ≤ k ∧ k < T) (h : b < S ∨ T ≤ b) : b ∉ row.toList := fun hm => by
  have := LT b (by simpa using hm); omega
theorem lt_ge {row : Option Nat} {S T X : Nat} (LT : ∀ k, row = some k → S ≤ k ∧ k < T) (h : X ≤ S) : ∀ b ∈ row.toList, X ≤ b := fun b hm => by
  have := LT b (by simpa using hm); omega
end Go.Wk
namespace Go.Proofs.YtnfagcccgmakdaaGreat
open Go.RowKit Go.Wk Go.Proofs
attribute [local irreducible] Go.Wk.Wops Go.Wk.Wp Go.Wk.Mtree Go.Wk.Mops
set_option maxHeartbeats 4000000
end Go.Proofs.YtnfagcccgmakdaaGreat
namespace Go.Proofs.YtnfagcccgmakdaaGreat
open Go.RowKit Go.Wk Go.Proofs
attribute [local irreducible] Go.Wk.Wops Go.Wk.Wp Go.Wk.Mtree Go.Wk.Mops
set_option maxHeartbeats 4000000
theorem latestSp_c (v : Value) (o : Ord) (d : Int) (w : World) (hV : OrderV w w.heap.size v o) (hf : Fits o) :
    CallsV Tryz.prog 30 #[v, .int .i64 d] w fun v w' => ∃ t, v = .agg #[t, .int .i64 (latestE o d)] ∧ TabV w' w'.heap.size t (if latestE o d = 0 then tabL o (lstA o d) else []) ∧ Ext w w' := by
  obtain ⟨A1, n1, c1, A2, n2, c2, rfl, hV⟩ := hV.two
  refine Wp.fn Tryz.func30 rfl Tryz.ntmps30 (by simp) ?_
  refine Wp.keep [0, 1] fun r1 hkeep => ?_
  obtain ⟨e0_1, e1_1, -⟩ := hkeep
  simp [go_sem] at e0_1 e1_1
  have x0 := cell_al (.cells #[.slice none 0 0, .int .i64 0] 33) (cell_nn w #[.slice A1 n1 c1, .slice A2 n2 c2] 25 0 rfl (v := .slice A1 n1 c1) rfl)
  have x1 := cell_al (.cells #[.slice none 0 0, .int .i64 0] 33) (cell_nn w #[.slice A1 n1 c1, .slice A2 n2 c2] 25 1 rfl (v := .slice A2 n2 c2) rfl)
  have y0 := cell_nn (w.alloc (.cells #[.slice A1 n1 c1, .slice A2 n2 c2] 25)) #[.slice none 0 0, .int .i64 0] 33 0 (n := w.heap.size + 1) (by simp) (v := .slice none 0 0) rfl
  have y1 := cell_nn (w.alloc (.cells #[.slice A1 n1 c1, .slice A2 n2 c2] 25)) #[.slice none 0 0, .int .i64 0] 33 1 (n := w.heap.size + 1) (by simp) (v := .int .i64 0) rfl
  have fz := frz_nw (w.alloc (.cells #[.slice A1 n1 c1, .slice A2 n2 c2] 25)) #[.slice none 0 0, .int .i64 0] 33 (n := w.heap.size + 1) (by simp)
  have hEV : Ext w ((w.alloc (.cells #[.slice A1 n1 c1, .slice A2 n2 c2] 25)).alloc (.cells #[.slice none 0 0, .int .i64 0] 33)) := (by repeat (first | assumption | exact Ext.refl _ | refine Ext.drew ?_ | refine Ext.alloc ?_ _ | refine Ext.trans ?_ (by assumption)))
  refine Wp.seqRegion (.inl rfl) (by kernel_rfl) fun K' gd hK hg => ?_
  clear hg
  go_simp
  refine hK _ _ ?_
  clear hK K' gd
  refine Wp.keep [1, 2, 4] fun r2 hkeep => ?_
  obtain ⟨e1_2, e2_2, e4_2, -⟩ := hkeep
  simp [go_sem, e0_1, e1_1] at e1_2 e2_2 e4_2
  clear e0_1 e1_1
  generalize (w.alloc (.cells #[.slice A1 n1 c1, .slice A2 n2 c2] 25)).alloc (.cells #[.slice none 0 0, .int .i64 0] 33) = V at *
  have hV1 := hV.ext hEV
  refine Wp.seqRegion (.inl rfl) (by kernel_rfl) fun K' gd hK hg => ?_
  clear hg
  go_simp
  refine Wcall (.inl rfl) (refCheck_c _ o _ hV1 hf) ?_
  rintro v w2 ⟨rfl, hE2⟩
  have fz := fz_ext hE2 (b := w.heap.size + 1) (cell_lt y0) fz
  have x0 := hE2.cell x0
  have x1 := hE2.cell x1
  have y0 := hE2.cell y0
  have y1 := hE2.cell y1
  have hV2 := hV1.ext hE2
  go_simp
  refine hK _ _ ?_
  clear hK K' gd
  refine Wp.keep [1, 2, 4, 5] fun r3 hkeep => ?_
  obtain ⟨e1_3, e2_3, e4_3, e5_3, -⟩ := hkeep
  simp [go_sem, e1_2, e2_2, e4_2] at e1_3 e2_3 e4_3 e5_3
  clear e1_2 e2_2 e4_2
  by_cases h0 : checkS o = 0
  · skip
    refine Wp.seq ?_
    refine Wp.seqRegion (.inl rfl) (by kernel_rfl) fun K' gd hK hg => ?_
    clear hg
    go_simp
    refine hK _ _ ?_
    clear hK K' gd
    refine Wp.keep [1, 2, 4, 5, 10] fun r4 hkeep => ?_
    obtain ⟨e1_4, e2_4, e4_4, e5_4, e10_4, -⟩ := hkeep
    simp [go_sem, e1_3, e2_3, e4_3, e5_3] at e1_4 e2_4 e4_4 e5_4 e10_4
    clear e1_3 e2_3 e4_3 e5_3
    refine Wp.condF (by go_simp) ?_
    by_cases hd : 0 ≤ d ∧ d ≤ 1048576
    · skip
      refine Wp.skip ?_
      refine thenK_normal ?_
      refine Wp.seqRegion (.inl rfl) (by kernel_rfl) fun K' gd hK hg => ?_
      clear hg
      go_simp
      refine Wcall (.inl rfl) (withinR_T hd _) ?_
      rintro v w3 ⟨rfl, hE3⟩
      have fz := fz_ext hE3 (b := w.heap.size + 1) (cell_lt y0) fz
      have x0 := hE3.cell x0
      have x1 := hE3.cell x1
      have y0 := hE3.cell y0
      have y1 := hE3.cell y1
      have hV3 := hV2.ext hE3
      go_simp
      refine hK _ _ ?_
      clear hK K' gd
      refine Wp.keep [1, 2, 4, 6] fun r5 hkeep => ?_
      obtain ⟨e1_5, e2_5, e4_5, e6_5, -⟩ := hkeep
      simp [go_sem, e1_4, e2_4, e4_4, e5_4, e10_4] at e1_5 e2_5 e4_5 e6_5
      clear e1_4 e2_4 e4_4 e5_4 e10_4
      refine Wp.seq ?_
      refine Wp.seqRegion (.inl rfl) (by kernel_rfl) fun K' gd hK hg => ?_
      clear hg
      go_simp
      refine hK _ _ ?_
      clear hK K' gd
      refine Wp.keep [1, 2, 4, 16] fun r6 hkeep => ?_
      obtain ⟨e1_6, e2_6, e4_6, e16_6, -⟩ := hkeep
      simp [go_sem, e1_5, e2_5, e4_5, e6_5] at e1_6 e2_6 e4_6 e16_6
      clear e1_5 e2_5 e4_5 e6_5
      refine Wp.condF (by go_simp) ?_
      have hg := checkS_zero.1 h0
      have hask : ∃ _u : Unit, askS o (okDay d) = 0 := ⟨(), askS_good hg (by unfold okDay; exact decide_eq_true hd)⟩
      have ho := hg.ok
      have hm := ho.hm2
      have hm1 := ho.hm1
      have hn := ho.hn2
      obtain ⟨p, hcv, hrv, hO⟩ := hV3.ordF2 hg
      simp only [OA.cv, OA.rv] at hcv hrv
      injection hcv with p1 p2 p3
      injection hrv with p4 p5 p6
      subst p1 p2 p3 p4 p5 p6
      refine Wp.skip ?_
      refine thenK_normal ?_
      refine Wp.seq ?_
      refine Wp.seqRegion (.inl rfl) (by kernel_rfl) fun K' gd hK hg => ?_
      clear hg
      go_simp
      refine Wcall (.inl rfl) (endR_c p o _ hO) ?_
      rintro v w4 ⟨rfl, hE4⟩
      have fz := fz_ext hE4 (b := w.heap.size + 1) (cell_lt y0) fz
      have x0 := hE4.cell x0
      have x1 := hE4.cell x1
      have y0 := hE4.cell y0
      have y1 := hE4.cell y1
      have hO4 := hO.ext hE4
      go_simp
      refine hK _ _ ?_
      clear hK K' gd
      refine Wp.keep [1, 2, 4, 21] fun r7 hkeep => ?_
      obtain ⟨e1_7, e2_7, e4_7, e21_7, -⟩ := hkeep
      simp [go_sem, e1_6, e2_6, e4_6, e16_6] at e1_7 e2_7 e4_7 e21_7
      clear e1_6 e2_6 e4_6 e16_6
      by_cases he : d < endS o
      · skip
        refine Wp.condT (by go_simp) ?_
        have f0 := fz 0
        have f1 := fz 1
        have hlt := cell_lt y0
        have hlE : ∃ _u : Unit, latestE o d = 5 := ⟨(), by (obtain ⟨-, hask⟩ := hask; unfold latestE; rw [if_pos hask, if_pos (by omega)])⟩
        refine Wp.seqRegion (.inl rfl) (by kernel_rfl) fun K' gd hK hg => ?_
        clear hg
        go_simp
        refine hK _ _ ?_
        clear hK K' gd
        refine Wp.keep [4] fun r8 hkeep => ?_
        obtain ⟨e4_8, -⟩ := hkeep
        simp [go_sem, e1_7, e2_7, e4_7, e21_7] at e4_8
        clear e1_7 e2_7 e4_7 e21_7
        refine Wp.ret ?_
        refine thenK_ret ?_
        refine endK_cell (v := .agg #[.slice none 0 0, .int .i64 5]) Tryz.results30 (by decide) e4_8 (by go_simp) ?_
        obtain ⟨-, hlE⟩ := hlE
        exact ⟨_, by rw [hlE], by rw [if_neg (by rw [hlE]; decide)]; exact tabV_nil _ _, (by repeat (first | assumption | exact Ext.refl _ | refine Ext.drew ?_ | refine Ext.alloc ?_ _ | refine Ext.setC ?_ (by omega) _ | refine Ext.trans ?_ (by assumption)))⟩
      · skip
        refine Wp.condF (by go_simp) ?_
        have hlE : ∃ _u : Unit, latestE o d = 0 := ⟨(), by (obtain ⟨-, hask⟩ := hask; unfold latestE; rw [if_pos hask, if_neg (by omega)])⟩
        refine Wp.skip ?_
        refine thenK_normal ?_
        refine Wp.seqRegion (.inl rfl) (by kernel_rfl) fun K' gd hK hg => ?_
        clear hg
        go_simp
        refine Wcall (.inl rfl) (latestR_c p o d _ hO4 hd) ?_
        rintro v5 w5 ⟨hT, hE5⟩
        have hlt2 := cell_lt y0
        have fz := fz_ext hE5 (b := w.heap.size + 1) (cell_lt y0) fz
        have x0 := hE5.cell x0
        have x1 := hE5.cell x1
        have y0 := hE5.cell y0
        have y1 := hE5.cell y1
        obtain ⟨AT, cT, -, rfl, -⟩ := id hT.tabV
        have f0 := fz 0
        have f1 := fz 1
        have hlt := cell_lt y0
        go_simp
        refine hK _ _ ?_
        clear hK K' gd
        refine Wp.keep [4] fun r9 hkeep => ?_
        obtain ⟨e4_9, -⟩ := hkeep
        simp [go_sem, e1_7, e2_7, e4_7, e21_7] at e4_9
        clear e1_7 e2_7 e4_7 e21_7
        refine Wp.ret ?_
        refine endK_cell (v := .agg #[.slice AT (tabL o (lstA o d)).length cT, .int .i64 0]) Tryz.results30 (by decide) e4_9 (by go_simp) ?_
        obtain ⟨-, hlE⟩ := hlE
        refine ⟨_, by rw [hlE], ?_, (by repeat (first | assumption | exact Ext.refl _ | refine Ext.drew ?_ | refine Ext.alloc ?_ _ | refine Ext.setC ?_ (by omega) _ | refine Ext.trans ?_ (by assumption)))⟩
        rw [if_pos hlE]
        exact (OwnTab.setB (OwnTab.setB hT hlt2) hlt2).tabV
    · skip
      refine Wp.skip ?_
      refine thenK_normal ?_
      refine Wp.seqRegion (.inl rfl) (by kernel_rfl) fun K' gd hK hg => ?_
      clear hg
      go_simp
      refine Wcall (.inl rfl) (withinR_F hd _) ?_
      rintro v w3 ⟨rfl, hE3⟩
      have fz := fz_ext hE3 (b := w.heap.size + 1) (cell_lt y0) fz
      have x0 := hE3.cell x0
      have x1 := hE3.cell x1
      have y0 := hE3.cell y0
      have y1 := hE3.cell y1
      go_simp
      refine hK _ _ ?_
      clear hK K' gd
      refine Wp.keep [1, 2, 4, 6] fun r10 hkeep => ?_
      obtain ⟨e1_10, e2_10, e4_10, e6_10, -⟩ := hkeep
      simp [go_sem, e1_4, e2_4, e4_4, e5_4, e10_4] at e1_10 e2_10 e4_10 e6_10
      clear e1_4 e2_4 e4_4 e5_4 e10_4
      refine Wp.seq ?_
      refine Wp.seqRegion (.inl rfl) (by kernel_rfl) fun K' gd hK hg => ?_
      clear hg
      go_simp
      refine hK _ _ ?_
      clear hK K' gd
      refine Wp.keep [1, 2, 4, 16] fun r11 hkeep => ?_
      obtain ⟨e1_11, e2_11, e4_11, e16_11, -⟩ := hkeep
      simp [go_sem, e1_10, e2_10, e4_10, e6_10] at e1_11 e2_11 e4_11 e16_11
      clear e1_10 e2_10 e4_10 e6_10
      refine Wp.condT (by go_simp) ?_
      have f0 := fz 0
      have f1 := fz 1
      have hlt := cell_lt y0
      have hlE : ∃ _u : Unit, latestE o d = 1 := ⟨(), by (have h1 : askS o (okDay d) = 1 := by (unfold askS okDay; rw [if_pos h0, if_neg (by rw [decide_eq_true_iff]; exact hd)])); (unfold latestE; rw [if_neg (by rw [h1]; decide), h1])⟩
      refine Wp.seqRegion (.inl rfl) (by kernel_rfl) fun K' gd hK hg => ?_
      clear hg
      go_simp
      refine hK _ _ ?_
      clear hK K' gd
      refine Wp.keep [4] fun r12 hkeep => ?_
      obtain ⟨e4_12, -⟩ := hkeep
      simp [go_sem, e1_11, e2_11, e4_11, e16_11] at e4_12
      clear e1_11 e2_11 e4_11 e16_11
      refine Wp.ret ?_
      refine thenK_ret ?_
      refine endK_cell (v := .agg #[.slice none 0 0, .int .i64 1]) Tryz.results30 (by decide) e4_12 (by go_simp) ?_
      obtain ⟨-, hlE⟩ := hlE
      exact ⟨_, by rw [hlE], by rw [if_neg (by rw [hlE]; decide)]; exact tabV_nil _ _, (by repeat (first | assumption | exact Ext.refl _ | refine Ext.drew ?_ | refine Ext.alloc ?_ _ | refine Ext.setC ?_ (by omega) _ | refine Ext.trans ?_ (by assumption)))⟩
  · skip
    refine Wp.seq ?_
    refine Wp.seqRegion (.inl rfl) (by kernel_rfl) fun K' gd hK hg => ?_
    clear hg
    go_simp
    refine hK _ _ ?_
    clear hK K' gd
    refine Wp.keep [1, 2, 4, 5, 10] fun r13 hkeep => ?_
    obtain ⟨e1_13, e2_13, e4_13, e5_13, e10_13, -⟩ := hkeep
    simp [go_sem, e1_3, e2_3, e4_3, e5_3] at e1_13 e2_13 e4_13 e5_13 e10_13
    clear e1_3 e2_3 e4_3 e5_3
    refine Wp.condT (by go_simp) ?_
    have f0 := fz 0
    have f1 := fz 1
    have hlt := cell_lt y0
    have hlE : ∃ _u : Unit, latestE o d = checkS o := ⟨(), by (have h1 : askS o (okDay d) = checkS o := by (unfold askS; rw [if_neg h0])); (unfold latestE; rw [if_neg (by rw [h1]; exact h0), h1])⟩
    refine Wp.seqRegion (.inl rfl) (by kernel_rfl) fun K' gd hK hg => ?_
    clear hg
    go_simp
    refine hK _ _ ?_
    clear hK K' gd
    refine Wp.keep [4] fun r14 hkeep => ?_
    obtain ⟨e4_14, -⟩ := hkeep
    simp [go_sem, e1_13, e2_13, e4_13, e5_13, e10_13] at e4_14
    clear e1_13 e2_13 e4_13 e5_13 e10_13
    refine Wp.ret ?_
    refine thenK_ret ?_
    refine endK_cell (v := .agg #[.slice none 0 0, .int .i64 (checkS o)]) Tryz.results30 (by decide) e4_14 (by go_simp) ?_
    obtain ⟨-, hlE⟩ := hlE
    exact ⟨_, by rw [hlE], by rw [if_neg (by rw [hlE]; exact h0)]; exact tabV_nil _ _, (by repeat (first | assumption | exact Ext.refl _ | refine Ext.drew ?_ | refine Ext.alloc ?_ _ | refine Ext.setC ?_ (by omega) _ | refine Ext.trans ?_ (by assumption)))⟩
end Go.Proofs.YtnfagcccgmakdaaGreat
namespace Go.Proofs.YtnfagcccgmakdaaGreat
open Go.RowKit Go.Wk Go.Proofs
attribute [local irreducible] Go.Wk.Wops Go.Wk.Wp Go.Wk.Mtree Go.Wk.Mops
set_option maxHeartbeats 4000000
structure CopyG (w : World) (base : Nat) (a : OA) (o : Ord) : Prop where
  ord : OrdF w w.heap.size a o
  rC : RowB w a.cb 3 a.cc
  rR : 0 < o.n → RowB w a.rb 103 (a.rc * 3)
  rT : ∀ i, i < o.n → RowB w (a.tb i) 3 (a.tc i)
  zC : a.co = 0
  zR : a.ro = 0
  zT : ∀ i, i < o.n → a.to_ i = 0
  gC : base ≤ a.cb
  gR : 0 < o.n → base ≤ a.rb
  gT : ∀ i, i < o.n → base ≤ a.tb i
  ne : ∀ i, i < o.n → a.tb i ≠ a.cb
  inj : ∀ i j, i < o.n → j < o.n → a.tb i = a.tb j → i = j
def cOA (tb tc : Nat → Nat) : OA := ⟨0, 0, 0, none, 0, 0, 0, tb, fun _ => 0, tc⟩
structure CopJ (w wk : World) (S : Nat) (o : Ord) (b3 cb cc : Nat) (tb tc : Nat → Nat) (v : Value) (k : Nat) : Prop where
  ext : Ext w wk
  size : S ≤ wk.heap.size
  q2 : wk.cell? ⟨w.heap.size + 1, 0, none⟩ = some (.slice none 0 0) ∧ wk.cell? ⟨w.heap.size + 1, 1, none⟩ = some (.slice none 0 0) ∧ ∀ k, wk.frozen? ⟨w.heap.size + 1, k, none⟩ = false
  c0 : wk.cell? ⟨b3, 0, none⟩ = some (.slice (some ⟨cb, 0, none⟩) o.m cc)
  c1 : wk.cell? ⟨b3, 1, none⟩ = some v
  fz : ∀ k, wk.frozen? ⟨b3, k, none⟩ = false
  rC : RowB wk cb 3 cc
  cC : ∀ j, j < o.m → wk.cell? ⟨cb, j, none⟩ = some (.int .i64 (o.C j))
  own : wk.ownsRow S 103 3 v k (rcL (cOA tb tc) o id k)
  rT : ∀ i, i < k → RowB wk (tb i) 3 (tc i)
  cTT : ∀ i j, i < k → j < o.m → wk.cell? ⟨tb i, j, none⟩ = some (.int .i64 (o.T i j))
  cap : ∀ i, i < k → o.m ≤ tc i
  gT : ∀ i, i < k → S ≤ tb i
  up : ∀ i j, i < j → j < k → tb i < tb j
theorem CopJ.more {w wk w3 : World} {S : Nat} {o : Ord} {b3 cb cc : Nat} {tb tc : Nat → Nat} {v : Value} {k : Nat} (h : CopJ w wk S o b3 cb cc tb tc v k) (hE : Ext wk w3) : CopJ w w3 S o b3 cb cc tb tc v k := by
  have hb : b3 < wk.heap.size := cell_lt h.c0
  have hr : w.heap.size + 1 < wk.heap.size := cell_lt h.q2.1
  exact ⟨Below.trans h.ext (Below.mono hE h.ext.size), Nat.le_trans h.size hE.size, ⟨hE.cell h.q2.1, hE.cell h.q2.2.1, fz_ext hE hr h.q2.2.2⟩, hE.cell h.c0, hE.cell h.c1, fz_ext hE hb h.fz, h.rC.ext hE, fun j hj => hE.cell (h.cC j hj), ownsRow_ext h.own hE, fun i hi => (h.rT i hi).ext hE, fun i j hi hj => hE.cell (h.cTT i j hi hj), h.cap, h.gT, h.up⟩
theorem rcL_same {o : Ord} {tb tc tb' tc' : Nat → Nat} : ∀ k, (∀ i, i < k → tb i = tb' i ∧ tc i = tc' i) → rcL (cOA tb tc) o id k = rcL (cOA tb' tc') o id k
  | 0, _ => rfl
  | k + 1, h => by
    rw [rcL_succ, rcL_succ, rcL_same k (fun i hi => h i (by omega))]
    obtain ⟨h1, h2⟩ := h k (Nat.lt_succ_self _)
    congr 1
    show [_, _, Value.slice (some ⟨tb k, 0, none⟩) o.m (tc k)] = [_, _, Value.slice (some ⟨tb' k, 0, none⟩) o.m (tc' k)]
    rw [h1, h2]
theorem CopJ.step {w w3 w4 : World} {S : Nat} {o : Ord} {b3 cb cc g c : Nat} {tb tc : Nat → Nat} {v v' : Value} {k : Nat} (h : CopJ w w3 S o b3 cb cc tb tc v k) (h3 : b3 < S) (h1 : w.heap.size + 1 < S) (h31 : w.heap.size + 1 < b3)
    (hg : RowB w3 g 3 c) (hgc : ∀ j, j < o.m → w3.cell? ⟨g, j, none⟩ = some (.int .i64 (o.T k j))) (hcap : o.m ≤ c) (hgS : S ≤ g) (hup : ∀ i, i < k → tb i < g)
    (hown : w4.ownsRow S 103 3 v' (k + 1) (rcL (cOA tb tc) o id k ++ [.int .i64 (o.ID k), .int .i64 (o.A k), .slice (some ⟨g, 0, none⟩) o.m c])) (hgr : w3.grownBy w4 v.ownBlock) (hcS : cb < S) (h3c : cb ≠ b3) :
    CopJ w (w4.setCell ⟨b3, 1, none⟩ v') S o b3 cb cc (fun i => if i = k then g else tb i) (fun i => if i = k then c else tc i) v' (k + 1) := by
  have nv : ∀ b, b < S → v.ownBlock ≠ some b := fun b hb e => by have := (World.ownsRow.lt h.own b e).1; omega
  have nr : ∀ {b n : Nat}, RowB w3 b 3 n → v.ownBlock ≠ some b := fun hr => row_own_ne hr h.own (by decide)
  have row : ∀ {b n : Nat}, RowB w3 b 3 n → RowB (w4.setCell ⟨b3, 1, none⟩ v') b 3 n := fun hr => (hr.grown hgr (nr hr)).set _ rfl _
  have cell : ∀ {b i : Nat} {u : Value}, v.ownBlock ≠ some b → b ≠ b3 → w3.cell? ⟨b, i, none⟩ = some u → (w4.setCell ⟨b3, 1, none⟩ v').cell? ⟨b, i, none⟩ = some u := fun hv hb hc => (setCell_blk (Ne.symm hb)).trans (hgr.cell hc (fun e => hv e.symm))
  have fz : ∀ {b : Nat} (k : Nat), b < S → b < w3.heap.size → w3.frozen? ⟨b, k, none⟩ = false → (w4.setCell ⟨b3, 1, none⟩ v').frozen? ⟨b, k, none⟩ = false := fun k hb hl hf => by
    rw [World.frozen?_setCell]
    exact fz_same (hgr.block _ hl (fun e => nv _ hb e.symm)) hf
  have hb3 : b3 < w3.heap.size := cell_lt h.c0
  have hr1 : w.heap.size + 1 < w3.heap.size := cell_lt h.q2.1
  have hEw : Below w.heap.size w w4 := Below.grown h.ext h.own hgr (by omega) (Nat.le_refl _)
  refine ⟨Below.setCell hEw (by show w.heap.size ≤ b3; omega) _, by simp; exact Nat.le_trans h.size hgr.size, ⟨cell (nv _ h1) (by omega) h.q2.1, cell (nv _ h1) (by omega) h.q2.2.1, fun j => fz j h1 hr1 (h.q2.2.2 j)⟩, ?_, ?_, fun j => fz j h3 hb3 (h.fz j), row h.rC, fun j hj => cell (nr h.rC) (fun e => ?_) (h.cC j hj), ?_, ?_, ?_, ?_, ?_, ?_⟩
  · rw [setCell_off (by decide)]; exact hgr.cell h.c0 (fun e => nv _ h3 e.symm)
  · exact World.cell?_setCell_same' _ _ _ (by rw [hgr.cell h.c1 (fun e => nv _ h3 e.symm)]; rfl)
  · exact h3c e
  · rw [rcL_succ, show rcL (cOA (fun i => if i = k then g else tb i) (fun i => if i = k then c else tc i)) o id k = rcL (cOA tb tc) o id k from rcL_same k fun i hi => ⟨if_neg (by omega), if_neg (by omega)⟩]
    have e : rcs (cOA (fun i => if i = k then g else tb i) (fun i => if i = k then c else tc i)) o (id k) = [.int .i64 (o.ID k), .int .i64 (o.A k), .slice (some ⟨g, 0, none⟩) o.m c] := by
      show [_, _, Value.slice (some ⟨if k = k then g else tb k, 0, none⟩) o.m (if k = k then c else tc k)] = _
      rw [if_pos rfl, if_pos rfl]; rfl
    rw [e]
    exact ownsRow_setCell_below hown h3 _
  · intro i hi
    by_cases e : i = k
    · simp only [if_pos e]; exact row hg
    · simp only [if_neg e]; exact row (h.rT i (by omega))
  · intro i j hi hj
    by_cases e : i = k
    · subst e; simp only [if_pos]; exact cell (nr hg) (by omega) (hgc j hj)
    · simp only [if_neg e]; exact cell (nr (h.rT i (by omega))) (by have := h.gT i (by omega); omega) (h.cTT i j (by omega) hj)
  · intro i hi
    by_cases e : i = k
    · simp only [if_pos e]; exact hcap
    · simp only [if_neg e]; exact h.cap i (by omega)
  · intro i hi
    by_cases e : i = k
    · simp only [if_pos e]; exact hgS
    · simp only [if_neg e]; exact h.gT i (by omega)
  · intro i j hij hj
    by_cases e : j = k
    · subst e; simp only [if_pos, if_neg (show ¬ i = j by omega)]; exact hup i hij
    · simp only [if_neg e, if_neg (show ¬ i = k by omega)]; exact h.up i j hij (by omega)
theorem CopJ.copy {w wk : World} {S B : Nat} {o : Ord} {b3 cb cc : Nat} {tb tc : Nat → Nat} {v : Value} (ho : OrdOk o) (h : CopJ w wk S o b3 cb cc tb tc v o.n) (h1 : B ≤ cb) (hc : o.m ≤ cc) (hcS : cb < S) (hS : B ≤ S) :
    ∃ a', .slice (some ⟨cb, 0, none⟩) o.m cc = OA.cv a' o ∧ v = OA.rv a' o ∧ CopyG wk B a' o := by
  have hne : ∀ i, i < o.n → tb i ≠ cb := fun i hi => by have := h.gT i hi; omega
  have hinj : ∀ i j, i < o.n → j < o.n → tb i = tb j → i = j := fun i j hi hj e => by
    rcases Nat.lt_trichotomy i j with hlt | rfl | hlt
    · have := h.up i j hlt hj; omega
    · rfl
    · have := h.up j i hlt hi; omega
  rcases h.own.2 with ⟨rfl, h0⟩ | ⟨g, cap, cur, rfl, hb, hg, hnc, hcm, hcs, htake⟩
  · refine ⟨⟨cb, 0, cc, none, 0, 0, 0, tb, fun _ => 0, tc⟩, rfl, by simp only [OA.rv, h0], ⟨?_, h.rC, fun h' => absurd h' (by omega), h.rT, rfl, rfl, fun _ _ => rfl, h1, fun h' => absurd h' (by omega), fun i hi => Nat.le_trans hS (h.gT i hi), hne, hinj⟩⟩
    refine ⟨ho.hm1, ho.hm2, ho.hn2, ?_, fun h' => absurd h' (by omega), fun i hi => absurd hi (by omega), fun i hi => absurd hi (by omega), fun i hi => absurd hi (by omega), ?_, h.rC.lt, fun h' => absurd h' (by omega), fun i hi => (h.rT i hi).lt, hc, by rw [h0]; exact Nat.le_refl _, h.cap, ho.vC, ho.vA, ho.vT⟩
    · intro j hj; simp only [Nat.zero_add]; exact h.cC j hj
    · intro i j hi hj; simp only [Nat.zero_add]; exact h.cTT i j hi hj
  · have hcell : ∀ i r, r < 3 → i < o.n → ∀ u, (rcs (cOA tb tc) o (id i))[r]? = some u → wk.cell? ⟨g, i * 3 + r, none⟩ = some u := fun i r hr hi u hu => by
      have := World.ownsRow.cells h.own (g := g) rfl (i * 3 + r) u (by rw [rcL_get (cOA tb tc) o id hr o.n hi]; exact hu)
      rwa [Addr.add_lit, Nat.zero_add] at this
    have hrow : RowB wk g 103 (cap * 3) := ⟨cur, hg, by simpa using hcs⟩
    refine ⟨⟨cb, 0, cc, some ⟨g, 0, none⟩, g, 0, cap, tb, fun _ => 0, tc⟩, rfl, rfl, ⟨?_, h.rC, fun _ => hrow, h.rT, rfl, rfl, fun _ _ => rfl, h1, fun _ => Nat.le_trans hS hb, fun i hi => Nat.le_trans hS (h.gT i hi), hne, hinj⟩⟩
    refine ⟨ho.hm1, ho.hm2, ho.hn2, ?_, fun _ => rfl, ?_, ?_, ?_, ?_, h.rC.lt, fun _ => hrow.lt, fun i hi => (h.rT i hi).lt, hc, hnc, h.cap, ho.vC, ho.vA, ho.vT⟩
    · intro j hj; simp only [Nat.zero_add]; exact h.cC j hj
    · intro i hi; simp only [Nat.zero_add]; exact hcell i 0 (by omega) hi _ rfl
    · intro i hi; simp only [Nat.zero_add]; exact hcell i 1 (by omega) hi _ rfl
    · intro i hi; simp only [Nat.zero_add]; exact hcell i 2 (by omega) hi _ rfl
    · intro i j hi hj; simp only [Nat.zero_add]; exact h.cTT i j hi hj
theorem CopyG.other {w w' : World} {base : Nat} {a : OA} {o : Ord} (h : CopyG w base a o) (hs : w.heap.size ≤ w'.heap.size) (hb : ∀ k, (k = a.cb ∨ (0 < o.n ∧ k = a.rb) ∨ ∃ i, i < o.n ∧ k = a.tb i) → w'.heap[k]? = w.heap[k]?) : CopyG w' base a o := by
  have bC := hb a.cb (.inl rfl)
  have bR : 0 < o.n → w'.heap[a.rb]? = w.heap[a.rb]? := fun h' => hb a.rb (.inr (.inl ⟨h', rfl⟩))
  have bT : ∀ i, i < o.n → w'.heap[a.tb i]? = w.heap[a.tb i]? := fun i hi => hb _ (.inr (.inr ⟨i, hi, rfl⟩))
  have hO := h.ord
  exact { h with
    ord := { hO.more hs with
      hC := fun j hj => (World.cell?_of_block (a := ⟨a.cb, a.co + j, none⟩) bC).trans (hO.hC j hj)
      hI := fun i hi => (World.cell?_of_block (a := ⟨a.rb, a.ro + i * 3, none⟩) (bR (by omega))).trans (hO.hI i hi)
      hA := fun i hi => (World.cell?_of_block (a := ⟨a.rb, a.ro + i * 3 + 1, none⟩) (bR (by omega))).trans (hO.hA i hi)
      hT := fun i hi => (World.cell?_of_block (a := ⟨a.rb, a.ro + i * 3 + 2, none⟩) (bR (by omega))).trans (hO.hT i hi)
      hTT := fun i j hi hj => (World.cell?_of_block (a := ⟨a.tb i, a.to_ i + j, none⟩) (bT i hi)).trans (hO.hTT i j hi hj) }
    rC := h.rC.of_block bC
    rR := fun h' => (h.rR h').of_block (bR h')
    rT := fun i hi => (h.rT i hi).of_block (bT i hi) }
theorem CopyG.ext {w w' : World} {base : Nat} {a : OA} {o : Ord} (h : CopyG w base a o) (hE : Ext w w') : CopyG w' base a o :=
  h.other hE.size fun k hk => by
    rcases hk with rfl | ⟨h', rfl⟩ | ⟨i, hi, rfl⟩
    · exact hE.block _ h.rC.lt
    · exact hE.block _ (h.rR h').lt
    · exact hE.block _ (h.rT i hi).lt
theorem CopyG.less {w : World} {base b2 : Nat} {a : OA} {o : Ord} (h : CopyG w base a o) (hb : b2 ≤ base) : CopyG w b2 a o :=
  { h with gC := Nat.le_trans hb h.gC, gR := fun h' => Nat.le_trans hb (h.gR h'), gT := fun i hi => Nat.le_trans hb (h.gT i hi) }
theorem CopyG.away {w : World} {base B k : Nat} {a : OA} {o : Ord} {v : Value} (h : CopyG w base a o) (hB : B < base) : CopyG (w.setCell ⟨B, k, none⟩ v) base a o :=
  h.other (by simp) fun k' hk => heap_setCell_other w ⟨B, k, none⟩ k' v (by
    rcases hk with rfl | ⟨h', rfl⟩ | ⟨i, hi, rfl⟩
    · have := h.gC; show a.cb ≠ B; omega
    · have := h.gR h'; show a.rb ≠ B; omega
    · have := h.gT i hi; show a.tb i ≠ B; omega)
theorem own_new {w : World} {B m : Nat} {v : Value} {f : Nat → Int} (h : w.ownsRow B 3 1 v m ((List.range m).map fun j => .int .i64 (f j))) (hm : 0 < m) : ∃ g c, v = .slice (some ⟨g, 0, none⟩) m c ∧ B ≤ g ∧ RowB w g 3 c ∧ m ≤ c ∧ ∀ j, j < m → w.cell? ⟨g, j, none⟩ = some (.int .i64 (f j)) := by
  rcases h.2 with ⟨rfl, hn⟩ | ⟨g, cap, cur, rfl, hb, hg, hnc, hcm, hcs, htake⟩
  · omega
  · refine ⟨g, cap, rfl, hb, ⟨cur, hg, by simpa using hcs⟩, hnc, fun j hj => ?_⟩
    have := World.ownsRow.cells h (g := g) rfl j (.int .i64 (f j)) (intL_get hj)
    rwa [Addr.add_lit, Nat.zero_add] at this
theorem copiedR_c (a : OA) (o : Ord) (w : World) (hO : OrdF w w.heap.size a o) :
    CallsV Tryz.prog 101 #[.agg #[a.cv o, a.rv o]] w fun v w' => ∃ a', v = .agg #[OA.cv a' o, OA.rv a' o] ∧ CopyG w' w.heap.size a' o ∧ Ext w w' := by
  have ho := hO.ok
  have hm := hO.hm2
  have hm1 := hO.hm1
  have hn := hO.hn2
  have hm9 : o.m ≤ 1000000000 := by omega
  have hn9 : o.n ≤ 1000000000 := by omega
  simp only [OA.cv, OA.rv]
  refine Wp.fn Tryz.func101 rfl Tryz.ntmps101 (by simp) ?_
  refine Wp.keep [0] fun r1 hkeep => ?_
  obtain ⟨e0_1, -⟩ := hkeep
  simp [go_sem] at e0_1
  have x0 := cell_al (.cells #[.slice none 0 0, .slice none 0 0] 25) (cell_nn w #[.slice (some ⟨a.cb, a.co, none⟩) o.m a.cc, .slice a.rA o.n a.rc] 25 0 rfl (v := .slice (some ⟨a.cb, a.co, none⟩) o.m a.cc) rfl)
  have x1 := cell_al (.cells #[.slice none 0 0, .slice none 0 0] 25) (cell_nn w #[.slice (some ⟨a.cb, a.co, none⟩) o.m a.cc, .slice a.rA o.n a.rc] 25 1 rfl (v := .slice a.rA o.n a.rc) rfl)
  have y0 := cell_nn (w.alloc (.cells #[.slice (some ⟨a.cb, a.co, none⟩) o.m a.cc, .slice a.rA o.n a.rc] 25)) #[.slice none 0 0, .slice none 0 0] 25 0 (n := w.heap.size + 1) (by simp) (v := .slice none 0 0) rfl
  have y1 := cell_nn (w.alloc (.cells #[.slice (some ⟨a.cb, a.co, none⟩) o.m a.cc, .slice a.rA o.n a.rc] 25)) #[.slice none 0 0, .slice none 0 0] 25 1 (n := w.heap.size + 1) (by simp) (v := .slice none 0 0) rfl
  have fz := frz_nw (w.alloc (.cells #[.slice (some ⟨a.cb, a.co, none⟩) o.m a.cc, .slice a.rA o.n a.rc] 25)) #[.slice none 0 0, .slice none 0 0] 25 (n := w.heap.size + 1) (by simp)
  have hEV : Ext w ((w.alloc (.cells #[.slice (some ⟨a.cb, a.co, none⟩) o.m a.cc, .slice a.rA o.n a.rc] 25)).alloc (.cells #[.slice none 0 0, .slice none 0 0] 25)) := (by repeat (first | assumption | exact Ext.refl _ | refine Ext.drew ?_ | refine Ext.alloc ?_ _ | refine Ext.trans ?_ (by assumption)))
  have hVs : ((w.alloc (.cells #[.slice (some ⟨a.cb, a.co, none⟩) o.m a.cc, .slice a.rA o.n a.rc] 25)).alloc (.cells #[.slice none 0 0, .slice none 0 0] 25)).heap.size = w.heap.size + 1 + 1 := by simp
  refine Wp.seqRegion (.inl rfl) (by kernel_rfl) fun K' gd hK hg => ?_
  clear hg
  go_simp
  refine hK _ _ ?_
  clear hK K' gd
  refine Wp.keep [1, 2] fun r2 hkeep => ?_
  obtain ⟨e1_2, e2_2, -⟩ := hkeep
  simp [go_sem, e0_1] at e1_2 e2_2
  clear e0_1
  generalize ((w.alloc (.cells #[.slice (some ⟨a.cb, a.co, none⟩) o.m a.cc, .slice a.rA o.n a.rc] 25)).alloc (.cells #[.slice none 0 0, .slice none 0 0] 25)) = V at *
  have hOV := hO.ext hEV
  have hO0 := hOV.ext ((Ext.refl V).alloc (.cells #[] 3))
  refine Wp.seqRegion (.inl rfl) (by kernel_rfl) fun K' gd hK hg => ?_
  clear hg
  refine Wops.cut 3 fun K1 hK1 => ?_
  simp only [List.take_succ_cons, List.take_zero]
  go_simp
  refine hK1 _ _ ?_
  clear hK1 K1
  simp only [List.drop_succ_cons, List.drop_zero]
  obtain ⟨v', w1, hrun, hown, hgr⟩ := app_new (w := V.alloc (.cells #[] 3)) ints_T ⟨V.heap.size, 0, none⟩ ⟨a.cb, a.co, none⟩ o.m a.cc (copL o) 22 (by simp [copL]) (intL_src (fun j hj => hO0.hC j hj)) hm1 (by omega)
  obtain ⟨g, cc, rfl, hgV, hgr1, hcc, hgc⟩ := own_new hown hm1
  have hE1 : Ext V w1 := Ext.trans ((Ext.refl V).alloc _) (grown_ext hgr)
  refine Wops.law rfl (exec_append2 rfl hrun (by go_simp) (by go_simp)) ?_
  go_simp
  refine hK _ _ ?_
  clear hK K' gd
  refine Wp.keep [1, 2, 3] fun r3 hkeep => ?_
  obtain ⟨e1_3, e2_3, e3_3, -⟩ := hkeep
  simp [go_sem, e1_2, e2_2] at e1_3 e2_3 e3_3
  clear e1_2 e2_2
  refine Wp.seq ?_
  have hgV : w.heap.size + 1 + 1 < g := (by have : (V.alloc (.cells #[] 3)).heap.size = V.heap.size + 1 := (by simp); omega)
  have hgl := hgr1.lt
  have hEz : Ext w1 (w1.alloc (.cells #[.slice (some ⟨g, 0, none⟩) o.m cc, .slice none 0 0] 25)) := (by repeat (first | assumption | exact Ext.refl _ | refine Ext.drew ?_ | refine Ext.alloc ?_ _ | refine Ext.trans ?_ (by assumption)))
  have hEVZ : Ext V (w1.alloc (.cells #[.slice (some ⟨g, 0, none⟩) o.m cc, .slice none 0 0] 25)) := Ext.trans hE1 hEz
  have hs1 := hE1.size
  have hZs : (w1.alloc (.cells #[.slice (some ⟨g, 0, none⟩) o.m cc, .slice none 0 0] 25)).heap.size = w1.heap.size + 1 := by simp
  have hI0 : CopJ w (w1.alloc (.cells #[.slice (some ⟨g, 0, none⟩) o.m cc, .slice none 0 0] 25)) (w1.heap.size + 1) o w1.heap.size g cc (fun _ => 0) (fun _ => 0) (.slice none 0 0) 0 := ⟨Ext.trans hEV hEVZ, by omega, ⟨hEVZ.cell y0, hEVZ.cell y1, fz_ext hEVZ (by omega) fz⟩, cell_nn w1 _ _ 0 rfl rfl, cell_nn w1 _ _ 1 rfl rfl, frz_nw w1 _ _ rfl, hgr1.ext hEz, fun j hj => hEz.cell (hgc j hj), World.ownsRow_nil _ _ _ _, fun i hi => absurd hi (Nat.not_lt_zero _), fun i j hi => absurd hi (Nat.not_lt_zero _), fun i hi => absurd hi (Nat.not_lt_zero _), fun i hi => absurd hi (Nat.not_lt_zero _), fun i j _ hj => absurd hj (Nat.not_lt_zero _)⟩
  obtain ⟨b3, hb3⟩ : ∃ b, w1.heap.size = b := ⟨_, rfl⟩
  rw [hb3] at hI0 hgl hs1 hZs e3_3
  generalize (w1.alloc (.cells #[.slice (some ⟨g, 0, none⟩) o.m cc, .slice none 0 0] 25)) = W at *
  clear hEz hE1 hgr hown hrun hgc hgr1 hb3
  refine Wp.seqRegion (.inl rfl) (by kernel_rfl) fun K' gd hK hg => ?_
  clear hg
  go_simp
  refine hK _ _ ?_
  clear hK K' gd
  refine Wp.keep [1, 2, 3, 4] fun r4 hkeep => ?_
  obtain ⟨e1_4, e2_4, e3_4, e4_4, -⟩ := hkeep
  simp [go_sem, e1_3, e2_3, e3_3] at e1_4 e2_4 e3_4 e4_4
  clear e1_3 e2_3 e3_3
  refine Wp.block ?_
  refine Wp.loop (fun k ρ ds wk => AllEq [1, 2, 3] ρ r4 ∧ ds = [] ∧ (∃ tb tc v, ρ 4 = .int .i64 (k : Int) ∧ CopJ w wk (b3 + 1) o b3 g cc tb tc v k ∧ Ext V wk)) (o.n) ?_ ?_
  · refine ⟨AllEq.refl _ _, rfl, ?_⟩
    exact ⟨_, _, _, by rw [e4_4]; rfl, hI0, hEVZ⟩
  · rintro k r5 _ wk hk ⟨hA, rfl, ⟨tb, tc, v, e4, hI, hEk⟩⟩
    obtain ⟨e1_5, e2_5, e3_5, -⟩ := hA
    rw [e1_4] at e1_5
    rw [e2_4] at e2_5
    rw [e3_4] at e3_5
    have z0 := hEk.cell x0
    have z1 := hEk.cell x1
    refine Wp.seq ?_
    refine Wp.seqRegion (.inl rfl) (by kernel_rfl) fun K' gd hK hg => ?_
    clear hg
    go_simp
    refine hK _ _ ?_
    clear hK K' gd
    refine Wp.keep [1, 2, 3, 4, 15] fun r6 hkeep => ?_
    obtain ⟨e1_6, e2_6, e3_6, e4_6, e15_6, -⟩ := hkeep
    simp [go_sem, e1_5, e2_5, e3_5, e4] at e1_6 e2_6 e3_6 e4_6 e15_6
    clear e1_5 e2_5 e3_5 e4
    by_cases h : k < o.n
    · refine Wp.condT (by go_simp) ?_
      have hOk := hOV.ext hEk
      have hrA := hOk.hr (by omega)
      have cI := hOk.hI k h
      have cA := hOk.hA k h
      have cT := hOk.hT k h
      have b1 : (k : Int) < (o.n : Int) := by omega
      have hOk2 := hOk.ext (show Ext wk ((wk.alloc (.cells #[.int .i64 (o.ID k), .int .i64 (o.A k), .slice (some ⟨a.tb k, a.to_ k, none⟩) o.m (a.tc k)] 103)).alloc (.cells #[] 3)) from (by repeat (first | assumption | exact Ext.refl _ | refine Ext.drew ?_ | refine Ext.alloc ?_ _ | refine Ext.trans ?_ (by assumption))))
      have t0 := cell_al (.cells #[] 3) (cell_nn wk #[.int .i64 (o.ID k), .int .i64 (o.A k), .slice (some ⟨a.tb k, a.to_ k, none⟩) o.m (a.tc k)] 103 0 rfl (v := .int .i64 (o.ID k)) rfl)
      have t1 := cell_al (.cells #[] 3) (cell_nn wk #[.int .i64 (o.ID k), .int .i64 (o.A k), .slice (some ⟨a.tb k, a.to_ k, none⟩) o.m (a.tc k)] 103 1 rfl (v := .int .i64 (o.A k)) rfl)
      have t2 := cell_al (.cells #[] 3) (cell_nn wk #[.int .i64 (o.ID k), .int .i64 (o.A k), .slice (some ⟨a.tb k, a.to_ k, none⟩) o.m (a.tc k)] 103 2 rfl (v := .slice (some ⟨a.tb k, a.to_ k, none⟩) o.m (a.tc k)) rfl)
      have tf := frz_al (.cells #[] 3) (by simp) (frz_nw wk #[.int .i64 (o.ID k), .int .i64 (o.A k), .slice (some ⟨a.tb k, a.to_ k, none⟩) o.m (a.tc k)] 103 rfl)
      refine Wp.skip ?_
      refine thenK_normal ?_
      refine Wp.seq ?_
      refine Wp.block ?_
      refine Wp.seqRegion (.inl rfl) (by kernel_rfl) fun K' gd hK hg => ?_
      clear hg
      go_simp
      refine hK _ _ ?_
      clear hK K' gd
      refine Wp.keep [1, 2, 3, 4, 5] fun r7 hkeep => ?_
      obtain ⟨e1_7, e2_7, e3_7, e4_7, e5_7, -⟩ := hkeep
      simp [go_sem, e1_6, e2_6, e3_6, e4_6, e15_6] at e1_7 e2_7 e3_7 e4_7 e5_7
      clear e1_6 e2_6 e3_6 e4_6 e15_6
      refine Wp.seqRegion (.inl rfl) (by kernel_rfl) fun K' gd hK hg => ?_
      clear hg
      refine Wops.cut 3 fun K1 hK1 => ?_
      simp only [List.take_succ_cons, List.take_zero]
      go_simp
      refine hK1 _ _ ?_
      clear hK1 K1
      simp only [List.drop_succ_cons, List.drop_zero]
      obtain ⟨v', w2, hrun, hown, hgr⟩ := app_new (w := (wk.alloc (.cells #[.int .i64 (o.ID k), .int .i64 (o.A k), .slice (some ⟨a.tb k, a.to_ k, none⟩) o.m (a.tc k)] 103)).alloc (.cells #[] 3)) ints_T ⟨wk.heap.size + 1, 0, none⟩ ⟨a.tb k, a.to_ k, none⟩ o.m (a.tc k) (takL o k) 22 (by simp [takL]) (intL_src (fun j hj => hOk2.hTT k j h hj)) hm1 (by omega)
      obtain ⟨g2, c2, rfl, hg2, hgr2, hc2, hgc2⟩ := own_new hown hm1
      have hE2 := grown_ext hgr
      have t0 := hE2.cell t0
      have t1 := hE2.cell t1
      have t2 := hE2.cell t2
      have tf := fz_ext hE2 (by simp; omega) tf
      have tf2 := tf 2
      refine Wops.law rfl (exec_append2 rfl hrun (by go_simp) (by go_simp)) ?_
      go_simp
      refine hK _ _ ?_
      clear hK K' gd
      refine Wp.keep [1, 2, 3, 4, 5] fun r8 hkeep => ?_
      obtain ⟨e1_8, e2_8, e3_8, e4_8, e5_8, -⟩ := hkeep
      simp [go_sem, e1_7, e2_7, e3_7, e4_7, e5_7] at e1_8 e2_8 e3_8 e4_8 e5_8
      clear e1_7 e2_7 e3_7 e4_7 e5_7
      have hg2 : wk.heap.size + 1 < g2 := (by have e : ((wk.alloc (.cells #[.int .i64 (o.ID k), .int .i64 (o.A k), .slice (some ⟨a.tb k, a.to_ k, none⟩) o.m (a.tc k)] 103)).alloc (.cells #[] 3)).heap.size = wk.heap.size + 1 + 1 := (by simp); omega)
      have hE3 : Ext wk (w2.setCell ⟨wk.heap.size, 2, none⟩ (.slice (some ⟨g2, 0, none⟩) o.m c2)) := Ext.setC (Ext.trans (show Ext wk ((wk.alloc (.cells #[.int .i64 (o.ID k), .int .i64 (o.A k), .slice (some ⟨a.tb k, a.to_ k, none⟩) o.m (a.tc k)] 103)).alloc (.cells #[] 3)) from (by repeat (first | assumption | exact Ext.refl _ | refine Ext.drew ?_ | refine Ext.alloc ?_ _ | refine Ext.trans ?_ (by assumption)))) hE2) (Nat.le_refl _) _
      have r0 : (w2.setCell ⟨wk.heap.size, 2, none⟩ (.slice (some ⟨g2, 0, none⟩) o.m c2)).cell? ⟨wk.heap.size, 0, none⟩ = some (.int .i64 (o.ID k)) := (setCell_off (by decide)).trans t0
      have r1 : (w2.setCell ⟨wk.heap.size, 2, none⟩ (.slice (some ⟨g2, 0, none⟩) o.m c2)).cell? ⟨wk.heap.size, 1, none⟩ = some (.int .i64 (o.A k)) := (setCell_off (by decide)).trans t1
      have r2 : (w2.setCell ⟨wk.heap.size, 2, none⟩ (.slice (some ⟨g2, 0, none⟩) o.m c2)).cell? ⟨wk.heap.size, 2, none⟩ = some (.slice (some ⟨g2, 0, none⟩) o.m c2) := World.cell?_setCell_same' _ _ _ (by rw [t2]; rfl)
      have hgr3 : RowB (w2.setCell ⟨wk.heap.size, 2, none⟩ (.slice (some ⟨g2, 0, none⟩) o.m c2)) g2 3 c2 := hgr2.set _ rfl _
      have hgc3 : ∀ j, j < o.m → (w2.setCell ⟨wk.heap.size, 2, none⟩ (.slice (some ⟨g2, 0, none⟩) o.m c2)).cell? ⟨g2, j, none⟩ = some (.int .i64 (o.T k j)) := fun j hj => (setCell_blk (by omega)).trans (hgc2 j hj)
      generalize (w2.setCell ⟨wk.heap.size, 2, none⟩ (.slice (some ⟨g2, 0, none⟩) o.m c2)) = w3 at *
      have hI3 := hI.more hE3
      have c0 := hI3.c0
      have c1 := hI3.c1
      have hS3 := hI3.size
      have hEw3 : Ext w3 (w3.alloc (.cells #[.int .i64 (o.ID k), .int .i64 (o.A k), .slice (some ⟨g2, 0, none⟩) o.m c2] 103)) := (by repeat (first | assumption | exact Ext.refl _ | refine Ext.drew ?_ | refine Ext.alloc ?_ _ | refine Ext.trans ?_ (by assumption)))
      have hI4 := hI3.more hEw3
      have hupg : ∀ i, i < k → tb i < g2 := fun i hi => (by have := (hI.rT i hi).lt; omega)
      have hgS : b3 + 1 ≤ g2 := (by have := hI.size; omega)
      have hnv : v.ownBlock ≠ some b3 := fun e => (by have := (World.ownsRow.lt hI4.own b3 e).1; omega)
      clear t0 t1 t2 tf tf2 hgr2 hgc2 hE2
      refine Wp.loneRegion (.inl rfl) (by kernel_rfl) fun K' gd hK hg => ?_
      clear hg
      refine Wops.cut 4 fun K1 hK1 => ?_
      simp only [List.take_succ_cons, List.take_zero]
      go_simp
      refine hK1 _ _ ?_
      clear hK1 K1
      simp only [List.drop_succ_cons, List.drop_zero]
      obtain ⟨v'', w4, hrun, hown4, hgr4, -⟩ := app_run runs_T hI4.own ⟨w3.heap.size, 0, none⟩ 1 1 [.int .i64 (o.ID k), .int .i64 (o.A k), .slice (some ⟨g2, 0, none⟩) o.m c2] 23 rfl (news_three (cell_nn _ _ _ 0 rfl rfl) (cell_nn _ _ _ 1 rfl rfl) (cell_nn _ _ _ 2 rfl rfl)) (by intro u hu; simp only [List.mem_cons, List.not_mem_nil, or_false] at hu; rcases hu with rfl | rfl | rfl <;> rfl) (by omega) (by simp; omega) (w := w3.alloc (.cells #[.int .i64 (o.ID k), .int .i64 (o.A k), .slice (some ⟨g2, 0, none⟩) o.m c2] 103))
      obtain ⟨g4, cap4, rfl⟩ := ownsRow_succ hown4
      have c1' := hgr4.cell hI4.c1 (fun e => hnv e.symm)
      have f1' := fz_same (hgr4.block b3 (cell_lt hI4.c0) (fun e => hnv e.symm)) (hI4.fz 1)
      refine Wops.law rfl (exec_append2 rfl hrun (by go_simp) (by go_simp)) ?_
      go_simp
      refine hK _ _ ?_
      clear hK K' gd
      refine Ends.keep [1, 2, 3, 4] fun r9 hkeep => ?_
      obtain ⟨e1_9, e2_9, e3_9, e4_9, -⟩ := hkeep
      simp [go_sem, e1_8, e2_8, e3_8, e4_8, e5_8] at e1_9 e2_9 e3_9 e4_9
      clear e1_8 e2_8 e3_8 e4_8 e5_8
      refine Ends.mk ?_
      refine blockK_normal ?_
      refine thenK_normal ?_
      refine Wp.loneRegion (.inl rfl) (by kernel_rfl) fun K' gd hK hg => ?_
      clear hg
      go_simp
      refine hK _ _ ?_
      clear hK K' gd
      refine Ends.keep [1, 2, 3, 4] fun r10 hkeep => ?_
      obtain ⟨e1_10, e2_10, e3_10, e4_10, -⟩ := hkeep
      simp [go_sem, e1_9, e2_9, e3_9, e4_9] at e1_10 e2_10 e3_10 e4_10
      clear e1_9 e2_9 e3_9 e4_9
      refine Ends.mk ?_
      refine thenK_normal ⟨by omega, ⟨by rw [e1_10, e1_4], by rw [e2_10, e2_4], by rw [e3_10, e3_4], trivial⟩, rfl, ?_⟩
      refine ⟨_, _, _, by rw [e4_10, IntWalk.i64_in _ (by omega)]; rfl, CopJ.step hI4 (by omega) (by omega) (by omega) (hgr3.ext hEw3) (fun j hj => hEw3.cell (hgc3 j hj)) hc2 hgS hupg hown4 hgr4 (by omega) (by omega), ?_⟩
      exact Below.setCell (Below.grown (Ext.trans hEk (Ext.trans hE3 hEw3)) hI4.own hgr4 (by omega) (Nat.le_refl _)) (by show V.heap.size ≤ b3; omega) _
    · refine Wp.condF (by go_simp) ?_
      obtain rfl : k = o.n := by omega
      obtain ⟨q0, q1, qf⟩ := hI.q2
      have f0 := qf 0
      have f1 := qf 1
      have c0 := hI.c0
      have c1 := hI.c1
      obtain ⟨a', ha1, rfl, hG⟩ := hI.copy (B := w.heap.size + 1 + 1) ho (by omega) hcc (by omega) (by omega)
      simp only [OA.rv] at c1
      have hEI := hI.ext
      have ha2 : ∃ _u : Unit, Value.slice (some ⟨g, 0, none⟩) o.m cc = OA.cv a' o := ⟨(), ha1⟩
      clear ha1
      refine Wp.exit ?_
      refine thenK_exit ?_
      refine thenK_exit ?_
      refine blockK_here ?_
      refine thenK_normal ?_
      refine Wp.seqRegion (.inl rfl) (by kernel_rfl) fun K' gd hK hg => ?_
      clear hg
      go_simp
      refine hK _ _ ?_
      clear hK K' gd
      refine Wp.keep [2] fun r11 hkeep => ?_
      obtain ⟨e2_11, -⟩ := hkeep
      simp [go_sem, e1_6, e2_6, e3_6, e4_6, e15_6] at e2_11
      clear e1_6 e2_6 e3_6 e4_6 e15_6
      refine Wp.ret ?_
      refine endK_cell (v := .agg #[.slice (some ⟨g, 0, none⟩) o.m cc, .slice a'.rA o.n a'.rc]) Tryz.results101 (by decide) e2_11 (by go_simp) ?_
      obtain ⟨-, ha1⟩ := ha2
      exact ⟨a', by rw [ha1]; rfl, ((hG.away (Nat.lt_succ_self _)).away (Nat.lt_succ_self _)).less (by omega), Below.setCell (Below.setCell hEI (Nat.le_succ _) _) (Nat.le_succ _) _⟩
end Go.Proofs.YtnfagcccgmakdaaGreat
namespace Go.Proofs.YtnfagcccgmakdaaGreat
open Go.RowKit Go.Wk Go.Proofs
attribute [local irreducible] Go.Wk.Wops Go.Wk.Wp Go.Wk.Mtree Go.Wk.Mops
set_option maxHeartbeats 4000000
theorem CopyG.setC {w : World} {base : Nat} {a : OA} {o : Ord} (h : CopyG w base a o) {j : Nat} (hj : j < o.m) {c : Int} (hc : 1 ≤ c ∧ c ≤ 20) : CopyG (w.setCell ⟨a.cb, j, none⟩ (.int .i64 c)) base a (o.setC j c) := by
  have hO := h.ord
  have z1 := h.zC
  have ncr : 0 < o.n → a.cb ≠ a.rb := fun h' => h.rC.ne (h.rR h') (by decide)
  have row : ∀ {b n : Nat} {e : TypeId}, RowB w b e n → RowB (w.setCell ⟨a.cb, j, none⟩ (.int .i64 c)) b e n := fun hr => hr.set _ rfl _
  have e1 : (o.setC j c).m = o.m := setC_m j c
  have e2 : (o.setC j c).n = o.n := rfl
  refine ⟨⟨by rw [e1]; exact hO.hm1, by rw [e1]; exact hO.hm2, hO.hn2, fun j' hj' => ?_, hO.hr, fun i hi => (setCell_blk (ncr (by omega))).trans (hO.hI i hi), fun i hi => (setCell_blk (ncr (by omega))).trans (hO.hA i hi), fun i hi => by rw [e1]; exact (setCell_blk (ncr (by omega))).trans (hO.hT i hi), fun i j' hi hj' => (setCell_blk (Ne.symm (h.ne i hi))).trans (hO.hTT i j' hi (by rw [e1] at hj'; exact hj')), by simpa using hO.bC, fun hn => by simpa using hO.bR hn, fun i hi => by simpa using hO.bT i hi, by rw [e1]; exact hO.hcc, hO.hrc, fun i hi => by rw [e1]; exact hO.htc i hi, fun j' hj' => ?_, hO.vA, fun i j' hi hj' => hO.vT i j' hi (by rw [e1] at hj'; exact hj')⟩, row h.rC, fun h' => row (h.rR h'), fun i hi => row (h.rT i hi), h.zC, h.zR, h.zT, h.gC, h.gR, h.gT, h.ne, h.inj⟩
  · rw [e1] at hj'
    rw [z1, Nat.zero_add, setC_C c hj]
    by_cases e : j' = j
    · subst e; rw [if_pos rfl]
      exact World.cell?_setCell_same' _ _ _ (by have := hO.hC j' hj'; rw [z1, Nat.zero_add] at this; rw [this]; rfl)
    · rw [if_neg e, setCell_off (Ne.symm e)]
      have := hO.hC j' hj'; rwa [z1, Nat.zero_add] at this
  · rw [e1] at hj'; rw [setC_C c hj]; split
    · exact hc
    · exact hO.vC j' hj'
theorem CopyG.setT {w : World} {base : Nat} {a : OA} {o : Ord} (hg : OrdGood o) (h : CopyG w base a o) {i j : Nat} (hi : i < o.n) (hj : j < o.m) {t : Int} (ht : 1 ≤ t ∧ t ≤ 60) : CopyG (w.setCell ⟨a.tb i, j, none⟩ (.int .i64 t)) base a (o.setT i j t) := by
  have hO := h.ord
  have z1 := h.zT
  have ntr : a.tb i ≠ a.rb := (h.rT i hi).ne (h.rR (by omega)) (by decide)
  have row : ∀ {b n : Nat} {e : TypeId}, RowB w b e n → RowB (w.setCell ⟨a.tb i, j, none⟩ (.int .i64 t)) b e n := fun hr => hr.set _ rfl _
  have e2 : (o.setT i j t).n = o.n := setT_n i j t
  have hl : j < (o.runs[i]?.getD default).takes.length := by rw [hg.takes_len hi]; exact hj
  have hrv : ∀ i', i' < (o.setT i j t).n → i' < o.n := fun i' h' => by rw [e2] at h'; exact h'
  refine ⟨⟨hO.hm1, hO.hm2, by rw [e2]; exact hO.hn2, fun j' hj' => (setCell_blk (h.ne i hi)).trans (hO.hC j' hj'), fun hn => hO.hr (by rw [e2] at hn; exact hn), fun i' hi' => by rw [setT_ID]; exact (setCell_blk ntr).trans (hO.hI i' (hrv i' hi')), fun i' hi' => by rw [setT_A]; exact (setCell_blk ntr).trans (hO.hA i' (hrv i' hi')), fun i' hi' => (setCell_blk ntr).trans (hO.hT i' (hrv i' hi')), fun i' j' hi' hj' => ?_, by simpa using hO.bC, fun hn => by simpa using hO.bR (by rw [e2] at hn; exact hn), fun i' hi' => by simpa using hO.bT i' (hrv i' hi'), hO.hcc, by rw [e2]; exact hO.hrc, fun i' hi' => hO.htc i' (hrv i' hi'), hO.vC, fun i' hi' => by rw [setT_A]; exact hO.vA i' (hrv i' hi'), fun i' j' hi' hj' => ?_⟩, row h.rC, fun h' => row (h.rR (by rw [e2] at h'; exact h')), fun i' hi' => row (h.rT i' (hrv i' hi')), h.zC, h.zR, fun i' hi' => h.zT i' (hrv i' hi'), h.gC, fun h' => h.gR (by rw [e2] at h'; exact h'), fun i' hi' => h.gT i' (hrv i' hi'), fun i' hi' => h.ne i' (hrv i' hi'), fun i' j' hi' hj' => h.inj i' j' (hrv i' hi') (hrv j' hj')⟩
  · have hi2 := hrv i' hi'
    have hj2 : j' < o.m := hj'
    have c0 := hO.hTT i' j' hi2 hj2
    rw [setT_T t hi hl]
    rw [z1 i' hi2, Nat.zero_add] at c0 ⊢
    by_cases e : i' = i ∧ j' = j
    · obtain ⟨rfl, rfl⟩ := e
      rw [if_pos ⟨rfl, rfl⟩]
      exact World.cell?_setCell_same' _ _ _ (by rw [c0]; rfl)
    · rw [if_neg e]
      by_cases e2 : i' = i
      · subst e2
        rw [setCell_off (fun e3 => e ⟨rfl, e3.symm⟩)]; exact c0
      · rw [setCell_blk (fun e3 => e2 (h.inj i' i hi2 hi e3.symm))]; exact c0
  · rw [setT_T t hi hl]; split
    · exact ht
    · exact hO.vT i' j' (hrv i' hi') hj'
end Go.Proofs.YtnfagcccgmakdaaGreat
namespace Go.Proofs.YtnfagcccgmakdaaGreat
open Go.RowKit Go.Wk Go.Proofs
attribute [local irreducible] Go.Wk.Wops Go.Wk.Wp Go.Wk.Mtree Go.Wk.Mops
set_option maxHeartbeats 4000000
end Go.Proofs.YtnfagcccgmakdaaGreat
namespace Go.Proofs.YtnfagcccgmakdaaGreat
open Go.RowKit Go.Wk Go.Proofs
attribute [local irreducible] Go.Wk.Wops Go.Wk.Wp Go.Wk.Mtree Go.Wk.Mops
set_option maxHeartbeats 4000000
theorem OrderV.aO {w : World} {B : Nat} {L1 L2 : Option Addr} {k1 d1 k2 d2 : Nat} {o : Ord} (h : OrderV w B (.agg #[.slice L1 k1 d1, .slice L2 k2 d2]) o) (hg : OrdGood o) :
    ∃ p : OA, L1 = some ⟨p.cb, p.co, none⟩ ∧ k1 = o.m ∧ d1 = p.cc ∧ L2 = p.rA ∧ k2 = o.n ∧ d2 = p.rc ∧ OrdF w B p o := by
  obtain ⟨p, hcv, hrv, hO⟩ := h.ordF2 hg
  simp only [OA.cv, OA.rv] at hcv hrv
  injection hcv with p1 p2 p3
  injection hrv with p4 p5 p6
  exact ⟨p, p1, p2, p3, p4, p5, p6, hO⟩
end Go.Proofs.YtnfagcccgmakdaaGreat
namespace Go.Proofs.YtnfagcccgmakdaaGreat
open Go.RowKit Go.Wk Go.Proofs
attribute [local irreducible] Go.Wk.Wops Go.Wk.Wp Go.Wk.Mtree Go.Wk.Mops
set_option maxHeartbeats 4000000
def Fits3 (o : Ord) : Prop := o.cop.length ≤ 1000 ∧ o.runs.length ≤ 1000 ∧ ∀ k (h : k < o.runs.length), o.runs[k].takes.length ≤ 1000
theorem OrdGood.fits3 {o : Ord} (h : OrdGood o) : Fits3 o := ⟨by have := h.m2; omega, by have := h.n2; omega, fun k hk => by rw [(h.runs _ (List.getElem_mem hk)).len]; have := h.m2; omega⟩
theorem noOrd_fits3 : Fits3 noOrd := ⟨Nat.zero_le _, Nat.zero_le _, fun k hk => absurd hk (Nat.not_lt_zero _)⟩
theorem same_O (v1 v2 : Value) (o : Ord) (w : World) (h1 : OrderV w w.heap.size v1 o) (h2 : OrderV w w.heap.size v2 o) (hn : Fits3 o) :
    CallsV Tryz.prog 35 #[v1, v2] w fun v w' => v = .bool true ∧ Ext w w' := by
  obtain ⟨_, _, rfl, hI1, ⟨L1, g1, tv1, rfl, hx1, ht1, -⟩⟩ := h1
  obtain ⟨_, _, rfl, hI2, ⟨L2, g2, tv2, rfl, hx2, ht2, -⟩⟩ := h2
  obtain ⟨C1, e1, rfl, -⟩ := id hI1
  obtain ⟨C2, e2, rfl, -⟩ := id hI2
  obtain ⟨hn1, hn2, hn3⟩ := hn
  refine Wp.fn Tryz.func35 rfl Tryz.ntmps35 (by simp) ?_
  have xw := Ext.refl w
  refine Wp.keep [0, 1] fun r1 hkeep => ?_
  obtain ⟨e0_1, e1_1, -⟩ := hkeep
  simp [go_sem] at e0_1 e1_1
  refine Wp.seqRegion (.inl rfl) (by kernel_rfl) fun K' gd hK hg => ?_
  clear hg
  refine Wops.cut 1 fun K1 hK1 => ?_
  simp only [List.take_succ_cons, List.take_zero]
  go_simp
  refine hK1 _ _ ?_
  clear hK1 K1
  simp only [List.drop_succ_cons, List.drop_zero]
  refine Wops.absA fun V2_1 n2 hV2_1 => ?_
  obtain ⟨q2, hV2_1, s2, kV2_1, f2, r2⟩ := hV2_1
  try simp only [q2] at kV2_1 f2 r2 ⊢
  replace xw := Ext.trans xw hV2_1
  have c2_0 := kV2_1 0 _ rfl
  have c2_1 := kV2_1 1 _ rfl
  clear kV2_1 hV2_1
  clear r2
  refine Wops.cut 1 fun K1 hK1 => ?_
  simp only [List.take_succ_cons, List.take_zero]
  go_simp
  refine hK1 _ _ ?_
  clear hK1 K1
  simp only [List.drop_succ_cons, List.drop_zero]
  refine Wops.absA fun V3_2 n3 hV3_2 => ?_
  obtain ⟨q3, hV3_2, s3, kV3_2, f3, r3⟩ := hV3_2
  try simp only [q3] at kV3_2 f3 r3 ⊢
  replace f2 := Ext.fz hV3_2 c2_0 f2
  replace xw := Ext.trans xw hV3_2
  replace c2_0 := Ext.cell hV3_2 c2_0
  replace c2_1 := Ext.cell hV3_2 c2_1
  have c3_0 := kV3_2 0 _ rfl
  have c3_1 := kV3_2 1 _ rfl
  clear kV3_2 hV3_2
  clear r3
  go_simp
  refine hK _ _ ?_
  clear hK K' gd
  refine Wp.keep [2, 3] fun r2 hkeep => ?_
  obtain ⟨e2_2, e3_2, -⟩ := hkeep
  simp [go_sem, e0_1, e1_1] at e2_2 e3_2
  clear e0_1 e1_1
  refine Wp.seqRegion (.inl rfl) (by kernel_rfl) fun K' gd hK hg => ?_
  clear hg
  refine Wops.cut 5 fun K1 hK1 => ?_
  simp only [List.take_succ_cons, List.take_zero]
  go_simp
  refine Wcall (.inl rfl) (same_I _ _ o.cop _ (hI1.ext xw) (hI2.ext xw) hn1) ?_
  rintro v w2 ⟨rfl, hE⟩
  go_simp
  refine hK1 _ _ ?_
  clear hK1 K1
  simp only [List.drop_succ_cons, List.drop_zero]
  have z3 := Below.size hE
  replace f2 := Ext.fz hE c2_0 f2
  replace f3 := Ext.fz hE c3_0 f3
  replace xw := Ext.trans xw hE
  replace c2_0 := Ext.cell hE c2_0
  replace c2_1 := Ext.cell hE c2_1
  replace c3_0 := Ext.cell hE c3_0
  replace c3_1 := Ext.cell hE c3_1
  clear hE
  go_simp
  refine hK _ _ ?_
  clear hK K' gd
  refine Wp.keep [2, 3, 5] fun r4 hkeep => ?_
  obtain ⟨e2_4, e3_4, e5_4, -⟩ := hkeep
  simp [go_sem, e2_2, e3_2] at e2_4 e3_4 e5_4
  clear e2_2 e3_2
  refine Wp.seq ?_
  refine Wp.seqRegion (.inl rfl) (by kernel_rfl) fun K' gd hK hg => ?_
  have g2 : gd 2 = some 15 := hg 2
  clear hg
  go_simp
  refine hK _ _ ?_
  clear hK K' gd g2
  refine Wp.keep [2, 3, 23] fun r5 hkeep => ?_
  obtain ⟨e2_5, e3_5, e23_5, -⟩ := hkeep
  simp [go_sem, e2_4, e3_4, e5_4] at e2_5 e3_5 e23_5
  clear e2_4 e3_4 e5_4
  refine Wp.condF (by go_simp) ?_
  refine Wp.skip ?_
  refine thenK_normal ?_
  refine Wp.seq ?_
  refine Wp.seqRegion (.inl rfl) (by kernel_rfl) fun K' gd hK hg => ?_
  clear hg
  go_simp
  refine hK _ _ ?_
  clear hK K' gd
  refine Wp.keep [2, 3, 6] fun r6 hkeep => ?_
  obtain ⟨e2_6, e3_6, e6_6, -⟩ := hkeep
  simp [go_sem, e2_5, e3_5, e23_5] at e2_6 e3_6 e6_6
  clear e2_5 e3_5 e23_5
  refine Wp.block ?_
  refine Wp.loop (fun k ρ ds wk => AllEq [2, 3] ρ r6 ∧ ds = [] ∧ (Ext w2 wk) ∧ (ρ 6 = .int .i64 (k : Int))) (o.runs.length) ?_ ?_
  · refine ⟨AllEq.refl _ _, rfl, Ext.refl _, ?_⟩
    rw [e6_6]; rfl
  · rintro k r7 _ wk hk ⟨hA, rfl, xl3, e6⟩
    obtain ⟨e2_7, e3_7, -⟩ := hA
    rw [e2_6] at e2_7
    rw [e3_6] at e3_7
    have zxl3 := Below.size xl3
    replace f2 := Ext.fz xl3 c2_0 f2
    replace f3 := Ext.fz xl3 c3_0 f3
    replace xw := Ext.trans xw xl3
    replace c2_0 := Ext.cell xl3 c2_0
    replace c2_1 := Ext.cell xl3 c2_1
    replace c3_0 := Ext.cell xl3 c3_0
    replace c3_1 := Ext.cell xl3 c3_1
    refine Wp.seq ?_
    refine Wp.seqRegion (.inl rfl) (by kernel_rfl) fun K' gd hK hg => ?_
    clear hg
    go_simp
    refine hK _ _ ?_
    clear hK K' gd
    refine Wp.keep [2, 3, 6, 28] fun r8 hkeep => ?_
    obtain ⟨e2_8, e3_8, e6_8, e28_8, -⟩ := hkeep
    simp [go_sem, e2_7, e3_7, e6] at e2_8 e3_8 e6_8 e28_8
    clear e2_7 e3_7 e6
    by_cases h : k < o.runs.length
    · refine Wp.condT (by go_simp) ?_
      obtain ⟨b1, o1, rfl, -, hc1⟩ := hx1 (by intro e; rw [e] at h; exact absurd h (Nat.not_lt_zero _))
      obtain ⟨b2, o2, rfl, -, hc2⟩ := hx2 (by intro e; rw [e] at h; exact absurd h (Nat.not_lt_zero _))
      have x1 := xw.cell (hc1 k h).1
      have x2 := xw.cell (hc1 k h).2.1
      have x3 := xw.cell (hc1 k h).2.2
      have y1 := xw.cell (hc2 k h).1
      have y2 := xw.cell (hc2 k h).2.1
      have y3 := xw.cell (hc2 k h).2.2
      have i1 := ht1 k h
      have i2 := ht2 k h
      have hl := hn3 k h
      have b3 : (k : Int) < (o.runs.length : Int) := by omega
      obtain ⟨r, hr⟩ : ∃ r, o.runs[k] = r := ⟨_, rfl⟩
      rw [hr] at x1 x2 y1 y2 i1 i2 hl
      clear hr
      refine Wp.skip ?_
      refine thenK_normal ?_
      refine Wp.seq ?_
      refine Wp.block ?_
      refine Wp.seqDraw (.inl rfl) mixed [([0, 1, 2, 3, 4], none), ([5, 6, 7, 8, 9], none), ([10, 11], some (12, false)), ([13], none)] (by kernel_rfl) fun K' gd hK hg => ?_
      clear hg
      simp only [pick, nth, List.map_cons, List.map_nil, Option.map_none, Option.map_some]
      refine Mops.absD fun D4 hD4 zD4 => ?_
      replace f2 := Ext.fz hD4 c2_0 f2
      replace f3 := Ext.fz hD4 c3_0 f3
      replace xw := Ext.trans xw hD4
      replace xl3 := Ext.trans xl3 hD4
      replace c2_0 := Ext.cell hD4 c2_0
      replace c2_1 := Ext.cell hD4 c2_1
      replace c3_0 := Ext.cell hD4 c3_0
      replace c3_1 := Ext.cell hD4 c3_1
      replace x1 := Ext.cell hD4 x1
      replace x2 := Ext.cell hD4 x2
      replace x3 := Ext.cell hD4 x3
      replace y1 := Ext.cell hD4 y1
      replace y2 := Ext.cell hD4 y2
      replace y3 := Ext.cell hD4 y3
      clear hD4
      apply Mops.none
      · intro w' hE'
        have hC' := hE'.cellsS
        go_simp
        with_reducible rfl
      apply Mops.none
      · intro w' hE'
        have hC' := hE'.cellsS
        go_simp
        with_reducible rfl
      apply Mops.act
      · intro w' hE'
        have hC' := hE'.cellsS
        go_simp
        with_reducible rfl
      intro K1 hK1
      go_simp
      refine Wcall (.inl rfl) (same_I _ _ r.takes _ (i1.ext xw) (i2.ext xw) hl) ?_
      rintro v w3 ⟨rfl, hE⟩
      go_simp
      refine hK1 _ _ (by assumption) ?_
      clear hK1 K1
      have z9 := Below.size hE
      replace f2 := Ext.fz hE c2_0 f2
      replace f3 := Ext.fz hE c3_0 f3
      replace xw := Ext.trans xw hE
      replace xl3 := Ext.trans xl3 hE
      replace c2_0 := Ext.cell hE c2_0
      replace c2_1 := Ext.cell hE c2_1
      replace c3_0 := Ext.cell hE c3_0
      replace c3_1 := Ext.cell hE c3_1
      replace x1 := Ext.cell hE x1
      replace x2 := Ext.cell hE x2
      replace x3 := Ext.cell hE x3
      replace y1 := Ext.cell hE y1
      replace y2 := Ext.cell hE y2
      replace y3 := Ext.cell hE y3
      clear hE
      apply Mops.none
      · intro w' hE'
        have hC' := hE'.cellsS
        go_simp
        with_reducible rfl
      refine Mops.done ?_
      refine hK _ _ ?_
      clear hK K' gd
      refine Wp.keep [2, 3, 6, 7] fun r10 hkeep => ?_
      obtain ⟨e2_10, e3_10, e6_10, e7_10, -⟩ := hkeep
      simp [go_sem, e2_8, e3_8, e6_8, e28_8] at e2_10 e3_10 e6_10 e7_10
      clear e2_8 e3_8 e6_8 e28_8
      refine Wp.seqDraw (.inl rfl) mixed [([0, 1, 2], none), ([3, 4, 5, 6, 7], none), ([8, 9, 10, 11, 12], none), ([13, 14, 15, 16, 17], none), ([18, 19, 20, 21, 22], none), ([23, 24, 25, 26, 27], none), ([28, 29, 30, 31], none)] (by kernel_rfl) fun K' gd hK hg => ?_
      have g2 : gd 2 = some 46 := hg 2
      have g17 : gd 17 = some 61 := hg 17
      clear hg
      simp only [pick, nth, List.map_cons, List.map_nil, Option.map_none, Option.map_some]
      refine Mops.absD fun D5 hD5 zD5 => ?_
      replace f2 := Ext.fz hD5 c2_0 f2
      replace f3 := Ext.fz hD5 c3_0 f3
      replace xw := Ext.trans xw hD5
      replace xl3 := Ext.trans xl3 hD5
      replace c2_0 := Ext.cell hD5 c2_0
      replace c2_1 := Ext.cell hD5 c2_1
      replace c3_0 := Ext.cell hD5 c3_0
      replace c3_1 := Ext.cell hD5 c3_1
      replace x1 := Ext.cell hD5 x1
      replace x2 := Ext.cell hD5 x2
      replace x3 := Ext.cell hD5 x3
      replace y1 := Ext.cell hD5 y1
      replace y2 := Ext.cell hD5 y2
      replace y3 := Ext.cell hD5 y3
      clear hD5
      apply Mops.none
      · intro w' hE'
        have hC' := hE'.cellsS
        go_simp
        with_reducible rfl
      apply Mops.none
      · intro w' hE'
        have hC' := hE'.cellsS
        go_simp
        with_reducible rfl
      apply Mops.none
      · intro w' hE'
        have hC' := hE'.cellsS
        go_simp
        with_reducible rfl
      apply Mops.none
      · intro w' hE'
        have hC' := hE'.cellsS
        go_simp
        with_reducible rfl
      apply Mops.none
      · intro w' hE'
        have hC' := hE'.cellsS
        go_simp
        with_reducible rfl
      apply Mops.none
      · intro w' hE'
        have hC' := hE'.cellsS
        go_simp
        with_reducible rfl
      apply Mops.none
      · intro w' hE'
        have hC' := hE'.cellsS
        go_simp
        with_reducible rfl
      refine Mops.done ?_
      refine hK _ _ ?_
      clear hK K' gd g2 g17
      refine Wp.keep [2, 3, 6, 75] fun r11 hkeep => ?_
      obtain ⟨e2_11, e3_11, e6_11, e75_11, -⟩ := hkeep
      simp [go_sem, e2_10, e3_10, e6_10, e7_10] at e2_11 e3_11 e6_11 e75_11
      clear e2_10 e3_10 e6_10 e7_10
      refine Wp.condF (by go_simp) ?_
      refine Wp.skip ?_
      refine blockK_normal ?_
      refine thenK_normal ?_
      refine Wp.loneRegion (.inl rfl) (by kernel_rfl) fun K' gd hK hg => ?_
      clear hg
      go_simp
      refine hK _ _ ?_
      clear hK K' gd
      refine Ends.keep [2, 3, 6] fun r12 hkeep => ?_
      obtain ⟨e2_12, e3_12, e6_12, -⟩ := hkeep
      simp [go_sem, e2_11, e3_11, e6_11, e75_11] at e2_12 e3_12 e6_12
      clear e2_11 e3_11 e6_11 e75_11
      refine Ends.mk ?_
      refine thenK_normal ⟨by omega, ⟨by rw [e2_12, e2_6], by rw [e3_12, e3_6], trivial⟩, rfl, xl3, ?_⟩
      rw [e6_12, IntWalk.i64_in _ (by omega)]; rfl
    · refine Wp.condF (by go_simp) ?_
      refine Wp.exit ?_
      refine thenK_exit ?_
      refine thenK_exit ?_
      refine blockK_here ?_
      refine thenK_normal ?_
      refine Wp.seqRegion (.inl rfl) (by kernel_rfl) fun K' gd hK hg => ?_
      clear hg
      go_simp
      refine hK _ _ ?_
      clear hK K' gd
      refine Wp.keep [4] fun r13 hkeep => ?_
      obtain ⟨e4_13, -⟩ := hkeep
      simp [go_sem, e2_8, e3_8, e6_8, e28_8] at e4_13
      clear e2_8 e3_8 e6_8 e28_8
      refine Wp.ret ?_
      refine endK_tmp Tryz.results35 (by decide) ?_
      rw [e4_13]
      exact ⟨rfl, xw⟩
end Go.Proofs.YtnfagcccgmakdaaGreat
namespace Go.Proofs.YtnfagcccgmakdaaGreat
open Go.RowKit Go.Wk Go.Proofs
attribute [local irreducible] Go.Wk.Wops Go.Wk.Wp Go.Wk.Mtree Go.Wk.Mops
set_option maxHeartbeats 4000000
end Go.Proofs.YtnfagcccgmakdaaGreat
namespace Go.Proofs.YtnfagcccgmakdaaGreat
open Go.RowKit Go.Wk Go.Proofs
attribute [local irreducible] Go.Wk.Wops Go.Wk.Wp Go.Wk.Mtree Go.Wk.Mops
set_option maxHeartbeats 4000000
theorem stintR_c (v : Value) (o : Ord) (i j : Int) (w : World) (hV : OrderV w w.heap.size v o) (hf : Fits o) :
    CallsV Tryz.prog 99 #[v, .agg #[.int .i64 i, .int .i64 j]] w fun v w' => v = .int .i64 (askS o (isStint o i j)) ∧ Ext w w' := by
  obtain ⟨L1, k1, d1, L2, k2, d2, rfl, hV⟩ := hV.two
  refine Wp.fn Tryz.func99 rfl Tryz.ntmps99 (by simp) ?_
  have xw := Ext.refl w
  refine Wp.keep [0, 1] fun r1 hkeep => ?_
  obtain ⟨e0_1, e1_1, -⟩ := hkeep
  simp [go_sem] at e0_1 e1_1
  refine Wp.seqRegion (.inl rfl) (by kernel_rfl) fun K' gd hK hg => ?_
  clear hg
  refine Wops.cut 1 fun K1 hK1 => ?_
  simp only [List.take_succ_cons, List.take_zero]
  go_simp
  refine hK1 _ _ ?_
  clear hK1 K1
  simp only [List.drop_succ_cons, List.drop_zero]
  refine Wops.absA fun V2_1 n2 hV2_1 => ?_
  obtain ⟨q2, hV2_1, s2, kV2_1, f2, r2⟩ := hV2_1
  try simp only [q2] at kV2_1 f2 r2 ⊢
  replace xw := Ext.trans xw hV2_1
  have c2_0 := kV2_1 0 _ rfl
  have c2_1 := kV2_1 1 _ rfl
  clear kV2_1 hV2_1
  clear r2
  refine Wops.cut 1 fun K1 hK1 => ?_
  simp only [List.take_succ_cons, List.take_zero]
  go_simp
  refine hK1 _ _ ?_
  clear hK1 K1
  simp only [List.drop_succ_cons, List.drop_zero]
  refine Wops.absA fun V3_2 n3 hV3_2 => ?_
  obtain ⟨q3, hV3_2, s3, kV3_2, f3, r3⟩ := hV3_2
  try simp only [q3] at kV3_2 f3 r3 ⊢
  replace f2 := Ext.fz hV3_2 c2_0 f2
  replace xw := Ext.trans xw hV3_2
  replace c2_0 := Ext.cell hV3_2 c2_0
  replace c2_1 := Ext.cell hV3_2 c2_1
  have c3_0 := kV3_2 0 _ rfl
  have c3_1 := kV3_2 1 _ rfl
  clear kV3_2 hV3_2
  clear r3
  go_simp
  refine hK _ _ ?_
  clear hK K' gd
  refine Wp.keep [2, 3] fun r2 hkeep => ?_
  obtain ⟨e2_2, e3_2, -⟩ := hkeep
  simp [go_sem, e0_1, e1_1] at e2_2 e3_2
  clear e0_1 e1_1
  refine Wp.seqRegion (.inl rfl) (by kernel_rfl) fun K' gd hK hg => ?_
  clear hg
  refine Wops.cut 2 fun K1 hK1 => ?_
  simp only [List.take_succ_cons, List.take_zero]
  go_simp
  refine Wcall (.inl rfl) (refCheck_c _ o _ (hV.ext xw) hf) ?_
  rintro v w2 ⟨rfl, hE⟩
  go_simp
  refine hK1 _ _ ?_
  clear hK1 K1
  simp only [List.drop_succ_cons, List.drop_zero]
  have z3 := Below.size hE
  replace f2 := Ext.fz hE c2_0 f2
  replace f3 := Ext.fz hE c3_0 f3
  replace xw := Ext.trans xw hE
  replace c2_0 := Ext.cell hE c2_0
  replace c2_1 := Ext.cell hE c2_1
  replace c3_0 := Ext.cell hE c3_0
  replace c3_1 := Ext.cell hE c3_1
  clear hE
  go_simp
  refine hK _ _ ?_
  clear hK K' gd
  refine Wp.keep [2, 3, 5] fun r4 hkeep => ?_
  obtain ⟨e2_4, e3_4, e5_4, -⟩ := hkeep
  simp [go_sem, e2_2, e3_2] at e2_4 e3_4 e5_4
  clear e2_2 e3_2
  by_cases h0 : checkS o = 0
  · skip
    refine Wp.seq ?_
    refine Wp.seqRegion (.inl rfl) (by kernel_rfl) fun K' gd hK hg => ?_
    clear hg
    go_simp
    refine hK _ _ ?_
    clear hK K' gd
    refine Wp.keep [2, 3, 5, 10] fun r5 hkeep => ?_
    obtain ⟨e2_5, e3_5, e5_5, e10_5, -⟩ := hkeep
    simp [go_sem, e2_4, e3_4, e5_4] at e2_5 e3_5 e5_5 e10_5
    clear e2_4 e3_4 e5_4
    refine Wp.condF (by go_simp) ?_
    refine Wp.skip ?_
    refine thenK_normal ?_
    refine Wp.seqRegion (.inl rfl) (by kernel_rfl) fun K' gd hK hg => ?_
    clear hg
    refine Wops.cut 3 fun K1 hK1 => ?_
    simp only [List.take_succ_cons, List.take_zero]
    go_simp
    refine Wcall (.inl rfl) (isStintR_c _ o i j _ (hV.ext xw) hf) ?_
    rintro v w3 ⟨rfl, hE⟩
    go_simp
    refine hK1 _ _ ?_
    clear hK1 K1
    simp only [List.drop_succ_cons, List.drop_zero]
    have z6 := Below.size hE
    replace f2 := Ext.fz hE c2_0 f2
    replace f3 := Ext.fz hE c3_0 f3
    replace xw := Ext.trans xw hE
    replace c2_0 := Ext.cell hE c2_0
    replace c2_1 := Ext.cell hE c2_1
    replace c3_0 := Ext.cell hE c3_0
    replace c3_1 := Ext.cell hE c3_1
    clear hE
    go_simp
    refine hK _ _ ?_
    clear hK K' gd
    refine Wp.keep [6] fun r7 hkeep => ?_
    obtain ⟨e6_7, -⟩ := hkeep
    simp [go_sem, e2_5, e3_5, e5_5, e10_5] at e6_7
    clear e2_5 e3_5 e5_5 e10_5
    by_cases h1 : isStint o i j = true
    · skip
      refine Wp.seq ?_
      refine Wp.seqRegion (.inl rfl) (by kernel_rfl) fun K' gd hK hg => ?_
      clear hg
      go_simp
      refine hK _ _ ?_
      clear hK K' gd
      refine Wp.keep [16] fun r8 hkeep => ?_
      obtain ⟨e16_8, -⟩ := hkeep
      simp [go_sem, e6_7] at e16_8
      clear e6_7
      refine Wp.condF (by go_simp) ?_
      refine Wp.skip ?_
      refine thenK_normal ?_
      refine Wp.seqRegion (.inl rfl) (by kernel_rfl) fun K' gd hK hg => ?_
      clear hg
      go_simp
      refine hK _ _ ?_
      clear hK K' gd
      refine Wp.keep [4] fun r9 hkeep => ?_
      obtain ⟨e4_9, -⟩ := hkeep
      simp [go_sem, e16_8] at e4_9
      clear e16_8
      refine Wp.ret ?_
      refine endK_tmp Tryz.results99 (by decide) ?_
      rw [e4_9]
      exact ⟨by unfold askS; rw [if_pos h0, if_pos h1], xw⟩
    · skip
      rw [Bool.not_eq_true] at h1
      refine Wp.seq ?_
      refine Wp.seqRegion (.inl rfl) (by kernel_rfl) fun K' gd hK hg => ?_
      clear hg
      go_simp
      refine hK _ _ ?_
      clear hK K' gd
      refine Wp.keep [16] fun r10 hkeep => ?_
      obtain ⟨e16_10, -⟩ := hkeep
      simp [go_sem, e6_7] at e16_10
      clear e6_7
      refine Wp.condT (by go_simp) ?_
      refine Wp.seqRegion (.inl rfl) (by kernel_rfl) fun K' gd hK hg => ?_
      clear hg
      go_simp
      refine hK _ _ ?_
      clear hK K' gd
      refine Wp.keep [4] fun r11 hkeep => ?_
      obtain ⟨e4_11, -⟩ := hkeep
      simp [go_sem, e16_10] at e4_11
      clear e16_10
      refine Wp.ret ?_
      refine thenK_ret ?_
      refine endK_tmp Tryz.results99 (by decide) ?_
      rw [e4_11]
      exact ⟨by unfold askS; rw [if_pos h0, h1]; rfl, xw⟩
  · skip
    refine Wp.seq ?_
    refine Wp.seqRegion (.inl rfl) (by kernel_rfl) fun K' gd hK hg => ?_
    clear hg
    go_simp
    refine hK _ _ ?_
    clear hK K' gd
    refine Wp.keep [2, 3, 5, 10] fun r12 hkeep => ?_
    obtain ⟨e2_12, e3_12, e5_12, e10_12, -⟩ := hkeep
    simp [go_sem, e2_4, e3_4, e5_4] at e2_12 e3_12 e5_12 e10_12
    clear e2_4 e3_4 e5_4
    refine Wp.condT (by go_simp) ?_
    refine Wp.seqRegion (.inl rfl) (by kernel_rfl) fun K' gd hK hg => ?_
    clear hg
    go_simp
    refine hK _ _ ?_
    clear hK K' gd
    refine Wp.keep [4] fun r13 hkeep => ?_
    obtain ⟨e4_13, -⟩ := hkeep
    simp [go_sem, e2_12, e3_12, e5_12, e10_12] at e4_13
    clear e2_12 e3_12 e5_12 e10_12
    refine Wp.ret ?_
    refine thenK_ret ?_
    refine endK_tmp Tryz.results99 (by decide) ?_
    rw [e4_13]
    exact ⟨by unfold askS; rw [if_neg h0], xw⟩
theorem CopyG.put {w V : World} {base b i : Nat} {a : OA} {o : Ord} {vs : List Value} (h : CopyG w base a o) (p : Put w V b i vs) (hb : b < base) : CopyG V base a o :=
  h.other p.chg.size fun k hk => by
    have hne : k ≠ b := by
      rcases hk with rfl | ⟨h', rfl⟩ | ⟨i, hi, rfl⟩
      · have := h.gC; omega
      · have := h.gR h'; omega
      · have := h.gT i hi; omega
    refine p.chg.block k ?_ (by simpa using hne)
    rcases hk with rfl | ⟨h', rfl⟩ | ⟨i, hi, rfl⟩
    · exact h.rC.lt
    · exact (h.rR h').lt
    · exact (h.rT i hi).lt
theorem delayedS_c (v : Value) (o : Ord) (x y d : Int) (w : World) (hV : OrderV w w.heap.size v o) (hf : Fits o) :
    CallsV Tryz.prog 32 #[v, .agg #[.int .i64 x, .int .i64 y], .int .i64 d] w fun v w' => ∃ B1 m1 d1 B2 m2 d2, v = .agg #[.slice B1 m1 d1, .slice B2 m2 d2, .int .i64 (delayE o x y d)] ∧ OrderV w' w'.heap.size (.agg #[.slice B1 m1 d1, .slice B2 m2 d2]) (delayO o x y d) ∧ Ext w w' := by
  obtain ⟨L1, k1, d1, L2, k2, d2, rfl, hV⟩ := hV.two
  refine Wp.fn Tryz.func32 rfl Tryz.ntmps32 (by simp) ?_
  have xw := Ext.refl w
  refine Wp.keep [0, 1, 2] fun r1 hkeep => ?_
  obtain ⟨e0_1, e1_1, e2_1, -⟩ := hkeep
  simp [go_sem] at e0_1 e1_1 e2_1
  refine Wp.seqRegion (.inl rfl) (by kernel_rfl) fun K' gd hK hg => ?_
  clear hg
  refine Wops.cut 1 fun K1 hK1 => ?_
  simp only [List.take_succ_cons, List.take_zero]
  go_simp
  refine hK1 _ _ ?_
  clear hK1 K1
  simp only [List.drop_succ_cons, List.drop_zero]
  refine Wops.absA fun V3_1 n3 hV3_1 => ?_
  obtain ⟨q3, hV3_1, s3, kV3_1, f3, r3⟩ := hV3_1
  try simp only [q3] at kV3_1 f3 r3 ⊢
  replace xw := Ext.trans xw hV3_1
  have c3_0 := kV3_1 0 _ rfl
  have c3_1 := kV3_1 1 _ rfl
  clear kV3_1 hV3_1
  clear r3
  refine Wops.cut 1 fun K1 hK1 => ?_
  simp only [List.take_succ_cons, List.take_zero]
  go_simp
  refine hK1 _ _ ?_
  clear hK1 K1
  simp only [List.drop_succ_cons, List.drop_zero]
  refine Wops.absA fun V4_2 n4 hV4_2 => ?_
  obtain ⟨q4, hV4_2, s4, kV4_2, f4, r4⟩ := hV4_2
  try simp only [q4] at kV4_2 f4 r4 ⊢
  replace f3 := Ext.fz hV4_2 c3_0 f3
  replace xw := Ext.trans xw hV4_2
  replace c3_0 := Ext.cell hV4_2 c3_0
  replace c3_1 := Ext.cell hV4_2 c3_1
  have c4_0 := kV4_2 0 _ rfl
  have c4_1 := kV4_2 1 _ rfl
  clear kV4_2 hV4_2
  clear r4
  refine Wops.cut 1 fun K1 hK1 => ?_
  simp only [List.take_succ_cons, List.take_zero]
  go_simp
  refine hK1 _ _ ?_
  clear hK1 K1
  simp only [List.drop_succ_cons, List.drop_zero]
  refine Wops.absA fun V6_3 n6 hV6_3 => ?_
  obtain ⟨q6, hV6_3, s6, kV6_3, f6, r6⟩ := hV6_3
  try simp only [q6] at kV6_3 f6 r6 ⊢
  replace f3 := Ext.fz hV6_3 c3_0 f3
  replace f4 := Ext.fz hV6_3 c4_0 f4
  replace xw := Ext.trans xw hV6_3
  replace c3_0 := Ext.cell hV6_3 c3_0
  replace c3_1 := Ext.cell hV6_3 c3_1
  replace c4_0 := Ext.cell hV6_3 c4_0
  replace c4_1 := Ext.cell hV6_3 c4_1
  have c6_0 := kV6_3 0 _ rfl
  have c6_1 := kV6_3 1 _ rfl
  have c6_2 := kV6_3 2 _ rfl
  clear kV6_3 hV6_3
  clear r6
  try simp only [Wops_nil, updO_some, updO_none]
  refine hK _ _ ?_
  clear hK K' gd
  refine Wp.keep [2, 3, 4, 6] fun r2 hkeep => ?_
  obtain ⟨e2_2, e3_2, e4_2, e6_2, -⟩ := hkeep
  simp [go_sem, e0_1, e1_1, e2_1] at e2_2 e3_2 e4_2 e6_2
  clear e0_1 e1_1 e2_1
  refine Wp.seqRegion (.inl rfl) (by kernel_rfl) fun K' gd hK hg => ?_
  clear hg
  refine Wops.cut 3 fun K1 hK1 => ?_
  simp only [List.take_succ_cons, List.take_zero]
  go_simp
  refine Wcall (.inl rfl) (stintR_c _ o x y _ (hV.ext xw) hf) ?_
  rintro v w2 ⟨rfl, hE⟩
  go_simp
  refine hK1 _ _ ?_
  clear hK1 K1
  simp only [List.drop_succ_cons, List.drop_zero]
  have z3 := Below.size hE
  replace f3 := Ext.fz hE c3_0 f3
  replace f4 := Ext.fz hE c4_0 f4
  replace f6 := Ext.fz hE c6_0 f6
  replace xw := Ext.trans xw hE
  replace c3_0 := Ext.cell hE c3_0
  replace c3_1 := Ext.cell hE c3_1
  replace c4_0 := Ext.cell hE c4_0
  replace c4_1 := Ext.cell hE c4_1
  replace c6_0 := Ext.cell hE c6_0
  replace c6_1 := Ext.cell hE c6_1
  replace c6_2 := Ext.cell hE c6_2
  clear hE
  go_simp
  refine hK _ _ ?_
  clear hK K' gd
  refine Wp.keep [2, 3, 4, 6, 7] fun r4 hkeep => ?_
  obtain ⟨e2_4, e3_4, e4_4, e6_4, e7_4, -⟩ := hkeep
  simp [go_sem, e2_2, e3_2, e4_2, e6_2] at e2_4 e3_4 e4_4 e6_4 e7_4
  clear e2_2 e3_2 e4_2 e6_2
  by_cases h0 : askS o (isStint o x y) = 0
  · skip
    refine Wp.seq ?_
    refine Wp.seqRegion (.inl rfl) (by kernel_rfl) fun K' gd hK hg => ?_
    clear hg
    go_simp
    refine hK _ _ ?_
    clear hK K' gd
    refine Wp.keep [2, 3, 4, 6, 7, 14] fun r5 hkeep => ?_
    obtain ⟨e2_5, e3_5, e4_5, e6_5, e7_5, e14_5, -⟩ := hkeep
    simp [go_sem, e2_4, e3_4, e4_4, e6_4, e7_4] at e2_5 e3_5 e4_5 e6_5 e7_5 e14_5
    clear e2_4 e3_4 e4_4 e6_4 e7_4
    refine Wp.condF (by go_simp) ?_
    have hg := (askS_zero.1 h0).1
    obtain ⟨i, j, rfl, rfl, hi, hj⟩ := isStint_nat (askS_zero.1 h0).2
    by_cases hd : 0 ≤ d ∧ d ≤ 60
    · skip
      refine Wp.skip ?_
      refine thenK_normal ?_
      refine Wp.seqRegion (.inl rfl) (by kernel_rfl) fun K' gd hK hg => ?_
      clear hg
      refine Wops.cut 2 fun K1 hK1 => ?_
      simp only [List.take_succ_cons, List.take_zero]
      go_simp
      refine Wcall (.inl rfl) (withinR_T hd _) ?_
      rintro v w3 ⟨rfl, hE⟩
      go_simp
      refine hK1 _ _ ?_
      clear hK1 K1
      simp only [List.drop_succ_cons, List.drop_zero]
      have z6 := Below.size hE
      replace f3 := Ext.fz hE c3_0 f3
      replace f4 := Ext.fz hE c4_0 f4
      replace f6 := Ext.fz hE c6_0 f6
      replace xw := Ext.trans xw hE
      replace c3_0 := Ext.cell hE c3_0
      replace c3_1 := Ext.cell hE c3_1
      replace c4_0 := Ext.cell hE c4_0
      replace c4_1 := Ext.cell hE c4_1
      replace c6_0 := Ext.cell hE c6_0
      replace c6_1 := Ext.cell hE c6_1
      replace c6_2 := Ext.cell hE c6_2
      clear hE
      go_simp
      refine hK _ _ ?_
      clear hK K' gd
      refine Wp.keep [2, 3, 4, 6, 8] fun r7 hkeep => ?_
      obtain ⟨e2_7, e3_7, e4_7, e6_7, e8_7, -⟩ := hkeep
      simp [go_sem, e2_5, e3_5, e4_5, e6_5, e7_5, e14_5] at e2_7 e3_7 e4_7 e6_7 e8_7
      clear e2_5 e3_5 e4_5 e6_5 e7_5 e14_5
      refine Wp.seq ?_
      refine Wp.seqRegion (.inl rfl) (by kernel_rfl) fun K' gd hK hg => ?_
      clear hg
      go_simp
      refine hK _ _ ?_
      clear hK K' gd
      refine Wp.keep [2, 3, 4, 6, 20] fun r8 hkeep => ?_
      obtain ⟨e2_8, e3_8, e4_8, e6_8, e20_8, -⟩ := hkeep
      simp [go_sem, e2_7, e3_7, e4_7, e6_7, e8_7] at e2_8 e3_8 e4_8 e6_8 e20_8
      clear e2_7 e3_7 e4_7 e6_7 e8_7
      refine Wp.condF (by go_simp) ?_
      obtain ⟨p, rfl, rfl, rfl, rfl, rfl, rfl, hO⟩ := (hV.ext xw).aO hg
      have vT := hO.vT i j hi hj
      have hw1 : IntKind.i64.wrap (o.T i j + d) = o.T i j + d := IntWalk.i64_in _ (by omega)
      have xq := Ext.refl w3
      have hq0 : askS o (okDelay o i j d) = 0 := askS_zero.2 ⟨hg, by unfold okDelay; rw [(askS_zero.1 h0).2, Bool.true_and]; exact decide_eq_true hd⟩
      refine Wp.skip ?_
      refine thenK_normal ?_
      refine Wp.seq ?_
      refine Wp.seqRegion (.inl rfl) (by kernel_rfl) fun K' gd hK hg => ?_
      clear hg
      refine Wops.cut 3 fun K1 hK1 => ?_
      simp only [List.take_succ_cons, List.take_zero]
      go_simp
      refine Wcall (.inl rfl) (takesR_c p o i j _ (hO.ext xq) hi hj) ?_
      rintro v w4 ⟨rfl, hE⟩
      go_simp
      refine hK1 _ _ ?_
      clear hK1 K1
      simp only [List.drop_succ_cons, List.drop_zero]
      have z9 := Below.size hE
      replace f3 := Ext.fz hE c3_0 f3
      replace f4 := Ext.fz hE c4_0 f4
      replace f6 := Ext.fz hE c6_0 f6
      replace xw := Ext.trans xw hE
      replace xq := Ext.trans xq hE
      replace c3_0 := Ext.cell hE c3_0
      replace c3_1 := Ext.cell hE c3_1
      replace c4_0 := Ext.cell hE c4_0
      replace c4_1 := Ext.cell hE c4_1
      replace c6_0 := Ext.cell hE c6_0
      replace c6_1 := Ext.cell hE c6_1
      replace c6_2 := Ext.cell hE c6_2
      clear hE
      go_simp
      refine hK _ _ ?_
      clear hK K' gd
      refine Wp.keep [2, 3, 4, 6, 27] fun r10 hkeep => ?_
      obtain ⟨e2_10, e3_10, e4_10, e6_10, e27_10, -⟩ := hkeep
      simp [go_sem, e2_8, e3_8, e4_8, e6_8, e20_8] at e2_10 e3_10 e4_10 e6_10 e27_10
      clear e2_8 e3_8 e4_8 e6_8 e20_8
      by_cases ht : 60 < o.T i j + d
      · skip
        refine Wp.condT (by go_simp) ?_
        have he : delayE o i j d = 2 := by unfold delayE; rw [if_pos hq0, Int.toNat_natCast, Int.toNat_natCast, if_pos ht]
        refine Wp.seqRegion (.inl rfl) (by kernel_rfl) fun K' gd hK hg => ?_
        clear hg
        refine Wops.cut 2 fun K1 hK1 => ?_
        simp only [List.take_succ_cons, List.take_zero]
        go_simp
        refine hK1 _ _ ?_
        clear hK1 K1
        simp only [List.drop_succ_cons, List.drop_zero]
        refine Wops.absS (b := n6) (i := 0) [_, _, _] (somes [cellVal c6_0, cellVal c6_1, cellVal c6_2] (by simp) (by intro j v hj; match j, hj with | 0, hj => (simp at hj; subst hj; exact c6_0) | 1, hj => (simp at hj; subst hj; exact c6_1) | 2, hj => (simp at hj; subst hj; exact c6_2))) fun P5 hP5 => ?_
        have zP5 := hP5.same
        replace f3 := Put.frz hP5 f3
        replace f4 := Put.frz hP5 f4
        replace f6 := Put.frz hP5 f6
        replace xw := Put.to xw hP5 (by omega)
        clear xq
        replace c3_0 := Put.cell hP5 c3_0 (by omega)
        replace c3_1 := Put.cell hP5 c3_1 (by omega)
        replace c4_0 := Put.cell hP5 c4_0 (by omega)
        replace c4_1 := Put.cell hP5 c4_1 (by omega)
        clear c6_0
        clear c6_1
        clear c6_2
        have c6_0 := hP5.new 0 _ rfl
        try simp only [Nat.reduceAdd, Nat.zero_add, Nat.add_zero] at c6_0
        have c6_1 := hP5.new 1 _ rfl
        try simp only [Nat.reduceAdd, Nat.zero_add, Nat.add_zero] at c6_1
        have c6_2 := hP5.new 2 _ rfl
        try simp only [Nat.reduceAdd, Nat.zero_add, Nat.add_zero] at c6_2
        clear hP5
        try simp only [Wops_nil, updO_some, updO_none]
        refine hK _ _ ?_
        clear hK K' gd
        refine Wp.keep [6] fun r11 hkeep => ?_
        obtain ⟨e6_11, -⟩ := hkeep
        simp [go_sem, e2_10, e3_10, e4_10, e6_10, e27_10] at e6_11
        clear e2_10 e3_10 e4_10 e6_10 e27_10
        refine Wp.ret ?_
        refine thenK_ret ?_
        refine endK_cell (v := .agg #[cellVal c6_0, cellVal c6_1, cellVal c6_2]) Tryz.results32 (by decide) e6_11 (by dsimp only [cellVal]; go_simp) ?_
        dsimp only [cellVal]
        exact ⟨none, 0, 0, none, 0, 0, by rw [he], by unfold delayO; rw [if_neg (by rw [he]; decide)]; exact noOrdV _ _, xw⟩
      · skip
        refine Wp.condF (by go_simp) ?_
        have he : delayE o i j d = 0 := by unfold delayE; rw [if_pos hq0, Int.toNat_natCast, Int.toNat_natCast, if_neg ht]
        refine Wp.skip ?_
        refine thenK_normal ?_
        refine Wp.seqRegion (.inl rfl) (by kernel_rfl) fun K' gd hK hg => ?_
        clear hg
        refine Wops.cut 2 fun K1 hK1 => ?_
        simp only [List.take_succ_cons, List.take_zero]
        go_simp
        refine Wcall (.inl rfl) (copiedR_c p o _ (hO.ext xq)) ?_
        rintro v w5 ⟨a', rfl, hG, hE⟩
        simp only [OA.cv, OA.rv]
        have hlT := fun i hi => (hG.rT i hi).lt
        go_simp
        refine hK1 _ _ ?_
        clear hK1 K1
        simp only [List.drop_succ_cons, List.drop_zero]
        have z12 := Below.size hE
        replace f3 := Ext.fz hE c3_0 f3
        replace f4 := Ext.fz hE c4_0 f4
        replace f6 := Ext.fz hE c6_0 f6
        replace xw := Ext.trans xw hE
        replace xq := Ext.trans xq hE
        replace c3_0 := Ext.cell hE c3_0
        replace c3_1 := Ext.cell hE c3_1
        replace c4_0 := Ext.cell hE c4_0
        replace c4_1 := Ext.cell hE c4_1
        replace c6_0 := Ext.cell hE c6_0
        replace c6_1 := Ext.cell hE c6_1
        replace c6_2 := Ext.cell hE c6_2
        clear hE
        refine Wops.cut 2 fun K1 hK1 => ?_
        simp only [List.take_succ_cons, List.take_zero]
        go_simp
        refine hK1 _ _ ?_
        clear hK1 K1
        simp only [List.drop_succ_cons, List.drop_zero]
        refine Wops.absA fun V9_6 n9 hV9_6 => ?_
        obtain ⟨q9, hV9_6, s9, kV9_6, f9, r9⟩ := hV9_6
        try simp only [q9] at kV9_6 f9 r9 ⊢
        replace f3 := Ext.fz hV9_6 c3_0 f3
        replace f4 := Ext.fz hV9_6 c4_0 f4
        replace f6 := Ext.fz hV9_6 c6_0 f6
        replace hG := hG.ext hV9_6
        replace xw := Ext.trans xw hV9_6
        replace xq := Ext.trans xq hV9_6
        replace c3_0 := Ext.cell hV9_6 c3_0
        replace c3_1 := Ext.cell hV9_6 c3_1
        replace c4_0 := Ext.cell hV9_6 c4_0
        replace c4_1 := Ext.cell hV9_6 c4_1
        replace c6_0 := Ext.cell hV9_6 c6_0
        replace c6_1 := Ext.cell hV9_6 c6_1
        replace c6_2 := Ext.cell hV9_6 c6_2
        have c9_0 := kV9_6 0 _ rfl
        have c9_1 := kV9_6 1 _ rfl
        clear kV9_6 hV9_6
        clear r9
        try simp only [Wops_nil, updO_some, updO_none]
        refine hK _ _ ?_
        clear hK K' gd
        refine Wp.keep [2, 3, 4, 6, 9] fun r13 hkeep => ?_
        obtain ⟨e2_13, e3_13, e4_13, e6_13, e9_13, -⟩ := hkeep
        simp [go_sem, e2_10, e3_10, e4_10, e6_10, e27_10] at e2_13 e3_13 e4_13 e6_13 e9_13
        clear e2_10 e3_10 e4_10 e6_10 e27_10
        have hn0 : 0 < o.n := by omega
        have g1 := hG.ord.hr hn0
        have g2 := hG.zR
        have g3 := hG.zT i hi
        have g4 := hG.gT i hi
        have g5 := hlT i hi
        have d1 := hG.ord.hT i hi
        rw [g2, Nat.zero_add] at d1
        have d2 := hG.ord.hTT i j hi hj
        have b1 : (i : Int) < (o.n : Int) := by omega
        have b2 : (j : Int) < (o.m : Int) := by omega
        rw [g1, g2] at c9_1
        rw [g3, Nat.zero_add] at d2
        rw [g3] at d1
        have fz := fun k => (hG.rT i hi).frozen k
        refine Wp.seqDraw (.inl rfl) mixed [([0, 1, 2, 3, 4], none), ([5, 6, 7, 8, 9], none), ([10, 12], some (11, false)), ([13, 14], some (15, true))] (by kernel_rfl) fun K' gd hK hg => ?_
        clear hg
        simp only [pick, nth, List.map_cons, List.map_nil, Option.map_none, Option.map_some]
        refine Mops.absD fun D7 hD7 zD7 => ?_
        replace f3 := Ext.fz hD7 c3_0 f3
        replace f4 := Ext.fz hD7 c4_0 f4
        replace f6 := Ext.fz hD7 c6_0 f6
        replace f9 := Ext.fz hD7 c9_0 f9
        replace fz := Ext.fz hD7 d2 fz
        replace hG := hG.ext hD7
        replace xw := Ext.trans xw hD7
        replace xq := Ext.trans xq hD7
        replace c3_0 := Ext.cell hD7 c3_0
        replace c3_1 := Ext.cell hD7 c3_1
        replace c4_0 := Ext.cell hD7 c4_0
        replace c4_1 := Ext.cell hD7 c4_1
        replace c6_0 := Ext.cell hD7 c6_0
        replace c6_1 := Ext.cell hD7 c6_1
        replace c6_2 := Ext.cell hD7 c6_2
        replace c9_0 := Ext.cell hD7 c9_0
        replace c9_1 := Ext.cell hD7 c9_1
        replace d1 := Ext.cell hD7 d1
        replace d2 := Ext.cell hD7 d2
        clear hD7
        apply Mops.none
        · intro w' hE'
          have hC' := hE'.cellsS
          go_simp
          with_reducible rfl
        apply Mops.none
        · intro w' hE'
          have hC' := hE'.cellsS
          go_simp
          with_reducible rfl
        apply Mops.act
        · intro w' hE'
          have hC' := hE'.cellsS
          go_simp
          with_reducible rfl
        intro K1 hK1
        go_simp
        refine Wcall (.inl rfl) (takesR_c p o i j _ (hO.ext xq) hi hj) ?_
        rintro v w6 ⟨rfl, hE⟩
        go_simp
        refine hK1 _ _ (by assumption) ?_
        clear hK1 K1
        have z14 := Below.size hE
        replace f3 := Ext.fz hE c3_0 f3
        replace f4 := Ext.fz hE c4_0 f4
        replace f6 := Ext.fz hE c6_0 f6
        replace f9 := Ext.fz hE c9_0 f9
        replace fz := Ext.fz hE d2 fz
        replace hG := hG.ext hE
        replace xw := Ext.trans xw hE
        replace xq := Ext.trans xq hE
        replace c3_0 := Ext.cell hE c3_0
        replace c3_1 := Ext.cell hE c3_1
        replace c4_0 := Ext.cell hE c4_0
        replace c4_1 := Ext.cell hE c4_1
        replace c6_0 := Ext.cell hE c6_0
        replace c6_1 := Ext.cell hE c6_1
        replace c6_2 := Ext.cell hE c6_2
        replace c9_0 := Ext.cell hE c9_0
        replace c9_1 := Ext.cell hE c9_1
        replace d1 := Ext.cell hE d1
        replace d2 := Ext.cell hE d2
        clear hE
        apply Mops.last
        · intro w' hE'
          have hC' := hE'.cellsS
          go_simp
          with_reducible rfl
        intro K1 hK1
        go_simp
        refine hK1 _ _ ?_
        clear hK1 K1
        refine Mops.absS (b := a'.tb i) (i := j) [_] (some1 d2) fun Pt hPt => ?_
        have zPt := hPt.same
        replace f3 := Put.frz hPt f3
        replace f4 := Put.frz hPt f4
        replace f6 := Put.frz hPt f6
        replace f9 := Put.frz hPt f9
        replace fz := Put.frz hPt fz
        replace xw := Put.to xw hPt (by omega)
        replace xq := Put.to xq hPt (by omega)
        replace c3_0 := Put.cell hPt c3_0 (by omega)
        replace c3_1 := Put.cell hPt c3_1 (by omega)
        replace c4_0 := Put.cell hPt c4_0 (by omega)
        replace c4_1 := Put.cell hPt c4_1 (by omega)
        replace c6_0 := Put.cell hPt c6_0 (by omega)
        replace c6_1 := Put.cell hPt c6_1 (by omega)
        replace c6_2 := Put.cell hPt c6_2 (by omega)
        replace c9_0 := Put.cell hPt c9_0 (by omega)
        replace c9_1 := Put.cell hPt c9_1 (by omega)
        refine Mops.done ?_
        refine hK _ _ ?_
        clear hK K' gd
        refine Wp.keep [6, 9] fun r15 hkeep => ?_
        obtain ⟨e6_15, e9_15, -⟩ := hkeep
        simp [go_sem, e2_13, e3_13, e4_13, e6_13, e9_13] at e6_15 e9_15
        clear e2_13 e3_13 e4_13 e6_13 e9_13
        have hS : CopyG Pt w4.heap.size a' (o.setT i j (o.T i j + d)) := by rw [hPt.eq]; exact hG.setT hg hi hj (by omega)
        clear hG hPt d1 d2
        refine Wp.seqRegion (.inl rfl) (by kernel_rfl) fun K' gd hK hg => ?_
        clear hg
        refine Wops.cut 3 fun K1 hK1 => ?_
        simp only [List.take_succ_cons, List.take_zero]
        go_simp
        refine hK1 _ _ ?_
        clear hK1 K1
        simp only [List.drop_succ_cons, List.drop_zero]
        refine Wops.absS (b := n6) (i := 0) [_, _, _] (somes [cellVal c6_0, cellVal c6_1, cellVal c6_2] (by simp) (by intro j v hj; match j, hj with | 0, hj => (simp at hj; subst hj; exact c6_0) | 1, hj => (simp at hj; subst hj; exact c6_1) | 2, hj => (simp at hj; subst hj; exact c6_2))) fun P9 hP9 => ?_
        have zP9 := hP9.same
        replace f3 := Put.frz hP9 f3
        replace f4 := Put.frz hP9 f4
        replace f6 := Put.frz hP9 f6
        replace f9 := Put.frz hP9 f9
        replace fz := Put.frz hP9 fz
        replace hS := hS.put hP9 (by omega)
        replace xw := Put.to xw hP9 (by omega)
        clear xq
        replace c3_0 := Put.cell hP9 c3_0 (by omega)
        replace c3_1 := Put.cell hP9 c3_1 (by omega)
        replace c4_0 := Put.cell hP9 c4_0 (by omega)
        replace c4_1 := Put.cell hP9 c4_1 (by omega)
        clear c6_0
        clear c6_1
        clear c6_2
        replace c9_0 := Put.cell hP9 c9_0 (by omega)
        replace c9_1 := Put.cell hP9 c9_1 (by omega)
        have c6_0 := hP9.new 0 _ rfl
        try simp only [Nat.reduceAdd, Nat.zero_add, Nat.add_zero] at c6_0
        have c6_1 := hP9.new 1 _ rfl
        try simp only [Nat.reduceAdd, Nat.zero_add, Nat.add_zero] at c6_1
        have c6_2 := hP9.new 2 _ rfl
        try simp only [Nat.reduceAdd, Nat.zero_add, Nat.add_zero] at c6_2
        clear hP9
        try simp only [Wops_nil, updO_some, updO_none]
        refine hK _ _ ?_
        clear hK K' gd
        refine Wp.keep [6] fun r16 hkeep => ?_
        obtain ⟨e6_16, -⟩ := hkeep
        simp [go_sem, e6_15, e9_15] at e6_16
        clear e6_15 e9_15
        refine Wp.ret ?_
        refine endK_cell (v := .agg #[cellVal c6_0, cellVal c6_1, cellVal c6_2]) Tryz.results32 (by decide) e6_16 (by dsimp only [cellVal]; go_simp) ?_
        dsimp only [cellVal]
        refine ⟨_, _, _, _, _, _, by rw [he], ?_, xw⟩
        unfold delayO; rw [if_pos he, Int.toNat_natCast, Int.toNat_natCast]
        have h9 := hS.ord.orderV (hg.setT j hi (by omega))
        simp only [OA.cv, OA.rv, g1, g2, setT_n, setT_m] at h9
        exact h9
    · skip
      refine Wp.skip ?_
      refine thenK_normal ?_
      refine Wp.seqRegion (.inl rfl) (by kernel_rfl) fun K' gd hK hg => ?_
      clear hg
      refine Wops.cut 2 fun K1 hK1 => ?_
      simp only [List.take_succ_cons, List.take_zero]
      go_simp
      refine Wcall (.inl rfl) (withinR_F hd _) ?_
      rintro v w3 ⟨rfl, hE⟩
      go_simp
      refine hK1 _ _ ?_
      clear hK1 K1
      simp only [List.drop_succ_cons, List.drop_zero]
      have z17 := Below.size hE
      replace f3 := Ext.fz hE c3_0 f3
      replace f4 := Ext.fz hE c4_0 f4
      replace f6 := Ext.fz hE c6_0 f6
      replace xw := Ext.trans xw hE
      replace c3_0 := Ext.cell hE c3_0
      replace c3_1 := Ext.cell hE c3_1
      replace c4_0 := Ext.cell hE c4_0
      replace c4_1 := Ext.cell hE c4_1
      replace c6_0 := Ext.cell hE c6_0
      replace c6_1 := Ext.cell hE c6_1
      replace c6_2 := Ext.cell hE c6_2
      clear hE
      go_simp
      refine hK _ _ ?_
      clear hK K' gd
      refine Wp.keep [2, 3, 4, 6, 8] fun r18 hkeep => ?_
      obtain ⟨e2_18, e3_18, e4_18, e6_18, e8_18, -⟩ := hkeep
      simp [go_sem, e2_5, e3_5, e4_5, e6_5, e7_5, e14_5] at e2_18 e3_18 e4_18 e6_18 e8_18
      clear e2_5 e3_5 e4_5 e6_5 e7_5 e14_5
      refine Wp.seq ?_
      refine Wp.seqRegion (.inl rfl) (by kernel_rfl) fun K' gd hK hg => ?_
      clear hg
      go_simp
      refine hK _ _ ?_
      clear hK K' gd
      refine Wp.keep [2, 3, 4, 6, 20] fun r19 hkeep => ?_
      obtain ⟨e2_19, e3_19, e4_19, e6_19, e20_19, -⟩ := hkeep
      simp [go_sem, e2_18, e3_18, e4_18, e6_18, e8_18] at e2_19 e3_19 e4_19 e6_19 e20_19
      clear e2_18 e3_18 e4_18 e6_18 e8_18
      refine Wp.condT (by go_simp) ?_
      have hq1 : askS o (okDelay o i j d) = 1 := by unfold askS okDelay; rw [if_pos (checkS_zero.2 hg), if_neg (by rw [Bool.and_eq_true]; exact fun h => hd (of_decide_eq_true h.2))]
      have he : delayE o i j d = 1 := by unfold delayE; rw [hq1, if_neg (by decide)]
      refine Wp.seqRegion (.inl rfl) (by kernel_rfl) fun K' gd hK hg => ?_
      clear hg
      refine Wops.cut 2 fun K1 hK1 => ?_
      simp only [List.take_succ_cons, List.take_zero]
      go_simp
      refine hK1 _ _ ?_
      clear hK1 K1
      simp only [List.drop_succ_cons, List.drop_zero]
      refine Wops.absS (b := n6) (i := 0) [_, _, _] (somes [cellVal c6_0, cellVal c6_1, cellVal c6_2] (by simp) (by intro j v hj; match j, hj with | 0, hj => (simp at hj; subst hj; exact c6_0) | 1, hj => (simp at hj; subst hj; exact c6_1) | 2, hj => (simp at hj; subst hj; exact c6_2))) fun P10 hP10 => ?_
      have zP10 := hP10.same
      replace f3 := Put.frz hP10 f3
      replace f4 := Put.frz hP10 f4
      replace f6 := Put.frz hP10 f6
      replace xw := Put.to xw hP10 (by omega)
      replace c3_0 := Put.cell hP10 c3_0 (by omega)
      replace c3_1 := Put.cell hP10 c3_1 (by omega)
      replace c4_0 := Put.cell hP10 c4_0 (by omega)
      replace c4_1 := Put.cell hP10 c4_1 (by omega)
      clear c6_0
      clear c6_1
      clear c6_2
      have c6_0 := hP10.new 0 _ rfl
      try simp only [Nat.reduceAdd, Nat.zero_add, Nat.add_zero] at c6_0
      have c6_1 := hP10.new 1 _ rfl
      try simp only [Nat.reduceAdd, Nat.zero_add, Nat.add_zero] at c6_1
      have c6_2 := hP10.new 2 _ rfl
      try simp only [Nat.reduceAdd, Nat.zero_add, Nat.add_zero] at c6_2
      clear hP10
      try simp only [Wops_nil, updO_some, updO_none]
      refine hK _ _ ?_
      clear hK K' gd
      refine Wp.keep [6] fun r20 hkeep => ?_
      obtain ⟨e6_20, -⟩ := hkeep
      simp [go_sem, e2_19, e3_19, e4_19, e6_19, e20_19] at e6_20
      clear e2_19 e3_19 e4_19 e6_19 e20_19
      refine Wp.ret ?_
      refine thenK_ret ?_
      refine endK_cell (v := .agg #[cellVal c6_0, cellVal c6_1, cellVal c6_2]) Tryz.results32 (by decide) e6_20 (by dsimp only [cellVal]; go_simp) ?_
      dsimp only [cellVal]
      exact ⟨none, 0, 0, none, 0, 0, by rw [he], by unfold delayO; rw [if_neg (by rw [he]; decide)]; exact noOrdV _ _, xw⟩
  · skip
    refine Wp.seq ?_
    refine Wp.seqRegion (.inl rfl) (by kernel_rfl) fun K' gd hK hg => ?_
    clear hg
    go_simp
    refine hK _ _ ?_
    clear hK K' gd
    refine Wp.keep [2, 3, 4, 6, 7, 14] fun r21 hkeep => ?_
    obtain ⟨e2_21, e3_21, e4_21, e6_21, e7_21, e14_21, -⟩ := hkeep
    simp [go_sem, e2_4, e3_4, e4_4, e6_4, e7_4] at e2_21 e3_21 e4_21 e6_21 e7_21 e14_21
    clear e2_4 e3_4 e4_4 e6_4 e7_4
    refine Wp.condT (by go_simp) ?_
    have hq1 : askS o (okDelay o x y d) = askS o (isStint o x y) := by unfold askS at h0 ⊢; split; (rename_i h9; rw [if_pos h9] at h0; by_cases hp : isStint o x y = true; (rw [if_pos hp] at h0; exact absurd rfl h0); (rw [if_neg hp, if_neg (by unfold okDelay; rw [Bool.and_eq_true]; exact fun h => hp h.1)])); rfl
    have he : delayE o x y d = askS o (isStint o x y) := by unfold delayE; rw [if_neg (by rw [hq1]; exact h0), hq1]
    refine Wp.seqRegion (.inl rfl) (by kernel_rfl) fun K' gd hK hg => ?_
    clear hg
    refine Wops.cut 3 fun K1 hK1 => ?_
    simp only [List.take_succ_cons, List.take_zero]
    go_simp
    refine hK1 _ _ ?_
    clear hK1 K1
    simp only [List.drop_succ_cons, List.drop_zero]
    refine Wops.absS (b := n6) (i := 0) [_, _, _] (somes [cellVal c6_0, cellVal c6_1, cellVal c6_2] (by simp) (by intro j v hj; match j, hj with | 0, hj => (simp at hj; subst hj; exact c6_0) | 1, hj => (simp at hj; subst hj; exact c6_1) | 2, hj => (simp at hj; subst hj; exact c6_2))) fun P11 hP11 => ?_
    have zP11 := hP11.same
    replace f3 := Put.frz hP11 f3
    replace f4 := Put.frz hP11 f4
    replace f6 := Put.frz hP11 f6
    replace xw := Put.to xw hP11 (by omega)
    replace c3_0 := Put.cell hP11 c3_0 (by omega)
    replace c3_1 := Put.cell hP11 c3_1 (by omega)
    replace c4_0 := Put.cell hP11 c4_0 (by omega)
    replace c4_1 := Put.cell hP11 c4_1 (by omega)
    clear c6_0
    clear c6_1
    clear c6_2
    have c6_0 := hP11.new 0 _ rfl
    try simp only [Nat.reduceAdd, Nat.zero_add, Nat.add_zero] at c6_0
    have c6_1 := hP11.new 1 _ rfl
    try simp only [Nat.reduceAdd, Nat.zero_add, Nat.add_zero] at c6_1
    have c6_2 := hP11.new 2 _ rfl
    try simp only [Nat.reduceAdd, Nat.zero_add, Nat.add_zero] at c6_2
    clear hP11
    try simp only [Wops_nil, updO_some, updO_none]
    refine hK _ _ ?_
    clear hK K' gd
    refine Wp.keep [6] fun r22 hkeep => ?_
    obtain ⟨e6_22, -⟩ := hkeep
    simp [go_sem, e2_21, e3_21, e4_21, e6_21, e7_21, e14_21] at e6_22
    clear e2_21 e3_21 e4_21 e6_21 e7_21 e14_21
    refine Wp.ret ?_
    refine thenK_ret ?_
    refine endK_cell (v := .agg #[cellVal c6_0, cellVal c6_1, cellVal c6_2]) Tryz.results32 (by decide) e6_22 (by dsimp only [cellVal]; go_simp) ?_
    dsimp only [cellVal]
    exact ⟨none, 0, 0, none, 0, 0, by rw [he], by unfold delayO; rw [if_neg (by rw [he]; exact h0)]; exact noOrdV _ _, xw⟩
theorem OwnS.put {w V : World} {base b i : Nat} {v : Value} {xs : List (Int × Int)} {vs : List Value} (h : OwnS w base v xs) (p : Put w V b i vs) (hb : b < base) : OwnS V base v xs := World.ownsRow.put h p hb
theorem OwnS.ext {w V : World} {base : Nat} {v : Value} {xs : List (Int × Int)} (h : OwnS w base v xs) (hE : Ext w V) : OwnS V base v xs := World.ownsRow.ext h hE
theorem OwnS.push {w : World} {base n : Nat} {v : Value} {xs : List (Int × Int)} {x : Int × Int} (h : OwnS w base v xs) (h0 : w.cell? ⟨n, 0, none⟩ = some (.int .i64 x.1)) (h1 : w.cell? ⟨n, 1, none⟩ = some (.int .i64 x.2)) (ty : TypeId) (hl : xs.length ≤ 1000000) (hb : base ≤ w.heap.size) :
    ∃ v' w', (Builtin.append_ #[45, 45] ty #[v, .slice (some ⟨n, 0, none⟩) 1 1]).run Tryz.prog w = .ok v' w' ∧ OwnS w' base v' (xs ++ [x]) ∧ w.grownBy w' v.ownBlock := by
  obtain ⟨v', w', hrun, hown, hgr, -⟩ := app_run stints_T h ⟨n, 0, none⟩ 1 1 [.int .i64 x.1, .int .i64 x.2] ty rfl (news_two h0 h1) (oneCell_ints (by simp)) (by omega) hb
  refine ⟨v', w', hrun, ?_, hgr⟩
  show World.ownsRow _ _ _ _ _ _ _
  rw [encL_add, List.length_append]
  exact hown
theorem OwnS.lt {w : World} {base : Nat} {v : Value} {xs : List (Int × Int)} (h : OwnS w base v xs) : ∀ k, v.ownBlock = some k → base ≤ k ∧ k < w.heap.size := World.ownsRow.lt h
theorem reachS_c (v : Value) (o : Ord) (x y d : Int) (w : World) (hV : OrderV w w.heap.size v o) (hf : Fits o) :
    CallsV Tryz.prog 34 #[v, .agg #[.int .i64 x, .int .i64 y], .int .i64 d] w fun v w' => ∃ B1 m1 d1, v = .agg #[.slice B1 m1 d1, .int .i64 (delayE o x y d)] ∧ StintsV w' w'.heap.size (.slice B1 m1 d1) (if delayE o x y d = 0 then reachL o x y d else []) ∧ Ext w w' := by
  obtain ⟨L1, k1, d1, L2, k2, d2, rfl, hV⟩ := hV.two
  refine Wp.fn Tryz.func34 rfl Tryz.ntmps34 (by simp) ?_
  have xw := Ext.refl w
  refine Wp.keep [0, 1, 2] fun r1 hkeep => ?_
  obtain ⟨e0_1, e1_1, e2_1, -⟩ := hkeep
  simp [go_sem] at e0_1 e1_1 e2_1
  refine Wp.seqRegion (.inl rfl) (by kernel_rfl) fun K' gd hK hg => ?_
  clear hg
  refine Wops.cut 1 fun K1 hK1 => ?_
  simp only [List.take_succ_cons, List.take_zero]
  go_simp
  refine hK1 _ _ ?_
  clear hK1 K1
  simp only [List.drop_succ_cons, List.drop_zero]
  refine Wops.absA fun V3_1 n3 hV3_1 => ?_
  obtain ⟨q3, hV3_1, s3, kV3_1, f3, r3⟩ := hV3_1
  try simp only [q3] at kV3_1 f3 r3 ⊢
  replace xw := Ext.trans xw hV3_1
  have c3_0 := kV3_1 0 _ rfl
  have c3_1 := kV3_1 1 _ rfl
  clear kV3_1 hV3_1
  clear r3
  refine Wops.cut 1 fun K1 hK1 => ?_
  simp only [List.take_succ_cons, List.take_zero]
  go_simp
  refine hK1 _ _ ?_
  clear hK1 K1
  simp only [List.drop_succ_cons, List.drop_zero]
  refine Wops.absA fun V4_2 n4 hV4_2 => ?_
  obtain ⟨q4, hV4_2, s4, kV4_2, f4, r4⟩ := hV4_2
  try simp only [q4] at kV4_2 f4 r4 ⊢
  replace f3 := Ext.fz hV4_2 c3_0 f3
  replace xw := Ext.trans xw hV4_2
  replace c3_0 := Ext.cell hV4_2 c3_0
  replace c3_1 := Ext.cell hV4_2 c3_1
  have c4_0 := kV4_2 0 _ rfl
  have c4_1 := kV4_2 1 _ rfl
  clear kV4_2 hV4_2
  clear r4
  refine Wops.cut 1 fun K1 hK1 => ?_
  simp only [List.take_succ_cons, List.take_zero]
  go_simp
  refine hK1 _ _ ?_
  clear hK1 K1
  simp only [List.drop_succ_cons, List.drop_zero]
  refine Wops.absA fun V6_3 n6 hV6_3 => ?_
  obtain ⟨q6, hV6_3, s6, kV6_3, f6, r6⟩ := hV6_3
  try simp only [q6] at kV6_3 f6 r6 ⊢
  replace f3 := Ext.fz hV6_3 c3_0 f3
  replace f4 := Ext.fz hV6_3 c4_0 f4
  replace xw := Ext.trans xw hV6_3
  replace c3_0 := Ext.cell hV6_3 c3_0
  replace c3_1 := Ext.cell hV6_3 c3_1
  replace c4_0 := Ext.cell hV6_3 c4_0
  replace c4_1 := Ext.cell hV6_3 c4_1
  have c6_0 := kV6_3 0 _ rfl
  have c6_1 := kV6_3 1 _ rfl
  clear kV6_3 hV6_3
  clear r6
  try simp only [Wops_nil, updO_some, updO_none]
  refine hK _ _ ?_
  clear hK K' gd
  refine Wp.keep [2, 3, 4, 6] fun r2 hkeep => ?_
  obtain ⟨e2_2, e3_2, e4_2, e6_2, -⟩ := hkeep
  simp [go_sem, e0_1, e1_1, e2_1] at e2_2 e3_2 e4_2 e6_2
  clear e0_1 e1_1 e2_1
  refine Wp.seqRegion (.inl rfl) (by kernel_rfl) fun K' gd hK hg => ?_
  clear hg
  refine Wops.cut 4 fun K1 hK1 => ?_
  simp only [List.take_succ_cons, List.take_zero]
  go_simp
  refine Wcall (.inl rfl) (delayedS_c _ o x y d _ (hV.ext xw) hf) ?_
  rintro v w2 ⟨B1, m1, e1, B2, m2, e2, rfl, hM, hE⟩
  go_simp
  refine hK1 _ _ ?_
  clear hK1 K1
  simp only [List.drop_succ_cons, List.drop_zero]
  have z3 := Below.size hE
  replace f3 := Ext.fz hE c3_0 f3
  replace f4 := Ext.fz hE c4_0 f4
  replace f6 := Ext.fz hE c6_0 f6
  replace xw := Ext.trans xw hE
  replace c3_0 := Ext.cell hE c3_0
  replace c3_1 := Ext.cell hE c3_1
  replace c4_0 := Ext.cell hE c4_0
  replace c4_1 := Ext.cell hE c4_1
  replace c6_0 := Ext.cell hE c6_0
  replace c6_1 := Ext.cell hE c6_1
  clear hE
  refine Wops.cut 2 fun K1 hK1 => ?_
  simp only [List.take_succ_cons, List.take_zero]
  go_simp
  refine hK1 _ _ ?_
  clear hK1 K1
  simp only [List.drop_succ_cons, List.drop_zero]
  refine Wops.absA fun V7_4 n7 hV7_4 => ?_
  obtain ⟨q7, hV7_4, s7, kV7_4, f7, r7⟩ := hV7_4
  try simp only [q7] at kV7_4 f7 r7 ⊢
  replace f3 := Ext.fz hV7_4 c3_0 f3
  replace f4 := Ext.fz hV7_4 c4_0 f4
  replace f6 := Ext.fz hV7_4 c6_0 f6
  replace hM := hM.ext hV7_4
  replace xw := Ext.trans xw hV7_4
  replace c3_0 := Ext.cell hV7_4 c3_0
  replace c3_1 := Ext.cell hV7_4 c3_1
  replace c4_0 := Ext.cell hV7_4 c4_0
  replace c4_1 := Ext.cell hV7_4 c4_1
  replace c6_0 := Ext.cell hV7_4 c6_0
  replace c6_1 := Ext.cell hV7_4 c6_1
  have c7_0 := kV7_4 0 _ rfl
  have c7_1 := kV7_4 1 _ rfl
  have c7_2 := kV7_4 2 _ rfl
  clear kV7_4 hV7_4
  clear r7
  try simp only [Wops_nil, updO_some, updO_none]
  refine hK _ _ ?_
  clear hK K' gd
  refine Wp.keep [3, 6, 7] fun r4 hkeep => ?_
  obtain ⟨e3_4, e6_4, e7_4, -⟩ := hkeep
  simp [go_sem, e2_2, e3_2, e4_2, e6_2] at e3_4 e6_4 e7_4
  clear e2_2 e3_2 e4_2 e6_2
  by_cases h0 : delayE o x y d = 0
  · skip
    refine Wp.seq ?_
    refine Wp.seqRegion (.inl rfl) (by kernel_rfl) fun K' gd hK hg => ?_
    clear hg
    go_simp
    refine hK _ _ ?_
    clear hK K' gd
    refine Wp.keep [3, 6, 7, 19] fun r5 hkeep => ?_
    obtain ⟨e3_5, e6_5, e7_5, e19_5, -⟩ := hkeep
    simp [go_sem, e3_4, e6_4, e7_4] at e3_5 e6_5 e7_5 e19_5
    clear e3_4 e6_4 e7_4
    refine Wp.condF (by go_simp) ?_
    obtain ⟨hg, hst, -, -⟩ := delayE_zero h0
    have hg2 := delayO_good h0
    obtain ⟨p, rfl, rfl, rfl, rfl, rfl, rfl, hO⟩ := (hV.ext xw).aO hg
    obtain ⟨M, hMe⟩ : ∃ M, delayO o x y d = M := ⟨_, rfl⟩
    have hMn : ∃ _u : Unit, M.n = o.n ∧ M.m = o.m := ⟨(), by rw [← hMe]; unfold delayO; rw [if_pos h0]; exact ⟨setT_n _ _ _, setT_m _ _ _⟩⟩
    have hrl : ∃ _u : Unit, reachL o x y d = ((stintsL o.n o.m).filter fun x => decide (begA M x.1 x.2 > begA o x.1 x.2)).map zS := ⟨(), by unfold reachL; rw [hMe]⟩
    rw [hMe] at hM hg2
    clear hMe
    obtain ⟨q, rfl, rfl, rfl, rfl, rfl, rfl, hO2⟩ := hM.aO hg2
    have ho := hg.ok
    have ho2 := hg2.ok
    have hn := hg.n2
    have hm := hg.m2
    have hm1 := hg.m1
    obtain ⟨i0, j0, -, -, hi0, hj0⟩ := isStint_nat hst
    have xq := Ext.refl V7_4
    refine Wp.skip ?_
    refine thenK_normal ?_
    refine Wp.seqRegion (.inl rfl) (by kernel_rfl) fun K' gd hK hg => ?_
    clear hg
    refine Wops.cut 2 fun K1 hK1 => ?_
    simp only [List.take_succ_cons, List.take_zero]
    go_simp
    refine Wcall (.inl rfl) (timesR_c p o _ (hO.ext xq)) ?_
    rintro v w3 ⟨hT1, hE⟩
    have hT1 := hT1.tabV
    obtain ⟨bt, obt, ct, rbt, rot, rct, rfl, hG1⟩ := tabG_of hT1 (by omega) (by omega)
    go_simp
    refine hK1 _ _ ?_
    clear hK1 K1
    simp only [List.drop_succ_cons, List.drop_zero]
    have z6 := Below.size hE
    replace f3 := Ext.fz hE c3_0 f3
    replace f4 := Ext.fz hE c4_0 f4
    replace f6 := Ext.fz hE c6_0 f6
    replace f7 := Ext.fz hE c7_0 f7
    replace xw := Ext.trans xw hE
    replace xq := Ext.trans xq hE
    replace c3_0 := Ext.cell hE c3_0
    replace c3_1 := Ext.cell hE c3_1
    replace c4_0 := Ext.cell hE c4_0
    replace c4_1 := Ext.cell hE c4_1
    replace c6_0 := Ext.cell hE c6_0
    replace c6_1 := Ext.cell hE c6_1
    replace c7_0 := Ext.cell hE c7_0
    replace c7_1 := Ext.cell hE c7_1
    replace c7_2 := Ext.cell hE c7_2
    clear hE
    go_simp
    refine hK _ _ ?_
    clear hK K' gd
    refine Wp.keep [3, 6, 7, 8] fun r7 hkeep => ?_
    obtain ⟨e3_7, e6_7, e7_7, e8_7, -⟩ := hkeep
    simp [go_sem, e3_5, e6_5, e7_5, e19_5] at e3_7 e6_7 e7_7 e8_7
    clear e3_5 e6_5 e7_5 e19_5
    refine Wp.seqRegion (.inl rfl) (by kernel_rfl) fun K' gd hK hg => ?_
    clear hg
    refine Wops.cut 3 fun K1 hK1 => ?_
    simp only [List.take_succ_cons, List.take_zero]
    go_simp
    refine Wcall (.inl rfl) (timesR_c q M _ (hO2.ext xq)) ?_
    rintro v w4 ⟨hT2, hE⟩
    have hT2 := hT2.tabV
    obtain ⟨bu, obu, cu, rbu, rou, rcu, rfl, hG2⟩ := tabG_of hT2 (by obtain ⟨-, h, -⟩ := hMn; omega) (by obtain ⟨-, -, h⟩ := hMn; omega)
    obtain ⟨-, hn8, hm8⟩ := hMn
    rw [hn8, hm8] at hG2
    rw [hn8]
    clear hn8 hm8
    go_simp
    refine hK1 _ _ ?_
    clear hK1 K1
    simp only [List.drop_succ_cons, List.drop_zero]
    have z8 := Below.size hE
    replace f3 := Ext.fz hE c3_0 f3
    replace f4 := Ext.fz hE c4_0 f4
    replace f6 := Ext.fz hE c6_0 f6
    replace f7 := Ext.fz hE c7_0 f7
    replace hG1 := hG1.ext hE
    replace xw := Ext.trans xw hE
    replace xq := Ext.trans xq hE
    replace c3_0 := Ext.cell hE c3_0
    replace c3_1 := Ext.cell hE c3_1
    replace c4_0 := Ext.cell hE c4_0
    replace c4_1 := Ext.cell hE c4_1
    replace c6_0 := Ext.cell hE c6_0
    replace c6_1 := Ext.cell hE c6_1
    replace c7_0 := Ext.cell hE c7_0
    replace c7_1 := Ext.cell hE c7_1
    replace c7_2 := Ext.cell hE c7_2
    clear hE
    go_simp
    refine hK _ _ ?_
    clear hK K' gd
    refine Wp.keep [3, 6, 8, 9] fun r9 hkeep => ?_
    obtain ⟨e3_9, e6_9, e8_9, e9_9, -⟩ := hkeep
    simp [go_sem, e3_7, e6_7, e7_7, e8_7] at e3_9 e6_9 e8_9 e9_9
    clear e3_7 e6_7 e7_7 e8_7
    refine Wp.seqRegion (.inl rfl) (by kernel_rfl) fun K' gd hK hg => ?_
    clear hg
    refine Wops.cut 2 fun K1 hK1 => ?_
    simp only [List.take_succ_cons, List.take_zero]
    go_simp
    refine Wcall (.inl rfl) (stintsR_c _ _ o.n o.m _ _ _ (by unfold Ord.n; omega) (by unfold Ord.m; omega)) ?_
    rintro v5 w5 ⟨hL, hE⟩
    obtain ⟨AL, cL, rfl, hHc⟩ := HoldW.of hL.stintsV
    go_simp
    refine hK1 _ _ ?_
    clear hK1 K1
    simp only [List.drop_succ_cons, List.drop_zero]
    have z10 := Below.size hE
    replace f3 := Ext.fz hE c3_0 f3
    replace f4 := Ext.fz hE c4_0 f4
    replace f6 := Ext.fz hE c6_0 f6
    replace f7 := Ext.fz hE c7_0 f7
    replace hG1 := hG1.ext hE
    replace hG2 := hG2.ext hE
    replace xw := Ext.trans xw hE
    replace xq := Ext.trans xq hE
    replace c3_0 := Ext.cell hE c3_0
    replace c3_1 := Ext.cell hE c3_1
    replace c4_0 := Ext.cell hE c4_0
    replace c4_1 := Ext.cell hE c4_1
    replace c6_0 := Ext.cell hE c6_0
    replace c6_1 := Ext.cell hE c6_1
    replace c7_0 := Ext.cell hE c7_0
    replace c7_1 := Ext.cell hE c7_1
    replace c7_2 := Ext.cell hE c7_2
    clear hE
    go_simp
    refine hK _ _ ?_
    clear hK K' gd
    refine Wp.keep [6, 8, 9, 10] fun r11 hkeep => ?_
    obtain ⟨e6_11, e8_11, e9_11, e10_11, -⟩ := hkeep
    simp [go_sem, e3_9, e6_9, e8_9, e9_9] at e6_11 e8_11 e9_11 e10_11
    clear e3_9 e6_9 e8_9 e9_9
    have hLm : ∀ x ∈ stintsL o.n o.m, x.1 < o.n ∧ x.2 < o.m := fun x hx => stintsL_mem.1 hx
    have hLl : (stintsL o.n o.m).length ≤ 300 := (by rw [stintsL_len]; have := Nat.mul_le_mul hn hm; unfold Ord.n Ord.m; omega)
    obtain ⟨L, hLe⟩ : ∃ L, stintsL o.n o.m = L := ⟨_, rfl⟩
    rw [hLe] at hHc e10_11 hLm hLl hrl
    clear hLe hL
    obtain ⟨S0, hS0⟩ : ∃ s, w5.heap.size = s := ⟨_, rfl⟩
    have xh := Ext.refl w5
    refine Wp.seqRegion (.inl rfl) (by kernel_rfl) fun K' gd hK hg => ?_
    clear hg
    go_simp
    refine hK _ _ ?_
    clear hK K' gd
    refine Wp.keep [6, 8, 9, 10, 11] fun r12 hkeep => ?_
    obtain ⟨e6_12, e8_12, e9_12, e10_12, e11_12, -⟩ := hkeep
    simp [go_sem, e6_11, e8_11, e9_11, e10_11] at e6_12 e8_12 e9_12 e10_12 e11_12
    clear e6_11 e8_11 e9_11 e10_11
    refine Wp.seq ?_
    refine Wp.seqRegion (.inl rfl) (by kernel_rfl) fun K' gd hK hg => ?_
    clear hg
    go_simp
    refine hK _ _ ?_
    clear hK K' gd
    refine Wp.keep [6, 8, 9, 10, 11, 12] fun r13 hkeep => ?_
    obtain ⟨e6_13, e8_13, e9_13, e10_13, e11_13, e12_13, -⟩ := hkeep
    simp [go_sem, e6_12, e8_12, e9_12, e10_12, e11_12] at e6_13 e8_13 e9_13 e10_13 e11_13 e12_13
    clear e6_12 e8_12 e9_12 e10_12 e11_12
    refine Wp.block ?_
    refine Wp.loop (fun i ρ ds wi => AllEq [6, 8, 9, 10] ρ r13 ∧ ds = [] ∧ (Ext w5 wi) ∧ (∃ v5, ρ 12 = .int .i64 (i : Int) ∧ ρ 11 = v5 ∧ OwnS wi S0 v5 (((L.take i).filter fun x => decide (begA M x.1 x.2 > begA o x.1 x.2)).map zS))) (L.length) ?_ ?_
    · refine ⟨AllEq.refl _ _, rfl, Ext.refl _, ?_⟩
      exact ⟨_, by rw [e12_13]; rfl, e11_13, World.ownsRow_nil _ _ _ _⟩
    · rintro i r14 _ wi hi ⟨hA, rfl, xl7, ⟨v5, e12, e11, i1⟩⟩
      obtain ⟨e6_14, e8_14, e9_14, e10_14, -⟩ := hA
      rw [e6_13] at e6_14
      rw [e8_13] at e8_14
      rw [e9_13] at e9_14
      rw [e10_13] at e10_14
      have zxl7 := Below.size xl7
      replace f3 := Ext.fz xl7 c3_0 f3
      replace f4 := Ext.fz xl7 c4_0 f4
      replace f6 := Ext.fz xl7 c6_0 f6
      replace f7 := Ext.fz xl7 c7_0 f7
      replace hG1 := hG1.ext xl7
      replace hG2 := hG2.ext xl7
      replace xw := Ext.trans xw xl7
      replace xq := Ext.trans xq xl7
      replace xh := Ext.trans xh xl7
      replace c3_0 := Ext.cell xl7 c3_0
      replace c3_1 := Ext.cell xl7 c3_1
      replace c4_0 := Ext.cell xl7 c4_0
      replace c4_1 := Ext.cell xl7 c4_1
      replace c6_0 := Ext.cell xl7 c6_0
      replace c6_1 := Ext.cell xl7 c6_1
      replace c7_0 := Ext.cell xl7 c7_0
      replace c7_1 := Ext.cell xl7 c7_1
      replace c7_2 := Ext.cell xl7 c7_2
      refine Wp.seq ?_
      refine Wp.seqRegion (.inl rfl) (by kernel_rfl) fun K' gd hK hg => ?_
      clear hg
      go_simp
      refine hK _ _ ?_
      clear hK K' gd
      refine Wp.keep [6, 8, 9, 10, 11, 12, 33] fun r15 hkeep => ?_
      obtain ⟨e6_15, e8_15, e9_15, e10_15, e11_15, e12_15, e33_15, -⟩ := hkeep
      simp [go_sem, e6_14, e8_14, e9_14, e10_14, e11, e12] at e6_15 e8_15 e9_15 e10_15 e11_15 e12_15 e33_15
      clear e6_14 e8_14 e9_14 e10_14 e11 e12
      by_cases h : i < L.length
      · refine Wp.condT (by go_simp) ?_
        obtain ⟨z, hz⟩ : ∃ z, L[i]? = some z := ⟨_, List.getElem?_eq_getElem h⟩
        obtain ⟨b1, o1, rfl, u1, u2⟩ := hHc i z hz
        obtain ⟨hz1, hz2⟩ := hLm z (List.mem_of_getElem? hz)
        have u1 := xh.cell u1
        have u2 := xh.cell u2
        have b3 : (i : Int) < (L.length : Int) := by omega
        have b4 : (z.1 : Int) < (o.n : Int) := by omega
        have b5 : (z.2 : Int) < (o.m : Int) := by omega
        have y1 := hG1.row z.1 hz1
        have y2 := hG1.cell z.1 z.2 hz1 hz2
        have y3 := hG2.row z.1 hz1
        have y4 := hG2.cell z.1 z.2 hz1 hz2
        have hft : ∃ _u : Unit, (L.take (i + 1)).filter (fun x => decide (begA M x.1 x.2 > begA o x.1 x.2)) = (L.take i).filter (fun x => decide (begA M x.1 x.2 > begA o x.1 x.2)) ++ (if decide (begA M z.1 z.2 > begA o z.1 z.2) = true then [z] else []) := ⟨(), filter_take _ L hz⟩
        have hlen : (((L.take i).filter fun x => decide (begA M x.1 x.2 > begA o x.1 x.2)).map zS).length ≤ 1000 := by (rw [List.length_map]; have e1 := List.length_filter_le (fun x => decide (begA M x.1 x.2 > begA o x.1 x.2)) (L.take i); rw [List.length_take] at e1; omega)
        have xi := Ext.refl wi
        by_cases hs : begA o z.1 z.2 < begA M z.1 z.2
        · skip
          refine Wp.skip ?_
          refine thenK_normal ?_
          refine Wp.seq ?_
          refine Wp.block ?_
          refine Wp.seqDraw (.inl rfl) mixed [([0, 1, 2, 3, 4], none), ([5, 6, 7, 8, 9], none), ([10, 11, 12, 13, 14], none), ([15, 16, 17, 18, 19], none), ([20, 21, 22, 23, 24], none), ([25, 26, 27, 28, 29], none), ([30], none)] (by kernel_rfl) fun K' gd hK hg => ?_
          clear hg
          simp only [pick, nth, List.map_cons, List.map_nil, Option.map_none, Option.map_some]
          refine Mops.absD fun D9 hD9 zD9 => ?_
          replace f3 := Ext.fz hD9 c3_0 f3
          replace f4 := Ext.fz hD9 c4_0 f4
          replace f6 := Ext.fz hD9 c6_0 f6
          replace f7 := Ext.fz hD9 c7_0 f7
          replace xw := Ext.trans xw hD9
          replace xq := Ext.trans xq hD9
          replace xh := Ext.trans xh hD9
          replace xl7 := Ext.trans xl7 hD9
          replace xi := Ext.trans xi hD9
          replace c3_0 := Ext.cell hD9 c3_0
          replace c3_1 := Ext.cell hD9 c3_1
          replace c4_0 := Ext.cell hD9 c4_0
          replace c4_1 := Ext.cell hD9 c4_1
          replace c6_0 := Ext.cell hD9 c6_0
          replace c6_1 := Ext.cell hD9 c6_1
          replace c7_0 := Ext.cell hD9 c7_0
          replace c7_1 := Ext.cell hD9 c7_1
          replace c7_2 := Ext.cell hD9 c7_2
          replace u1 := Ext.cell hD9 u1
          replace u2 := Ext.cell hD9 u2
          replace y1 := Ext.cell hD9 y1
          replace y2 := Ext.cell hD9 y2
          replace y3 := Ext.cell hD9 y3
          replace y4 := Ext.cell hD9 y4
          clear hD9
          apply Mops.none
          · intro w' hE'
            have hC' := hE'.cellsS
            go_simp
            with_reducible rfl
          apply Mops.none
          · intro w' hE'
            have hC' := hE'.cellsS
            go_simp
            with_reducible rfl
          apply Mops.none
          · intro w' hE'
            have hC' := hE'.cellsS
            go_simp
            with_reducible rfl
          apply Mops.none
          · intro w' hE'
            have hC' := hE'.cellsS
            go_simp
            with_reducible rfl
          apply Mops.none
          · intro w' hE'
            have hC' := hE'.cellsS
            go_simp
            with_reducible rfl
          apply Mops.none
          · intro w' hE'
            have hC' := hE'.cellsS
            go_simp
            with_reducible rfl
          apply Mops.none
          · intro w' hE'
            have hC' := hE'.cellsS
            go_simp
            with_reducible rfl
          refine Mops.done ?_
          refine hK _ _ ?_
          clear hK K' gd
          refine Wp.keep [6, 8, 9, 10, 11, 12, 66] fun r16 hkeep => ?_
          obtain ⟨e6_16, e8_16, e9_16, e10_16, e11_16, e12_16, e66_16, -⟩ := hkeep
          simp [go_sem, e6_15, e8_15, e9_15, e10_15, e11_15, e12_15, e33_15] at e6_16 e8_16 e9_16 e10_16 e11_16 e12_16 e66_16
          clear e6_15 e8_15 e9_15 e10_15 e11_15 e12_15 e33_15
          refine Wp.condT (by go_simp) ?_
          refine Wp.loneRegion (.inl rfl) (by kernel_rfl) fun K' gd hK hg => ?_
          clear hg
          refine Wops.cut 6 fun K1 hK1 => ?_
          simp only [List.take_succ_cons, List.take_zero]
          go_simp
          refine hK1 _ _ ?_
          clear hK1 K1
          simp only [List.drop_succ_cons, List.drop_zero]
          refine Wops.absA fun V72_10 n72 hV72_10 => ?_
          obtain ⟨q72, hV72_10, s72, kV72_10, f72, r72⟩ := hV72_10
          try simp only [q72] at kV72_10 f72 r72 ⊢
          replace f3 := Ext.fz hV72_10 c3_0 f3
          replace f4 := Ext.fz hV72_10 c4_0 f4
          replace f6 := Ext.fz hV72_10 c6_0 f6
          replace f7 := Ext.fz hV72_10 c7_0 f7
          replace xw := Ext.trans xw hV72_10
          replace xq := Ext.trans xq hV72_10
          replace xh := Ext.trans xh hV72_10
          replace xl7 := Ext.trans xl7 hV72_10
          replace xi := Ext.trans xi hV72_10
          replace c3_0 := Ext.cell hV72_10 c3_0
          replace c3_1 := Ext.cell hV72_10 c3_1
          replace c4_0 := Ext.cell hV72_10 c4_0
          replace c4_1 := Ext.cell hV72_10 c4_1
          replace c6_0 := Ext.cell hV72_10 c6_0
          replace c6_1 := Ext.cell hV72_10 c6_1
          replace c7_0 := Ext.cell hV72_10 c7_0
          replace c7_1 := Ext.cell hV72_10 c7_1
          replace c7_2 := Ext.cell hV72_10 c7_2
          replace u1 := Ext.cell hV72_10 u1
          replace u2 := Ext.cell hV72_10 u2
          replace y1 := Ext.cell hV72_10 y1
          replace y2 := Ext.cell hV72_10 y2
          replace y3 := Ext.cell hV72_10 y3
          replace y4 := Ext.cell hV72_10 y4
          clear hV72_10 f72
          have c72_0 := kV72_10 0 _ rfl
          have c72_1 := kV72_10 1 _ rfl
          clear kV72_10
          refine Wops.cut 1 fun K1 hK1 => ?_
          simp only [List.take_succ_cons, List.take_zero]
          obtain ⟨v', w9, hrun, hown, hgr⟩ := OwnS.push (x := (((z.1 : Nat) : Int), ((z.2 : Nat) : Int))) (i1.ext xi) c72_0 c72_1 45 (by omega) (by omega)
          refine Wops.law rfl (exec_append2 rfl hrun (by go_simp) (by go_simp)) ?_
          simp only [updO_some, Wops_nil]
          refine hK1 _ _ ?_
          clear hK1 K1
          simp only [List.drop_succ_cons, List.drop_zero]
          have z17 := World.grownBy.size hgr
          replace f3 := Chg.fz (grown_chg hgr) c3_0 f3 (lt_off i1.lt (by omega))
          replace f4 := Chg.fz (grown_chg hgr) c4_0 f4 (lt_off i1.lt (by omega))
          replace f6 := Chg.fz (grown_chg hgr) c6_0 f6 (lt_off i1.lt (by omega))
          replace f7 := Chg.fz (grown_chg hgr) c7_0 f7 (lt_off i1.lt (by omega))
          replace xw := Chg.to xw (grown_chg hgr) (lt_ge i1.lt (by omega))
          replace xq := Chg.to xq (grown_chg hgr) (lt_ge i1.lt (by omega))
          replace xh := Chg.to xh (grown_chg hgr) (lt_ge i1.lt (by omega))
          replace xl7 := Chg.to xl7 (grown_chg hgr) (lt_ge i1.lt (by omega))
          replace c3_0 := Chg.cell (grown_chg hgr) c3_0 (lt_off i1.lt (by omega))
          replace c3_1 := Chg.cell (grown_chg hgr) c3_1 (lt_off i1.lt (by omega))
          replace c4_0 := Chg.cell (grown_chg hgr) c4_0 (lt_off i1.lt (by omega))
          replace c4_1 := Chg.cell (grown_chg hgr) c4_1 (lt_off i1.lt (by omega))
          replace c6_0 := Chg.cell (grown_chg hgr) c6_0 (lt_off i1.lt (by omega))
          replace c6_1 := Chg.cell (grown_chg hgr) c6_1 (lt_off i1.lt (by omega))
          replace c7_0 := Chg.cell (grown_chg hgr) c7_0 (lt_off i1.lt (by omega))
          replace c7_1 := Chg.cell (grown_chg hgr) c7_1 (lt_off i1.lt (by omega))
          replace c7_2 := Chg.cell (grown_chg hgr) c7_2 (lt_off i1.lt (by omega))
          replace c72_0 := Chg.cell (grown_chg hgr) c72_0 (lt_off i1.lt (by omega))
          replace c72_1 := Chg.cell (grown_chg hgr) c72_1 (lt_off i1.lt (by omega))
          go_simp
          refine hK _ _ ?_
          clear hK K' gd
          refine Ends.keep [6, 8, 9, 10, 11, 12] fun r18 hkeep => ?_
          obtain ⟨e6_18, e8_18, e9_18, e10_18, e11_18, e12_18, -⟩ := hkeep
          simp [go_sem, e6_16, e8_16, e9_16, e10_16, e11_16, e12_16, e66_16] at e6_18 e8_18 e9_18 e10_18 e11_18 e12_18
          clear e6_16 e8_16 e9_16 e10_16 e11_16 e12_16 e66_16
          refine Ends.mk ?_
          refine blockK_normal ?_
          refine thenK_normal ?_
          refine Wp.loneRegion (.inl rfl) (by kernel_rfl) fun K' gd hK hg => ?_
          clear hg
          go_simp
          refine hK _ _ ?_
          clear hK K' gd
          refine Ends.keep [6, 8, 9, 10, 11, 12] fun r19 hkeep => ?_
          obtain ⟨e6_19, e8_19, e9_19, e10_19, e11_19, e12_19, -⟩ := hkeep
          simp [go_sem, e6_18, e8_18, e9_18, e10_18, e11_18, e12_18] at e6_19 e8_19 e9_19 e10_19 e11_19 e12_19
          clear e6_18 e8_18 e9_18 e10_18 e11_18 e12_18
          refine Ends.mk ?_
          refine thenK_normal ⟨by omega, ⟨by rw [e6_19, e6_13], by rw [e8_19, e8_13], by rw [e9_19, e9_13], by rw [e10_19, e10_13], trivial⟩, rfl, xl7, ?_⟩
          refine ⟨v', by rw [e12_19, IntWalk.i64_in _ (by omega)]; rfl, e11_19, ?_⟩
          obtain ⟨-, hft⟩ := hft
          rw [hft, if_pos (decide_eq_true hs), List.map_append]
          exact hown
        · skip
          refine Wp.skip ?_
          refine thenK_normal ?_
          refine Wp.seq ?_
          refine Wp.block ?_
          refine Wp.seqDraw (.inl rfl) mixed [([0, 1, 2, 3, 4], none), ([5, 6, 7, 8, 9], none), ([10, 11, 12, 13, 14], none), ([15, 16, 17, 18, 19], none), ([20, 21, 22, 23, 24], none), ([25, 26, 27, 28, 29], none), ([30], none)] (by kernel_rfl) fun K' gd hK hg => ?_
          clear hg
          simp only [pick, nth, List.map_cons, List.map_nil, Option.map_none, Option.map_some]
          refine Mops.absD fun D11 hD11 zD11 => ?_
          replace f3 := Ext.fz hD11 c3_0 f3
          replace f4 := Ext.fz hD11 c4_0 f4
          replace f6 := Ext.fz hD11 c6_0 f6
          replace f7 := Ext.fz hD11 c7_0 f7
          replace xw := Ext.trans xw hD11
          replace xq := Ext.trans xq hD11
          replace xh := Ext.trans xh hD11
          replace xl7 := Ext.trans xl7 hD11
          replace xi := Ext.trans xi hD11
          replace c3_0 := Ext.cell hD11 c3_0
          replace c3_1 := Ext.cell hD11 c3_1
          replace c4_0 := Ext.cell hD11 c4_0
          replace c4_1 := Ext.cell hD11 c4_1
          replace c6_0 := Ext.cell hD11 c6_0
          replace c6_1 := Ext.cell hD11 c6_1
          replace c7_0 := Ext.cell hD11 c7_0
          replace c7_1 := Ext.cell hD11 c7_1
          replace c7_2 := Ext.cell hD11 c7_2
          replace u1 := Ext.cell hD11 u1
          replace u2 := Ext.cell hD11 u2
          replace y1 := Ext.cell hD11 y1
          replace y2 := Ext.cell hD11 y2
          replace y3 := Ext.cell hD11 y3
          replace y4 := Ext.cell hD11 y4
          clear hD11
          apply Mops.none
          · intro w' hE'
            have hC' := hE'.cellsS
            go_simp
            with_reducible rfl
          apply Mops.none
          · intro w' hE'
            have hC' := hE'.cellsS
            go_simp
            with_reducible rfl
          apply Mops.none
          · intro w' hE'
            have hC' := hE'.cellsS
            go_simp
            with_reducible rfl
          apply Mops.none
          · intro w' hE'
            have hC' := hE'.cellsS
            go_simp
            with_reducible rfl
          apply Mops.none
          · intro w' hE'
            have hC' := hE'.cellsS
            go_simp
            with_reducible rfl
          apply Mops.none
          · intro w' hE'
            have hC' := hE'.cellsS
            go_simp
            with_reducible rfl
          apply Mops.none
          · intro w' hE'
            have hC' := hE'.cellsS
            go_simp
            with_reducible rfl
          refine Mops.done ?_
          refine hK _ _ ?_
          clear hK K' gd
          refine Wp.keep [6, 8, 9, 10, 11, 12, 66] fun r20 hkeep => ?_
          obtain ⟨e6_20, e8_20, e9_20, e10_20, e11_20, e12_20, e66_20, -⟩ := hkeep
          simp [go_sem, e6_15, e8_15, e9_15, e10_15, e11_15, e12_15, e33_15] at e6_20 e8_20 e9_20 e10_20 e11_20 e12_20 e66_20
          clear e6_15 e8_15 e9_15 e10_15 e11_15 e12_15 e33_15
          refine Wp.condF (by go_simp) ?_
          refine Wp.skip ?_
          refine blockK_normal ?_
          refine thenK_normal ?_
          refine Wp.loneRegion (.inl rfl) (by kernel_rfl) fun K' gd hK hg => ?_
          clear hg
          go_simp
          refine hK _ _ ?_
          clear hK K' gd
          refine Ends.keep [6, 8, 9, 10, 11, 12] fun r21 hkeep => ?_
          obtain ⟨e6_21, e8_21, e9_21, e10_21, e11_21, e12_21, -⟩ := hkeep
          simp [go_sem, e6_20, e8_20, e9_20, e10_20, e11_20, e12_20, e66_20] at e6_21 e8_21 e9_21 e10_21 e11_21 e12_21
          clear e6_20 e8_20 e9_20 e10_20 e11_20 e12_20 e66_20
          refine Ends.mk ?_
          refine thenK_normal ⟨by omega, ⟨by rw [e6_21, e6_13], by rw [e8_21, e8_13], by rw [e9_21, e9_13], by rw [e10_21, e10_13], trivial⟩, rfl, xl7, ?_⟩
          refine ⟨v5, by rw [e12_21, IntWalk.i64_in _ (by omega)]; rfl, e11_21, ?_⟩
          obtain ⟨-, hft⟩ := hft
          rw [hft, if_neg (by rw [decide_eq_true_iff]; exact hs), List.append_nil]
          exact i1.ext xi
      · refine Wp.condF (by go_simp) ?_
        obtain rfl : i = L.length := by omega
        rw [List.take_length] at i1
        obtain ⟨A9, c9, rfl⟩ := OwnS.slice i1
        refine Wp.exit ?_
        refine thenK_exit ?_
        refine thenK_exit ?_
        refine blockK_here ?_
        refine thenK_normal ?_
        refine Wp.seqRegion (.inl rfl) (by kernel_rfl) fun K' gd hK hg => ?_
        clear hg
        refine Wops.cut 3 fun K1 hK1 => ?_
        simp only [List.take_succ_cons, List.take_zero]
        go_simp
        refine hK1 _ _ ?_
        clear hK1 K1
        simp only [List.drop_succ_cons, List.drop_zero]
        refine Wops.absS (b := n6) (i := 0) [_, _] (somes [cellVal c6_0, cellVal c6_1] (by simp) (by intro j v hj; match j, hj with | 0, hj => (simp at hj; subst hj; exact c6_0) | 1, hj => (simp at hj; subst hj; exact c6_1))) fun P12 hP12 => ?_
        have zP12 := hP12.same
        replace f3 := Put.frz hP12 f3
        replace f4 := Put.frz hP12 f4
        replace f6 := Put.frz hP12 f6
        replace f7 := Put.frz hP12 f7
        replace i1 := i1.put hP12 (by omega)
        replace xw := Put.to xw hP12 (by omega)
        clear xq
        clear xh
        clear xl7
        replace c3_0 := Put.cell hP12 c3_0 (by omega)
        replace c3_1 := Put.cell hP12 c3_1 (by omega)
        replace c4_0 := Put.cell hP12 c4_0 (by omega)
        replace c4_1 := Put.cell hP12 c4_1 (by omega)
        clear c6_0
        clear c6_1
        replace c7_0 := Put.cell hP12 c7_0 (by omega)
        replace c7_1 := Put.cell hP12 c7_1 (by omega)
        replace c7_2 := Put.cell hP12 c7_2 (by omega)
        have c6_0 := hP12.new 0 _ rfl
        try simp only [Nat.reduceAdd, Nat.zero_add, Nat.add_zero] at c6_0
        have c6_1 := hP12.new 1 _ rfl
        try simp only [Nat.reduceAdd, Nat.zero_add, Nat.add_zero] at c6_1
        clear hP12
        try simp only [Wops_nil, updO_some, updO_none]
        refine hK _ _ ?_
        clear hK K' gd
        refine Wp.keep [6] fun r22 hkeep => ?_
        obtain ⟨e6_22, -⟩ := hkeep
        simp [go_sem, e6_15, e8_15, e9_15, e10_15, e11_15, e12_15, e33_15] at e6_22
        clear e6_15 e8_15 e9_15 e10_15 e11_15 e12_15 e33_15
        refine Wp.ret ?_
        refine endK_cell (v := .agg #[cellVal c6_0, cellVal c6_1]) Tryz.results34 (by decide) e6_22 (by dsimp only [cellVal]; go_simp) ?_
        dsimp only [cellVal]
        refine ⟨_, _, _, by rw [h0], ?_, xw⟩
        obtain ⟨-, hrl⟩ := hrl
        rw [if_pos h0, hrl]
        exact OwnS.stintsV i1
  · skip
    refine Wp.seq ?_
    refine Wp.seqRegion (.inl rfl) (by kernel_rfl) fun K' gd hK hg => ?_
    clear hg
    go_simp
    refine hK _ _ ?_
    clear hK K' gd
    refine Wp.keep [3, 6, 7, 19] fun r23 hkeep => ?_
    obtain ⟨e3_23, e6_23, e7_23, e19_23, -⟩ := hkeep
    simp [go_sem, e3_4, e6_4, e7_4] at e3_23 e6_23 e7_23 e19_23
    clear e3_4 e6_4 e7_4
    refine Wp.condT (by go_simp) ?_
    refine Wp.seqRegion (.inl rfl) (by kernel_rfl) fun K' gd hK hg => ?_
    clear hg
    refine Wops.cut 4 fun K1 hK1 => ?_
    simp only [List.take_succ_cons, List.take_zero]
    go_simp
    refine hK1 _ _ ?_
    clear hK1 K1
    simp only [List.drop_succ_cons, List.drop_zero]
    refine Wops.absS (b := n6) (i := 0) [_, _] (somes [cellVal c6_0, cellVal c6_1] (by simp) (by intro j v hj; match j, hj with | 0, hj => (simp at hj; subst hj; exact c6_0) | 1, hj => (simp at hj; subst hj; exact c6_1))) fun P13 hP13 => ?_
    have zP13 := hP13.same
    replace f3 := Put.frz hP13 f3
    replace f4 := Put.frz hP13 f4
    replace f6 := Put.frz hP13 f6
    replace f7 := Put.frz hP13 f7
    replace xw := Put.to xw hP13 (by omega)
    replace c3_0 := Put.cell hP13 c3_0 (by omega)
    replace c3_1 := Put.cell hP13 c3_1 (by omega)
    replace c4_0 := Put.cell hP13 c4_0 (by omega)
    replace c4_1 := Put.cell hP13 c4_1 (by omega)
    clear c6_0
    clear c6_1
    replace c7_0 := Put.cell hP13 c7_0 (by omega)
    replace c7_1 := Put.cell hP13 c7_1 (by omega)
    replace c7_2 := Put.cell hP13 c7_2 (by omega)
    have c6_0 := hP13.new 0 _ rfl
    try simp only [Nat.reduceAdd, Nat.zero_add, Nat.add_zero] at c6_0
    have c6_1 := hP13.new 1 _ rfl
    try simp only [Nat.reduceAdd, Nat.zero_add, Nat.add_zero] at c6_1
    clear hP13
    try simp only [Wops_nil, updO_some, updO_none]
    refine hK _ _ ?_
    clear hK K' gd
    refine Wp.keep [6] fun r24 hkeep => ?_
    obtain ⟨e6_24, -⟩ := hkeep
    simp [go_sem, e3_23, e6_23, e7_23, e19_23] at e6_24
    clear e3_23 e6_23 e7_23 e19_23
    refine Wp.ret ?_
    refine thenK_ret ?_
    refine endK_cell (v := .agg #[cellVal c6_0, cellVal c6_1]) Tryz.results34 (by decide) e6_24 (by dsimp only [cellVal]; go_simp) ?_
    dsimp only [cellVal]
    exact ⟨_, _, _, rfl, by rw [if_neg h0]; exact stintsV_nil _ _, xw⟩
end Go.Proofs.YtnfagcccgmakdaaGreat
namespace Go.Proofs.YtnfagcccgmakdaaGreat
open Go.RowKit Go.Wk Go.Proofs
attribute [local irreducible] Go.Wk.Wops Go.Wk.Wp Go.Wk.Mtree Go.Wk.Mops
set_option maxHeartbeats 4000000
theorem delayO_fits3 (o : Ord) (i j d : Int) : Fits3 (delayO o i j d) := by
  by_cases h : delayE o i j d = 0
  · exact (delayO_good h).fits3
  · unfold delayO; rw [if_neg h]; exact noOrd_fits3
theorem latest_lens (o : Ord) (d : Int) : (if latestE o d = 0 then tabL o (lstA o d) else []).length ≤ 1000 ∧ ∀ x ∈ (if latestE o d = 0 then tabL o (lstA o d) else []), x.length ≤ 1000 := by
  by_cases h : latestE o d = 0
  · rw [if_pos h]
    have ho : OrdGood o := by
      unfold latestE at h
      split at h
      · rename_i h0; exact (askS_zero.1 h0).1
      · rename_i h0; exact absurd h h0
    have hn := ho.n2
    have hm := ho.m2
    refine ⟨by rw [tabL_len]; unfold Ord.n; omega, fun x hx => ?_⟩
    obtain ⟨i, -, rfl⟩ := List.mem_map.1 hx
    rw [rowL_len]; unfold Ord.m; omega
  · rw [if_neg h]; exact ⟨Nat.zero_le _, fun x hx => by cases hx⟩
theorem reach_len (o : Ord) (i j d : Int) : (if delayE o i j d = 0 then reachL o i j d else []).length ≤ 1000 := by
  by_cases h : delayE o i j d = 0
  · rw [if_pos h]
    have ho := (delayE_zero h).1
    have hn := ho.n2
    have hm := ho.m2
    unfold reachL
    rw [List.length_map]
    refine Nat.le_trans (List.length_filter_le _ _) ?_
    rw [stintsL_len]
    have := Nat.mul_le_mul hn hm
    unfold Ord.n Ord.m
    omega
  · rw [if_neg h]; exact Nat.zero_le _
theorem later_c (v : Value) (o : Ord) (d i j b : Int) (w : World) (hV : OrderV w w.heap.size v o) (hf : Fits o) :
    CallsV Tryz.prog 4 #[v, .int .i64 d, .agg #[.int .i64 i, .int .i64 j], .int .i64 b] w fun v w' => v = .bool true ∧ Ext w w' := by
  obtain ⟨L1, k1, d1, L2, k2, d2, rfl, hV⟩ := hV.two
  obtain ⟨Tb, hTb⟩ : ∃ Tb, (if latestE o d = 0 then tabL o (lstA o d) else []) = Tb := ⟨_, rfl⟩
  obtain ⟨Rl, hRl⟩ : ∃ Rl, (if delayE o i j b = 0 then reachL o i j b else []) = Rl := ⟨_, rfl⟩
  have hl1 := latest_lens o d
  have hl2 := reach_len o i j b
  rw [hTb] at hl1
  rw [hRl] at hl2
  have cL1 : ∀ W, Ext w W → CallsV Tryz.prog 29 #[.agg #[.slice L1 k1 d1, .slice L2 k2 d2], .int .i64 d] W fun v w' => ∃ t, v = .tuple #[t, .int .i64 (latestE o d)] ∧ TabV w' w'.heap.size t Tb ∧ Ext W w' := fun W hE =>
    (Latest_c _ o d W (hV.ext hE) hf).mono fun _ _ ⟨t, h1, h2, h3⟩ => ⟨t, h1, by rw [hTb] at h2; exact h2.tabV, h3⟩
  have cL2 : ∀ W, Ext w W → CallsV Tryz.prog 30 #[.agg #[.slice L1 k1 d1, .slice L2 k2 d2], .int .i64 d] W fun v w' => ∃ A n c, v = .agg #[.slice A n c, .int .i64 (latestE o d)] ∧ TabV w' w'.heap.size (.slice A n c) Tb ∧ Ext W w' := fun W hE =>
    (latestSp_c _ o d W (hV.ext hE) hf).mono fun _ _ ⟨t, h1, h2, h3⟩ => (by rw [hTb] at h2; obtain ⟨A, n, c, rfl⟩ : ∃ A n c, t = .slice A n c := ⟨_, _, _, h2.choose_spec.choose_spec.choose_spec.1⟩; exact ⟨A, n, c, h1, h2, h3⟩)
  have cR1 : ∀ W, Ext w W → CallsV Tryz.prog 33 #[.agg #[.slice L1 k1 d1, .slice L2 k2 d2], .agg #[.int .i64 i, .int .i64 j], .int .i64 b] W fun v w' => ∃ t, v = .tuple #[t, .int .i64 (delayE o i j b)] ∧ StintsV w' w'.heap.size t Rl ∧ Ext W w' := fun W hE =>
    (Reach_c _ o i j b W (hV.ext hE) hf).mono fun _ _ ⟨t, h1, h2, h3⟩ => ⟨t, h1, by rw [hRl] at h2; exact h2.stintsV, h3⟩
  have cR2 : ∀ W, Ext w W → CallsV Tryz.prog 34 #[.agg #[.slice L1 k1 d1, .slice L2 k2 d2], .agg #[.int .i64 i, .int .i64 j], .int .i64 b] W fun v w' => ∃ A n c, v = .agg #[.slice A n c, .int .i64 (delayE o i j b)] ∧ StintsV w' w'.heap.size (.slice A n c) Rl ∧ Ext W w' := fun W hE =>
    (reachS_c _ o i j b W (hV.ext hE) hf).mono fun _ _ ⟨A, n, c, h1, h2, h3⟩ => ⟨A, n, c, h1, by rw [hRl] at h2; exact h2, h3⟩
  clear hTb hRl
  refine Wp.fn Tryz.func4 rfl Tryz.ntmps4 (by simp) ?_
  have xw := Ext.refl w
  refine Wp.keep [0, 1, 2, 3] fun r1 hkeep => ?_
  obtain ⟨e0_1, e1_1, e2_1, e3_1, -⟩ := hkeep
  simp [go_sem] at e0_1 e1_1 e2_1 e3_1
  by_cases hs : FewP o
  · skip
    refine Wp.seqRegion (.inl rfl) (by kernel_rfl) fun K' gd hK hg => ?_
    clear hg
    refine Wops.cut 1 fun K1 hK1 => ?_
    simp only [List.take_succ_cons, List.take_zero]
    go_simp
    refine hK1 _ _ ?_
    clear hK1 K1
    simp only [List.drop_succ_cons, List.drop_zero]
    refine Wops.absA fun V4_1 n4 hV4_1 => ?_
    obtain ⟨q4, hV4_1, s4, kV4_1, f4, r4⟩ := hV4_1
    try simp only [q4] at kV4_1 f4 r4 ⊢
    replace xw := Ext.trans xw hV4_1
    have c4_0 := kV4_1 0 _ rfl
    have c4_1 := kV4_1 1 _ rfl
    clear kV4_1 hV4_1
    clear r4
    refine Wops.cut 1 fun K1 hK1 => ?_
    simp only [List.take_succ_cons, List.take_zero]
    go_simp
    refine hK1 _ _ ?_
    clear hK1 K1
    simp only [List.drop_succ_cons, List.drop_zero]
    refine Wops.absA fun V6_2 n6 hV6_2 => ?_
    obtain ⟨q6, hV6_2, s6, kV6_2, f6, r6⟩ := hV6_2
    try simp only [q6] at kV6_2 f6 r6 ⊢
    replace f4 := Ext.fz hV6_2 c4_0 f4
    replace xw := Ext.trans xw hV6_2
    replace c4_0 := Ext.cell hV6_2 c4_0
    replace c4_1 := Ext.cell hV6_2 c4_1
    have c6_0 := kV6_2 0 _ rfl
    have c6_1 := kV6_2 1 _ rfl
    clear kV6_2 hV6_2
    clear r6
    go_simp
    refine hK _ _ ?_
    clear hK K' gd
    refine Wp.keep [1, 3, 4, 6] fun r2 hkeep => ?_
    obtain ⟨e1_2, e3_2, e4_2, e6_2, -⟩ := hkeep
    simp [go_sem, e0_1, e1_1, e2_1, e3_1] at e1_2 e3_2 e4_2 e6_2
    clear e0_1 e1_1 e2_1 e3_1
    refine Wp.seq ?_
    refine Wp.seqRegion (.inl rfl) (by kernel_rfl) fun K' gd hK hg => ?_
    clear hg
    refine Wops.cut 2 fun K1 hK1 => ?_
    simp only [List.take_succ_cons, List.take_zero]
    go_simp
    refine Wcall (.inl rfl) (few_T hs _ (hV.ext xw) hf) ?_
    rintro v w2 ⟨rfl, hE⟩
    go_simp
    refine hK1 _ _ ?_
    clear hK1 K1
    simp only [List.drop_succ_cons, List.drop_zero]
    have z3 := Below.size hE
    replace f4 := Ext.fz hE c4_0 f4
    replace f6 := Ext.fz hE c6_0 f6
    replace xw := Ext.trans xw hE
    replace c4_0 := Ext.cell hE c4_0
    replace c4_1 := Ext.cell hE c4_1
    replace c6_0 := Ext.cell hE c6_0
    replace c6_1 := Ext.cell hE c6_1
    clear hE
    go_simp
    refine hK _ _ ?_
    clear hK K' gd
    refine Wp.keep [1, 3, 4, 6, 20] fun r4 hkeep => ?_
    obtain ⟨e1_4, e3_4, e4_4, e6_4, e20_4, -⟩ := hkeep
    simp [go_sem, e1_2, e3_2, e4_2, e6_2] at e1_4 e3_4 e4_4 e6_4 e20_4
    clear e1_2 e3_2 e4_2 e6_2
    refine Wp.condF (by go_simp) ?_
    refine Wp.skip ?_
    refine thenK_normal ?_
    refine Wp.seqRegion (.inl rfl) (by kernel_rfl) fun K' gd hK hg => ?_
    clear hg
    refine Wops.cut 3 fun K1 hK1 => ?_
    simp only [List.take_succ_cons, List.take_zero]
    go_simp
    refine Wcall (.inl rfl) (cL1 _ xw) ?_
    rintro v w3 ⟨t1, rfl, hp1, hE⟩
    go_simp
    refine hK1 _ _ ?_
    clear hK1 K1
    simp only [List.drop_succ_cons, List.drop_zero]
    have z5 := Below.size hE
    replace f4 := Ext.fz hE c4_0 f4
    replace f6 := Ext.fz hE c6_0 f6
    replace xw := Ext.trans xw hE
    replace c4_0 := Ext.cell hE c4_0
    replace c4_1 := Ext.cell hE c4_1
    replace c6_0 := Ext.cell hE c6_0
    replace c6_1 := Ext.cell hE c6_1
    clear hE
    go_simp
    refine hK _ _ ?_
    clear hK K' gd
    refine Wp.keep [1, 3, 4, 6, 9, 10] fun r6 hkeep => ?_
    obtain ⟨e1_6, e3_6, e4_6, e6_6, e9_6, e10_6, -⟩ := hkeep
    simp [go_sem, e1_4, e3_4, e4_4, e6_4, e20_4] at e1_6 e3_6 e4_6 e6_6 e9_6 e10_6
    clear e1_4 e3_4 e4_4 e6_4 e20_4
    refine Wp.seqRegion (.inl rfl) (by kernel_rfl) fun K' gd hK hg => ?_
    clear hg
    refine Wops.cut 3 fun K1 hK1 => ?_
    simp only [List.take_succ_cons, List.take_zero]
    go_simp
    refine Wcall (.inl rfl) (cL2 _ xw) ?_
    rintro v w4 ⟨A1, m1, e1, rfl, hq1, hE⟩
    go_simp
    refine hK1 _ _ ?_
    clear hK1 K1
    simp only [List.drop_succ_cons, List.drop_zero]
    have z7 := Below.size hE
    replace f4 := Ext.fz hE c4_0 f4
    replace f6 := Ext.fz hE c6_0 f6
    replace hp1 := hp1.ext hE
    replace xw := Ext.trans xw hE
    replace c4_0 := Ext.cell hE c4_0
    replace c4_1 := Ext.cell hE c4_1
    replace c6_0 := Ext.cell hE c6_0
    replace c6_1 := Ext.cell hE c6_1
    clear hE
    refine Wops.cut 2 fun K1 hK1 => ?_
    simp only [List.take_succ_cons, List.take_zero]
    go_simp
    refine hK1 _ _ ?_
    clear hK1 K1
    simp only [List.drop_succ_cons, List.drop_zero]
    refine Wops.absA fun V11_3 n11 hV11_3 => ?_
    obtain ⟨q11, hV11_3, s11, kV11_3, f11, r11⟩ := hV11_3
    try simp only [q11] at kV11_3 f11 r11 ⊢
    replace f4 := Ext.fz hV11_3 c4_0 f4
    replace f6 := Ext.fz hV11_3 c6_0 f6
    replace hp1 := hp1.ext hV11_3
    replace hq1 := hq1.ext hV11_3
    replace xw := Ext.trans xw hV11_3
    replace c4_0 := Ext.cell hV11_3 c4_0
    replace c4_1 := Ext.cell hV11_3 c4_1
    replace c6_0 := Ext.cell hV11_3 c6_0
    replace c6_1 := Ext.cell hV11_3 c6_1
    have c11_0 := kV11_3 0 _ rfl
    have c11_1 := kV11_3 1 _ rfl
    clear kV11_3 hV11_3
    clear r11
    try simp only [Wops_nil, updO_some, updO_none]
    refine hK _ _ ?_
    clear hK K' gd
    refine Wp.keep [3, 4, 6, 9, 10, 11] fun r8 hkeep => ?_
    obtain ⟨e3_8, e4_8, e6_8, e9_8, e10_8, e11_8, -⟩ := hkeep
    simp [go_sem, e1_6, e3_6, e4_6, e6_6, e9_6, e10_6] at e3_8 e4_8 e6_8 e9_8 e10_8 e11_8
    clear e1_6 e3_6 e4_6 e6_6 e9_6 e10_6
    refine Wp.seqRegion (.inl rfl) (by kernel_rfl) fun K' gd hK hg => ?_
    clear hg
    refine Wops.cut 4 fun K1 hK1 => ?_
    simp only [List.take_succ_cons, List.take_zero]
    go_simp
    refine Wcall (.inl rfl) (Delayed_c _ o i j b _ (hV.ext xw) hf) ?_
    rintro v w5 ⟨v0, rfl, hM, hE⟩
    obtain ⟨B1, m2, e2, B2, m3, e3, rfl, hM⟩ := hM.two
    go_simp
    refine hK1 _ _ ?_
    clear hK1 K1
    simp only [List.drop_succ_cons, List.drop_zero]
    have z9 := Below.size hE
    replace f4 := Ext.fz hE c4_0 f4
    replace f6 := Ext.fz hE c6_0 f6
    replace f11 := Ext.fz hE c11_0 f11
    replace hp1 := hp1.ext hE
    replace hq1 := hq1.ext hE
    replace xw := Ext.trans xw hE
    replace c4_0 := Ext.cell hE c4_0
    replace c4_1 := Ext.cell hE c4_1
    replace c6_0 := Ext.cell hE c6_0
    replace c6_1 := Ext.cell hE c6_1
    replace c11_0 := Ext.cell hE c11_0
    replace c11_1 := Ext.cell hE c11_1
    clear hE
    refine Wops.cut 5 fun K1 hK1 => ?_
    simp only [List.take_succ_cons, List.take_zero]
    go_simp
    refine hK1 _ _ ?_
    clear hK1 K1
    simp only [List.drop_succ_cons, List.drop_zero]
    refine Wops.absA fun V12_4 n12 hV12_4 => ?_
    obtain ⟨q12, hV12_4, s12, kV12_4, f12, r12⟩ := hV12_4
    try simp only [q12] at kV12_4 f12 r12 ⊢
    replace f4 := Ext.fz hV12_4 c4_0 f4
    replace f6 := Ext.fz hV12_4 c6_0 f6
    replace f11 := Ext.fz hV12_4 c11_0 f11
    replace hp1 := hp1.ext hV12_4
    replace hq1 := hq1.ext hV12_4
    replace hM := hM.ext hV12_4
    replace xw := Ext.trans xw hV12_4
    replace c4_0 := Ext.cell hV12_4 c4_0
    replace c4_1 := Ext.cell hV12_4 c4_1
    replace c6_0 := Ext.cell hV12_4 c6_0
    replace c6_1 := Ext.cell hV12_4 c6_1
    replace c11_0 := Ext.cell hV12_4 c11_0
    replace c11_1 := Ext.cell hV12_4 c11_1
    have c12_0 := kV12_4 0 _ rfl
    have c12_1 := kV12_4 1 _ rfl
    clear kV12_4 hV12_4
    clear r12
    go_simp
    refine hK _ _ ?_
    clear hK K' gd
    refine Wp.keep [3, 4, 6, 9, 10, 11, 12, 13] fun r10 hkeep => ?_
    obtain ⟨e3_10, e4_10, e6_10, e9_10, e10_10, e11_10, e12_10, e13_10, -⟩ := hkeep
    simp [go_sem, e3_8, e4_8, e6_8, e9_8, e10_8, e11_8] at e3_10 e4_10 e6_10 e9_10 e10_10 e11_10 e12_10 e13_10
    clear e3_8 e4_8 e6_8 e9_8 e10_8 e11_8
    refine Wp.seqRegion (.inl rfl) (by kernel_rfl) fun K' gd hK hg => ?_
    clear hg
    refine Wops.cut 4 fun K1 hK1 => ?_
    simp only [List.take_succ_cons, List.take_zero]
    go_simp
    refine Wcall (.inl rfl) (delayedS_c _ o i j b _ (hV.ext xw) hf) ?_
    rintro v w6 ⟨G1, m4, e4, G2, m5, e5, rfl, hN, hE⟩
    go_simp
    refine hK1 _ _ ?_
    clear hK1 K1
    simp only [List.drop_succ_cons, List.drop_zero]
    have z11 := Below.size hE
    replace f4 := Ext.fz hE c4_0 f4
    replace f6 := Ext.fz hE c6_0 f6
    replace f11 := Ext.fz hE c11_0 f11
    replace f12 := Ext.fz hE c12_0 f12
    replace hp1 := hp1.ext hE
    replace hq1 := hq1.ext hE
    replace hM := hM.ext hE
    replace xw := Ext.trans xw hE
    replace c4_0 := Ext.cell hE c4_0
    replace c4_1 := Ext.cell hE c4_1
    replace c6_0 := Ext.cell hE c6_0
    replace c6_1 := Ext.cell hE c6_1
    replace c11_0 := Ext.cell hE c11_0
    replace c11_1 := Ext.cell hE c11_1
    replace c12_0 := Ext.cell hE c12_0
    replace c12_1 := Ext.cell hE c12_1
    clear hE
    refine Wops.cut 2 fun K1 hK1 => ?_
    simp only [List.take_succ_cons, List.take_zero]
    go_simp
    refine hK1 _ _ ?_
    clear hK1 K1
    simp only [List.drop_succ_cons, List.drop_zero]
    refine Wops.absA fun V14_5 n14 hV14_5 => ?_
    obtain ⟨q14, hV14_5, s14, kV14_5, f14, r14⟩ := hV14_5
    try simp only [q14] at kV14_5 f14 r14 ⊢
    replace f4 := Ext.fz hV14_5 c4_0 f4
    replace f6 := Ext.fz hV14_5 c6_0 f6
    replace f11 := Ext.fz hV14_5 c11_0 f11
    replace f12 := Ext.fz hV14_5 c12_0 f12
    replace hp1 := hp1.ext hV14_5
    replace hq1 := hq1.ext hV14_5
    replace hM := hM.ext hV14_5
    replace hN := hN.ext hV14_5
    replace xw := Ext.trans xw hV14_5
    replace c4_0 := Ext.cell hV14_5 c4_0
    replace c4_1 := Ext.cell hV14_5 c4_1
    replace c6_0 := Ext.cell hV14_5 c6_0
    replace c6_1 := Ext.cell hV14_5 c6_1
    replace c11_0 := Ext.cell hV14_5 c11_0
    replace c11_1 := Ext.cell hV14_5 c11_1
    replace c12_0 := Ext.cell hV14_5 c12_0
    replace c12_1 := Ext.cell hV14_5 c12_1
    have c14_0 := kV14_5 0 _ rfl
    have c14_1 := kV14_5 1 _ rfl
    have c14_2 := kV14_5 2 _ rfl
    clear kV14_5 hV14_5
    clear r14
    try simp only [Wops_nil, updO_some, updO_none]
    refine hK _ _ ?_
    clear hK K' gd
    refine Wp.keep [3, 4, 6, 9, 10, 11, 12, 13, 14] fun r12 hkeep => ?_
    obtain ⟨e3_12, e4_12, e6_12, e9_12, e10_12, e11_12, e12_12, e13_12, e14_12, -⟩ := hkeep
    simp [go_sem, e3_10, e4_10, e6_10, e9_10, e10_10, e11_10, e12_10, e13_10] at e3_12 e4_12 e6_12 e9_12 e10_12 e11_12 e12_12 e13_12 e14_12
    clear e3_10 e4_10 e6_10 e9_10 e10_10 e11_10 e12_10 e13_10
    refine Wp.seqRegion (.inl rfl) (by kernel_rfl) fun K' gd hK hg => ?_
    clear hg
    refine Wops.cut 4 fun K1 hK1 => ?_
    simp only [List.take_succ_cons, List.take_zero]
    go_simp
    refine Wcall (.inl rfl) (cR1 _ xw) ?_
    rintro v w7 ⟨t2, rfl, hp2, hE⟩
    go_simp
    refine hK1 _ _ ?_
    clear hK1 K1
    simp only [List.drop_succ_cons, List.drop_zero]
    have z13 := Below.size hE
    replace f4 := Ext.fz hE c4_0 f4
    replace f6 := Ext.fz hE c6_0 f6
    replace f11 := Ext.fz hE c11_0 f11
    replace f12 := Ext.fz hE c12_0 f12
    replace f14 := Ext.fz hE c14_0 f14
    replace hp1 := hp1.ext hE
    replace hq1 := hq1.ext hE
    replace hM := hM.ext hE
    replace hN := hN.ext hE
    replace xw := Ext.trans xw hE
    replace c4_0 := Ext.cell hE c4_0
    replace c4_1 := Ext.cell hE c4_1
    replace c6_0 := Ext.cell hE c6_0
    replace c6_1 := Ext.cell hE c6_1
    replace c11_0 := Ext.cell hE c11_0
    replace c11_1 := Ext.cell hE c11_1
    replace c12_0 := Ext.cell hE c12_0
    replace c12_1 := Ext.cell hE c12_1
    replace c14_0 := Ext.cell hE c14_0
    replace c14_1 := Ext.cell hE c14_1
    replace c14_2 := Ext.cell hE c14_2
    clear hE
    go_simp
    refine hK _ _ ?_
    clear hK K' gd
    refine Wp.keep [3, 4, 6, 9, 10, 11, 12, 13, 14, 15, 16] fun r14 hkeep => ?_
    obtain ⟨e3_14, e4_14, e6_14, e9_14, e10_14, e11_14, e12_14, e13_14, e14_14, e15_14, e16_14, -⟩ := hkeep
    simp [go_sem, e3_12, e4_12, e6_12, e9_12, e10_12, e11_12, e12_12, e13_12, e14_12] at e3_14 e4_14 e6_14 e9_14 e10_14 e11_14 e12_14 e13_14 e14_14 e15_14 e16_14
    clear e3_12 e4_12 e6_12 e9_12 e10_12 e11_12 e12_12 e13_12 e14_12
    refine Wp.seqRegion (.inl rfl) (by kernel_rfl) fun K' gd hK hg => ?_
    clear hg
    refine Wops.cut 4 fun K1 hK1 => ?_
    simp only [List.take_succ_cons, List.take_zero]
    go_simp
    refine Wcall (.inl rfl) (cR2 _ xw) ?_
    rintro v w8 ⟨A2, m6, e6, rfl, hq2, hE⟩
    go_simp
    refine hK1 _ _ ?_
    clear hK1 K1
    simp only [List.drop_succ_cons, List.drop_zero]
    have z15 := Below.size hE
    replace f4 := Ext.fz hE c4_0 f4
    replace f6 := Ext.fz hE c6_0 f6
    replace f11 := Ext.fz hE c11_0 f11
    replace f12 := Ext.fz hE c12_0 f12
    replace f14 := Ext.fz hE c14_0 f14
    replace hp1 := hp1.ext hE
    replace hq1 := hq1.ext hE
    replace hM := hM.ext hE
    replace hN := hN.ext hE
    replace hp2 := hp2.ext hE
    replace xw := Ext.trans xw hE
    replace c4_0 := Ext.cell hE c4_0
    replace c4_1 := Ext.cell hE c4_1
    replace c6_0 := Ext.cell hE c6_0
    replace c6_1 := Ext.cell hE c6_1
    replace c11_0 := Ext.cell hE c11_0
    replace c11_1 := Ext.cell hE c11_1
    replace c12_0 := Ext.cell hE c12_0
    replace c12_1 := Ext.cell hE c12_1
    replace c14_0 := Ext.cell hE c14_0
    replace c14_1 := Ext.cell hE c14_1
    replace c14_2 := Ext.cell hE c14_2
    clear hE
    refine Wops.cut 2 fun K1 hK1 => ?_
    simp only [List.take_succ_cons, List.take_zero]
    go_simp
    refine hK1 _ _ ?_
    clear hK1 K1
    simp only [List.drop_succ_cons, List.drop_zero]
    refine Wops.absA fun V17_6 n17 hV17_6 => ?_
    obtain ⟨q17, hV17_6, s17, kV17_6, f17, r17⟩ := hV17_6
    try simp only [q17] at kV17_6 f17 r17 ⊢
    replace f4 := Ext.fz hV17_6 c4_0 f4
    replace f6 := Ext.fz hV17_6 c6_0 f6
    replace f11 := Ext.fz hV17_6 c11_0 f11
    replace f12 := Ext.fz hV17_6 c12_0 f12
    replace f14 := Ext.fz hV17_6 c14_0 f14
    replace hp1 := hp1.ext hV17_6
    replace hq1 := hq1.ext hV17_6
    replace hM := hM.ext hV17_6
    replace hN := hN.ext hV17_6
    replace hp2 := hp2.ext hV17_6
    replace hq2 := hq2.ext hV17_6
    replace xw := Ext.trans xw hV17_6
    replace c4_0 := Ext.cell hV17_6 c4_0
    replace c4_1 := Ext.cell hV17_6 c4_1
    replace c6_0 := Ext.cell hV17_6 c6_0
    replace c6_1 := Ext.cell hV17_6 c6_1
    replace c11_0 := Ext.cell hV17_6 c11_0
    replace c11_1 := Ext.cell hV17_6 c11_1
    replace c12_0 := Ext.cell hV17_6 c12_0
    replace c12_1 := Ext.cell hV17_6 c12_1
    replace c14_0 := Ext.cell hV17_6 c14_0
    replace c14_1 := Ext.cell hV17_6 c14_1
    replace c14_2 := Ext.cell hV17_6 c14_2
    have c17_0 := kV17_6 0 _ rfl
    have c17_1 := kV17_6 1 _ rfl
    clear kV17_6 hV17_6
    clear r17
    try simp only [Wops_nil, updO_some, updO_none]
    refine hK _ _ ?_
    clear hK K' gd
    refine Wp.keep [9, 10, 11, 12, 13, 14, 15, 16, 17] fun r16 hkeep => ?_
    obtain ⟨e9_16, e10_16, e11_16, e12_16, e13_16, e14_16, e15_16, e16_16, e17_16, -⟩ := hkeep
    simp [go_sem, e3_14, e4_14, e6_14, e9_14, e10_14, e11_14, e12_14, e13_14, e14_14, e15_14, e16_14] at e9_16 e10_16 e11_16 e12_16 e13_16 e14_16 e15_16 e16_16 e17_16
    clear e3_14 e4_14 e6_14 e9_14 e10_14 e11_14 e12_14 e13_14 e14_14 e15_14 e16_14
    refine Wp.seqRegion (.inl rfl) (by kernel_rfl) fun K' gd hK hg => ?_
    have g1 : gd 1 = some 54 := hg 1
    have g7 : gd 7 = some 60 := hg 7
    have g13 : gd 13 = some 66 := hg 13
    have g19 : gd 19 = some 72 := hg 19
    have g25 : gd 25 = some 78 := hg 25
    have g31 : gd 31 = some 84 := hg 31
    clear hg
    refine Wops.cut 1 fun K1 hK1 => ?_
    simp only [List.take_succ_cons, List.take_zero]
    go_simp
    refine Wcall (.inl rfl) (sanity_c _) ?_
    rintro v w9 ⟨rfl, hE⟩
    go_simp
    refine hK1 _ _ ?_
    clear hK1 K1
    simp only [List.drop_succ_cons, List.drop_zero]
    have z17 := Below.size hE
    replace f4 := Ext.fz hE c4_0 f4
    replace f6 := Ext.fz hE c6_0 f6
    replace f11 := Ext.fz hE c11_0 f11
    replace f12 := Ext.fz hE c12_0 f12
    replace f14 := Ext.fz hE c14_0 f14
    replace f17 := Ext.fz hE c17_0 f17
    replace hp1 := hp1.ext hE
    replace hq1 := hq1.ext hE
    replace hM := hM.ext hE
    replace hN := hN.ext hE
    replace hp2 := hp2.ext hE
    replace hq2 := hq2.ext hE
    replace xw := Ext.trans xw hE
    replace c4_0 := Ext.cell hE c4_0
    replace c4_1 := Ext.cell hE c4_1
    replace c6_0 := Ext.cell hE c6_0
    replace c6_1 := Ext.cell hE c6_1
    replace c11_0 := Ext.cell hE c11_0
    replace c11_1 := Ext.cell hE c11_1
    replace c12_0 := Ext.cell hE c12_0
    replace c12_1 := Ext.cell hE c12_1
    replace c14_0 := Ext.cell hE c14_0
    replace c14_1 := Ext.cell hE c14_1
    replace c14_2 := Ext.cell hE c14_2
    replace c17_0 := Ext.cell hE c17_0
    replace c17_1 := Ext.cell hE c17_1
    clear hE
    refine Wops.cut 5 fun K1 hK1 => ?_
    simp only [List.take_succ_cons, List.take_zero]
    go_simp
    refine Wcall (.inl rfl) (same_T _ _ Tb _ hp1 hq1 hl1) ?_
    rintro v w10 ⟨rfl, hE⟩
    go_simp
    refine hK1 _ _ ?_
    clear hK1 K1
    simp only [List.drop_succ_cons, List.drop_zero]
    have z18 := Below.size hE
    replace f4 := Ext.fz hE c4_0 f4
    replace f6 := Ext.fz hE c6_0 f6
    replace f11 := Ext.fz hE c11_0 f11
    replace f12 := Ext.fz hE c12_0 f12
    replace f14 := Ext.fz hE c14_0 f14
    replace f17 := Ext.fz hE c17_0 f17
    replace hp1 := hp1.ext hE
    replace hq1 := hq1.ext hE
    replace hM := hM.ext hE
    replace hN := hN.ext hE
    replace hp2 := hp2.ext hE
    replace hq2 := hq2.ext hE
    replace xw := Ext.trans xw hE
    replace c4_0 := Ext.cell hE c4_0
    replace c4_1 := Ext.cell hE c4_1
    replace c6_0 := Ext.cell hE c6_0
    replace c6_1 := Ext.cell hE c6_1
    replace c11_0 := Ext.cell hE c11_0
    replace c11_1 := Ext.cell hE c11_1
    replace c12_0 := Ext.cell hE c12_0
    replace c12_1 := Ext.cell hE c12_1
    replace c14_0 := Ext.cell hE c14_0
    replace c14_1 := Ext.cell hE c14_1
    replace c14_2 := Ext.cell hE c14_2
    replace c17_0 := Ext.cell hE c17_0
    replace c17_1 := Ext.cell hE c17_1
    clear hE
    refine Wops.cut 12 fun K1 hK1 => ?_
    simp only [List.take_succ_cons, List.take_zero]
    go_simp
    refine Wcall (.inl rfl) (same_O _ _ (delayO o i j b) _ hM hN (delayO_fits3 o i j b)) ?_
    rintro v w11 ⟨rfl, hE⟩
    go_simp
    refine hK1 _ _ ?_
    clear hK1 K1
    simp only [List.drop_succ_cons, List.drop_zero]
    have z19 := Below.size hE
    replace f4 := Ext.fz hE c4_0 f4
    replace f6 := Ext.fz hE c6_0 f6
    replace f11 := Ext.fz hE c11_0 f11
    replace f12 := Ext.fz hE c12_0 f12
    replace f14 := Ext.fz hE c14_0 f14
    replace f17 := Ext.fz hE c17_0 f17
    replace hp1 := hp1.ext hE
    replace hq1 := hq1.ext hE
    replace hM := hM.ext hE
    replace hN := hN.ext hE
    replace hp2 := hp2.ext hE
    replace hq2 := hq2.ext hE
    replace xw := Ext.trans xw hE
    replace c4_0 := Ext.cell hE c4_0
    replace c4_1 := Ext.cell hE c4_1
    replace c6_0 := Ext.cell hE c6_0
    replace c6_1 := Ext.cell hE c6_1
    replace c11_0 := Ext.cell hE c11_0
    replace c11_1 := Ext.cell hE c11_1
    replace c12_0 := Ext.cell hE c12_0
    replace c12_1 := Ext.cell hE c12_1
    replace c14_0 := Ext.cell hE c14_0
    replace c14_1 := Ext.cell hE c14_1
    replace c14_2 := Ext.cell hE c14_2
    replace c17_0 := Ext.cell hE c17_0
    replace c17_1 := Ext.cell hE c17_1
    clear hE
    refine Wops.cut 12 fun K1 hK1 => ?_
    simp only [List.take_succ_cons, List.take_zero]
    go_simp
    refine Wcall (.inl rfl) (same_S _ _ Rl _ hp2 hq2 hl2) ?_
    rintro v w12 ⟨rfl, hE⟩
    go_simp
    refine hK1 _ _ ?_
    clear hK1 K1
    simp only [List.drop_succ_cons, List.drop_zero]
    have z20 := Below.size hE
    replace f4 := Ext.fz hE c4_0 f4
    replace f6 := Ext.fz hE c6_0 f6
    replace f11 := Ext.fz hE c11_0 f11
    replace f12 := Ext.fz hE c12_0 f12
    replace f14 := Ext.fz hE c14_0 f14
    replace f17 := Ext.fz hE c17_0 f17
    replace hp1 := hp1.ext hE
    replace hq1 := hq1.ext hE
    replace hM := hM.ext hE
    replace hN := hN.ext hE
    replace hp2 := hp2.ext hE
    replace hq2 := hq2.ext hE
    replace xw := Ext.trans xw hE
    replace c4_0 := Ext.cell hE c4_0
    replace c4_1 := Ext.cell hE c4_1
    replace c6_0 := Ext.cell hE c6_0
    replace c6_1 := Ext.cell hE c6_1
    replace c11_0 := Ext.cell hE c11_0
    replace c11_1 := Ext.cell hE c11_1
    replace c12_0 := Ext.cell hE c12_0
    replace c12_1 := Ext.cell hE c12_1
    replace c14_0 := Ext.cell hE c14_0
    replace c14_1 := Ext.cell hE c14_1
    replace c14_2 := Ext.cell hE c14_2
    replace c17_0 := Ext.cell hE c17_0
    replace c17_1 := Ext.cell hE c17_1
    clear hE
    go_simp
    refine hK _ _ ?_
    clear hK K' gd g1 g7 g13 g19 g25 g31
    refine Wp.keep [8] fun r21 hkeep => ?_
    obtain ⟨e8_21, -⟩ := hkeep
    simp [go_sem, e9_16, e10_16, e11_16, e12_16, e13_16, e14_16, e15_16, e16_16, e17_16] at e8_21
    clear e9_16 e10_16 e11_16 e12_16 e13_16 e14_16 e15_16 e16_16 e17_16
    refine Wp.ret ?_
    refine endK_tmp Tryz.results4 (by decide) ?_
    rw [e8_21]
    exact ⟨by simp, xw⟩
  · skip
    refine Wp.seqRegion (.inl rfl) (by kernel_rfl) fun K' gd hK hg => ?_
    clear hg
    refine Wops.cut 1 fun K1 hK1 => ?_
    simp only [List.take_succ_cons, List.take_zero]
    go_simp
    refine hK1 _ _ ?_
    clear hK1 K1
    simp only [List.drop_succ_cons, List.drop_zero]
    refine Wops.absA fun V4_7 n4 hV4_7 => ?_
    obtain ⟨q4, hV4_7, s4, kV4_7, f4, r4⟩ := hV4_7
    try simp only [q4] at kV4_7 f4 r4 ⊢
    replace xw := Ext.trans xw hV4_7
    have c4_0 := kV4_7 0 _ rfl
    have c4_1 := kV4_7 1 _ rfl
    clear kV4_7 hV4_7
    clear r4
    refine Wops.cut 1 fun K1 hK1 => ?_
    simp only [List.take_succ_cons, List.take_zero]
    go_simp
    refine hK1 _ _ ?_
    clear hK1 K1
    simp only [List.drop_succ_cons, List.drop_zero]
    refine Wops.absA fun V6_8 n6 hV6_8 => ?_
    obtain ⟨q6, hV6_8, s6, kV6_8, f6, r6⟩ := hV6_8
    try simp only [q6] at kV6_8 f6 r6 ⊢
    replace f4 := Ext.fz hV6_8 c4_0 f4
    replace xw := Ext.trans xw hV6_8
    replace c4_0 := Ext.cell hV6_8 c4_0
    replace c4_1 := Ext.cell hV6_8 c4_1
    have c6_0 := kV6_8 0 _ rfl
    have c6_1 := kV6_8 1 _ rfl
    clear kV6_8 hV6_8
    clear r6
    go_simp
    refine hK _ _ ?_
    clear hK K' gd
    refine Wp.keep [1, 3, 4, 6] fun r22 hkeep => ?_
    obtain ⟨e1_22, e3_22, e4_22, e6_22, -⟩ := hkeep
    simp [go_sem, e0_1, e1_1, e2_1, e3_1] at e1_22 e3_22 e4_22 e6_22
    clear e0_1 e1_1 e2_1 e3_1
    refine Wp.seq ?_
    refine Wp.seqRegion (.inl rfl) (by kernel_rfl) fun K' gd hK hg => ?_
    clear hg
    refine Wops.cut 2 fun K1 hK1 => ?_
    simp only [List.take_succ_cons, List.take_zero]
    go_simp
    refine Wcall (.inl rfl) (few_F hs _ (hV.ext xw) hf) ?_
    rintro v w2 ⟨rfl, hE⟩
    go_simp
    refine hK1 _ _ ?_
    clear hK1 K1
    simp only [List.drop_succ_cons, List.drop_zero]
    have z23 := Below.size hE
    replace f4 := Ext.fz hE c4_0 f4
    replace f6 := Ext.fz hE c6_0 f6
    replace xw := Ext.trans xw hE
    replace c4_0 := Ext.cell hE c4_0
    replace c4_1 := Ext.cell hE c4_1
    replace c6_0 := Ext.cell hE c6_0
    replace c6_1 := Ext.cell hE c6_1
    clear hE
    go_simp
    refine hK _ _ ?_
    clear hK K' gd
    refine Wp.keep [1, 3, 4, 6, 20] fun r24 hkeep => ?_
    obtain ⟨e1_24, e3_24, e4_24, e6_24, e20_24, -⟩ := hkeep
    simp [go_sem, e1_22, e3_22, e4_22, e6_22] at e1_24 e3_24 e4_24 e6_24 e20_24
    clear e1_22 e3_22 e4_22 e6_22
    refine Wp.condT (by go_simp) ?_
    refine Wp.seqRegion (.inl rfl) (by kernel_rfl) fun K' gd hK hg => ?_
    clear hg
    refine Wops.cut 1 fun K1 hK1 => ?_
    simp only [List.take_succ_cons, List.take_zero]
    go_simp
    refine Wcall (.inl rfl) (sanity_c _) ?_
    rintro v w3 ⟨rfl, hE⟩
    go_simp
    refine hK1 _ _ ?_
    clear hK1 K1
    simp only [List.drop_succ_cons, List.drop_zero]
    have z25 := Below.size hE
    replace f4 := Ext.fz hE c4_0 f4
    replace f6 := Ext.fz hE c6_0 f6
    replace xw := Ext.trans xw hE
    replace c4_0 := Ext.cell hE c4_0
    replace c4_1 := Ext.cell hE c4_1
    replace c6_0 := Ext.cell hE c6_0
    replace c6_1 := Ext.cell hE c6_1
    clear hE
    go_simp
    refine hK _ _ ?_
    clear hK K' gd
    refine Wp.keep [8] fun r26 hkeep => ?_
    obtain ⟨e8_26, -⟩ := hkeep
    simp [go_sem, e1_24, e3_24, e4_24, e6_24, e20_24] at e8_26
    clear e1_24 e3_24 e4_24 e6_24 e20_24
    refine Wp.ret ?_
    refine thenK_ret ?_
    refine endK_tmp Tryz.results4 (by decide) ?_
    rw [e8_26]
    exact ⟨rfl, xw⟩
theorem openSt {w : World} {v : Value} (hv : ∃ cs, v = .agg cs) (h : Rd Tryz.prog w 56 v.cells.toList) : ∃ x y, v = .agg #[.int .i64 x, .int .i64 y] := by
  obtain ⟨cs, rfl⟩ := hv
  have e1 : Tryz.prog.cellsOf 56 = 2 := by kernel_rfl
  have e2 : Tryz.prog.cellsOf 3 = 1 := by kernel_rfl
  obtain ⟨hl, hs⟩ := h.struct Tryz.underlying56
  have s0 : Rd Tryz.prog w 3 (((Value.agg cs).cells.toList.drop 0).take (Tryz.prog.cellsOf 3)) := hs 0 _ rfl
  have s1 : Rd Tryz.prog w 3 (((Value.agg cs).cells.toList.drop 1).take (Tryz.prog.cellsOf 3)) := hs 1 _ rfl
  rw [e1] at hl
  simp only [Value.cells] at hl s0 s1
  rw [e2] at s0 s1
  clear e1 e2
  obtain ⟨l⟩ := cs
  obtain ⟨c0, c1, rfl⟩ := list_two hl
  obtain ⟨x, hx, -⟩ := s0.int Tryz.underlying3
  obtain ⟨y, hy, -⟩ := s1.int Tryz.underlying3
  refine ⟨x, y, ?_⟩
  have hx' : c0 = .int .i64 x := by simpa using hx
  have hy' : c1 = .int .i64 y := by simpa using hy
  rw [hx', hy']
end Go.Proofs.YtnfagcccgmakdaaGreat
namespace Go.Proofs.YtnfagcccgmakdaaGreat
open Go.ChangeShapes Go.WideShapes Go.RowKit Go.Wk Go.Proofs
theorem own : ownKnob Tryz.prog.godebug = none := by kernel_rfl
theorem laidOut : laidOutB Tryz.prog = true := by kernel_rfl
set_option maxRecDepth 100000 in
theorem orderLater_lifted (os : Os) (started : os.Started) (H : Type) (enc : TypeId × Value → H) :
    ReturnsInHanded {} Tryz.checked os 4 .any (Rows.orderLaterSpec.pre6 enc Tryz.prog Tryz.f4 Rows.orderLaterRow.domain false) (Rows.orderLaterSpec.post enc Tryz.prog Tryz.f4 false true false false) := by
  refine returnsInHanded_of_change_sized (C := Tryz.checked) own started (by kernel_rfl) Tryz.func4
    (ChangeSpec.witness6 (enc := enc) (C := Tryz.checked) false ⟨#[], #[.agg #[.slice none 0 0, .slice none 0 0], .int .i64 0, .agg #[.int .i64 0, .int .i64 0], .int .i64 0], []⟩ 8 (by kernel_rfl) (by kernel_rfl) (by kernel_rfl) (by kernel_rfl)) ?_
  intro W base args ds gs before hval0 hW0 _ hsz0 _
  have hval : ∀ (j : Nat) t v, Tryz.f4.params[j]? = some t → args[j]? = some v → Value.okWide Tryz.prog W .any base t v := hval0
  have hW : DataW.Whole enc Tryz.prog Tryz.f4.params.toList [] false W args.toList ds gs before := hW0
  have hsz : (DataW.weightsEach Tryz.prog (Tryz.f4.params.toList ++ []) (ds ++ gs)).all (· ≤ reachBytes) = true := hsz0
  clear hval0 hsz0
  obtain ⟨p, q, hA, hV, -, -, -⟩ := hW
  obtain ⟨rfl, -⟩ := trodVars_none hV
  rw [List.append_nil, List.append_nil] at hsz
  rw [Tryz.params4] at hA hsz hval
  obtain ⟨hlen, hR⟩ := Rd.of_args hA hsz
  obtain ⟨v0, v1, v2, v3, d0, d1, d2, d3, p0, p1, p2, p3, rfl, rfl, -, -, -, -, -⟩ := trodAll_four hA
  have r0 := hR 0 _ v0 rfl rfl
  have r1 := hR 1 _ v1 rfl rfl
  have r2 := hR 2 _ v2 rfl rfl
  have r3 := hR 3 _ v3 rfl rfl
  obtain ⟨cs0, rfl, -⟩ := okWide_struct Tryz.underlying25 (hval 0 _ v0 rfl rfl)
  obtain ⟨m1, rfl⟩ := okWide_int Tryz.underlying3 (hval 1 _ v1 rfl rfl)
  obtain ⟨cs2, rfl, -⟩ := okWide_struct Tryz.underlying56 (hval 2 _ v2 rfl rfl)
  obtain ⟨m3, rfl⟩ := okWide_int Tryz.underlying3 (hval 3 _ v3 rfl rfl)
  obtain ⟨x0, h0, f0⟩ := openO ⟨cs0, rfl⟩ r0
  obtain ⟨x1, hm1, f1⟩ := r1.int Tryz.underlying3
  have e1 : x1 = m1 := by
    have e : [Value.int .i64 m1] = [Value.int .i64 x1] := hm1
    injection e with e _
    injection e with _ e
    exact e.symm
  subst e1
  obtain ⟨x2, y2, h2⟩ := openSt ⟨cs2, rfl⟩ r2
  injection h2 with h2
  subst h2
  obtain ⟨x3, hm3, f3⟩ := r3.int Tryz.underlying3
  have e3 : x3 = m3 := by
    have e : [Value.int .i64 m3] = [Value.int .i64 x3] := hm3
    injection e with e _
    injection e with _ e
    exact e.symm
  subst e3
  refine (later_c _ x0 x1 x2 y2 x3 W h0 f0).calls.mono fun e W' ⟨v, he, hv, hE⟩ => ?_
  subst he; subst hv
  exact ⟨_, rfl, law_post hW0 laidOut rfl (by rw [Tryz.params4]; intro t ht; simp at ht; rcases ht with rfl | rfl | rfl | rfl <;> exact ⟨by kernel_rfl, of_decide_eq_true (by kernel_rfl)⟩) rfl Tryz.underlying4 rfl rfl rfl hE⟩
theorem orderLater_holds : Rows.OrderLaterSaid :=
  OpenClaim.holds_of_wide 4 Tryz.f4 rfl rfl rfl rfl rfl rfl rfl ⟨rfl, rfl, rfl, rfl, rfl⟩ rfl rfl rfl rfl rfl (by kernel_rfl) Tryz.func4 (by kernel_rfl)
    (of_decide_eq_true (by kernel_rfl)) (by unfold Func.isWrapper; first | (rw [if_pos (by decide +kernel)]; kernel_rfl) | (rw [if_neg (by decide +kernel)]; exact ⟨rfl, rfl⟩))
    (fun os started H enc _ => orderLater_lifted os started H enc)
#print axioms orderLater_holds
end Go.Proofs.YtnfagcccgmakdaaGreat
