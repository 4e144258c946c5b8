/- Rules for walks. -/
import Derived.OrdersIn
import Derived.Below
import Derived.TacticsIn
import Derived.RangeFuncOwn
import Derived.RangeFuncLeaves
import Derived.WalkKit
import Derived.RangeFuncNested
import Derived.IntWalk
import Derived.KernelRfl
import Derived.ScopeJumps
import Derived.Maps.OwnSet
import Derived.Carry
import Derived.Deep.Strs
import Derived.SizedLaws
import Derived.ProofKit
set_option linter.all false
namespace Go.Wk
open Go.RowKit
def Ext (w w' : World) : Prop := Below w.heap.size w w'
theorem Ext.refl (w : World) : Ext w w := Below.refl _ _
theorem Ext.trans {a b c : World} (h : Ext a b) (k : Ext b c) : Ext a c := Below.trans h (Below.mono k h.size)
theorem Ext.cells {a b : World} (h : Ext a b) : ∀ k o,k < a.heap.size → b.cell? ⟨k,o,none⟩ = a.cell? ⟨k,o,none⟩ := fun k o hk => Below.cell (p := ⟨k,o,none⟩) h hk
theorem Ext.drew {a b : World} (h : Ext a b) : Ext a b.drew := Below.drew h
theorem Ext.alloc {a b : World} (h : Ext a b) (o : Obj) : Ext a (b.alloc o) := Below.alloc h h.size o
section
variable {F : Fence} {n : Nat} {P : Program} {ops : Array Oper} {T : List Nat}
def Kept (T : List Nat) (i : Nat) (w w' : World) : Prop := T.contains i = false → Ext w w'
def stepE (F : Fence) (n : Nat) (P : Program) (ops : Array Oper) (T : List Nat) (i : Nat) (K : Act → World → Prop) (a : Act) (w : World) : Prop :=
 match ops[i]? with
 | none => False
 | some o =>
   if Region.wanted o (yielded ops a.tmps) then o.wpIn F n P a w (fun a' w' => Kept T i w w' ∧ K a' w') (fun _ _ _ => False)
   else K (a.put o.dst undef) w
def anyE (F : Fence) (n : Nat) (P : Program) (ops : Array Oper) (T : List Nat) (K : Act → World → Prop) : Nat → Array Bool → Act → World → Prop
 | 0,listed,a,w => Region.ready .any ops listed = [] ∧ K a w
 | f + 1,listed,a,w =>
   (Region.ready .any ops listed = [] → K a w) ∧
   ∀ i ∈ Region.ready .any ops listed,stepE F n P ops T i (anyE F n P ops T K f (listed.setIfInBounds i true)) a w
theorem wpIn_mono2 {o : Oper} {a : Act} {w : World} {K K' : Act → World → Prop} {Q : Exit → Act → World → Prop} (h : ∀ a w,K a w → K' a w)
  (hh : o.wpIn F n P a w K (fun _ _ _ => False)) : o.wpIn F n P a w K' Q := by
 unfold Oper.wpIn at *;refine ⟨hh.1,?_⟩;have hh := hh.2
 generalize (o.semAt F.round a.eval).run P w = r at *
 cases r with
 | ok x w' =>
   cases x <;> simp only [Oper.uponIn] at hh ⊢ <;>
    first
     | exact h _ _ hh
     | exact ⟨hh.1,CallsIn.mono hh.2 (fun e w'' he => by cases e <;> first | exact h _ _ he | exact he.elim | (obtain ⟨_,_,hf⟩ := he;exact hf.elim))⟩
     | exact ⟨hh.1,RowsIn.mono hh.2 (fun _ _ he => h _ _ he)⟩
     | exact ⟨hh.1,RoundIn.mono hh.2 (fun e w'' he => by cases e <;> first | exact h _ _ he | exact he.elim | (obtain ⟨_,_,hf⟩ := he;exact hf.elim))⟩
     | exact hh.elim
 | halt x w' => cases x <;> simp only [Oper.uponIn] at hh ⊢ <;> exact hh.elim
theorem stepE_mono {i : Nat} {a : Act} {w : World} {K K' : Act → World → Prop} (h : ∀ a' w',Kept T i w w' → K a' w' → K' a' w')
  (hh : stepE F n P ops T i K a w) : stepE F n P ops T i K' a w := by
 unfold stepE at *
 split
 ·rename_i e;rw [e] at hh;exact hh
 ·rename_i o e
  rw [e] at hh
  dsimp only at hh
  split
  ·rename_i hw;rw [if_pos hw] at hh;exact wpIn_mono2 (fun a' w' hk => ⟨hk.1,h a' w' hk.1 hk.2⟩) hh
  ·rename_i hw;rw [if_neg hw] at hh;exact h _ _ (fun _ => Ext.refl _) hh
theorem anyE_sound (hF : ∀ f,F.fn f) {Q : Exit → Act → World → Prop} {K : Act → World → Prop} (hK : ∀ a w,K a w → Q .normal a w) :
  ∀ (f : Nat) (listed : Array Bool) (a : Act) (w : World),anyE F n P ops T K f listed a w → wpAnyIn F n P .any ops Q f listed a w := by
 intro f
 induction f with
 | zero => exact fun listed a w h => ⟨h.1,hK _ _ h.2⟩
 | succ f ih =>
   intro listed a w h;refine ⟨fun h0 => hK _ _ (h.1 h0),fun i hi => ?_⟩;have hs := h.2 i hi;unfold stepE at hs;unfold wpOpIn
   split
   ·rename_i e;rw [e] at hs;exact hs.elim
   ·rename_i o e
    rw [e] at hs
    dsimp only at hs
    split
    ·rename_i hw;rw [if_pos hw] at hs;exact wpIn_mono2 (fun a' w' hk => ih _ _ _ hk.2) hs
    ·rename_i hw;rw [if_neg hw] at hs;exact ⟨fun f _ => hF f,ih _ _ _ hs⟩
def Reads (P : Program) (ops : Array Oper) (o : Oper) (v : Value) (a : Act) (w : World) : Prop :=
 (Region.wanted o (yielded ops a.tmps) = true ∧ ∀ w',Ext w w' → (execOp a.eval o).run P w' = .ok (.value v) w') ∨
 (Region.wanted o (yielded ops a.tmps) = false ∧ v = undef)
theorem Reads.ext {o : Oper} {v : Value} {a : Act} {w w' : World} (h : Reads P ops o v a w) (he : Ext w w') : Reads P ops o v a w' := by
 rcases h with ⟨h1,h2⟩ | h
 ·exact .inl ⟨h1,fun w'' hw => h2 w'' (he.trans hw)⟩
 ·exact .inr h
theorem Reads.of_same {o : Oper} {v : Value} {a a' : Act} {w : World} (hy : Reads P ops o v a w) (he : execOp a'.eval o = execOp a.eval o)
  (hw : Region.wanted o (yielded ops a'.tmps) = Region.wanted o (yielded ops a.tmps)) : Reads P ops o v a' w := by
 unfold Reads at *;rw [he,hw];exact hy
def noDefer (ops : Array Oper) : Bool := ops.all fun o => match o.op with | .defer _ => false | .select .. => false | _ => true
theorem noDefer_spec (h : noDefer ops = true) {j : Nat} {o : Oper} (ho : ops[j]? = some o) : (∀ c,o.op ≠ .defer c) ∧ (∀ cs b,o.op ≠ .select cs b) := by
 have h1 := Array.all_eq_true_iff_forall_mem.1 h o (Array.mem_of_getElem? ho)
 constructor
 ·intro c e;simp [e] at h1
 ·intro cs b e;simp [e] at h1
theorem semAt_eq (r : Option Nat) (ρ : Operand → Value) (o : Oper) (h : ∀ c,o.op ≠ .defer c) : o.semAt r ρ = execOp ρ o := by
 cases r with
 | none => rfl
 | some l => exact Oper.semAt_some l ρ o h
theorem Reads.step (hF : ∀ f,F.fn f) {i : Nat} {o : Oper} {v : Value} {a : Act} {w : World} {K : Act → World → Prop} (hi : ops[i]? = some o) (hd : ∀ c,o.op ≠ .defer c)
  (hy : Reads P ops o v a w) (h : K (a.put o.dst v) w) : stepE F n P ops T i K a w := by
 unfold stepE;rw [hi]
 dsimp only
 rcases hy with ⟨hw,hv⟩ | ⟨hw,rfl⟩
 ·rw [if_pos hw];unfold Oper.wpIn;rw [semAt_eq _ _ _ hd,hv w (Ext.refl _)];exact ⟨fun f _ => hF f,fun _ => Ext.refl _,h⟩
 ·rw [if_neg (by simp [hw])];exact h
theorem stepE_put (hF : ∀ f,F.fn f) {j : Nat} {oi oj : Oper} {v : Value} (hj : ops[j]? = some oj) (hap : oi.apart ops oj = true)
  (hsi : ∀ cs b,oi.op ≠ .select cs b) (hsj : ∀ cs b,oj.op ≠ .select cs b) (hdj : ∀ c,oj.op ≠ .defer c) {K : Act → World → Prop} {a : Act} {w : World}
  (hy : Reads P ops oi v a w) (h : stepE F n P ops T j K (a.put oi.dst v) w) :
  stepE F n P ops T j (fun a' w' => Reads P ops oi v a' w ∧ K (a'.put oi.dst v) w') a w := by
 obtain ⟨h1,h2,h3⟩ := Oper.apart_spec hap;have keep : ∀ u,Reads P ops oi v (a.put oj.dst u) w := fun u => hy.of_same (execOp_put oi hsi a oj.dst u h3) (wanted_put oi a oj.dst u h3);unfold stepE at *;rw [hj] at h ⊢
 dsimp only at h ⊢
 rw [wanted_put oj a oi.dst v h1] at h
 split
 ·rename_i hw
  rw [if_pos hw] at h;unfold Oper.wpIn at *;rw [semAt_eq _ _ _ hdj,execOp_put oj hsj a oi.dst v h1] at h;rw [semAt_eq _ _ _ hdj];refine ⟨fun f _ => hF f,?_⟩;replace h := h.2
  generalize (execOp a.eval oj).run P w = r at *
  cases r with
  | ok x w' =>
    cases x <;> simp only [Oper.uponIn] at h ⊢
    case value u => exact ⟨h.1,keep u,by rw [← Act.put_comm a v u h2];exact h.2⟩
    case skip => exact ⟨h.1,keep _,by rw [← Act.put_comm a v undef h2];exact h.2⟩
    case defer d =>
     obtain ⟨e,hk⟩ := h;refine ⟨e,?_,?_⟩
     ·exact (hy.of_same (a' := { a with defers := d :: a.defers }) rfl rfl).of_same (execOp_put oi hsi _ oj.dst _ h3) (wanted_put oi _ oj.dst _ h3)
     ·rw [← Act.put_comm _ v undef h2,← Act.put_defers];exact hk
    case enter f args =>
     refine ⟨h.1,CallsIn.mono h.2 fun e w'' he => ?_⟩
     cases e with
     | returned u => exact ⟨he.1,keep u,by rw [← Act.put_comm a v u h2];exact he.2⟩
     | panicked c => exact he
     | outgrown => exact he
    case row row args => exact ⟨h.1,RowsIn.mono h.2 fun u w'' he => ⟨he.1,keep u,by rw [← Act.put_comm a v u h2];exact he.2⟩⟩
    case round l f tmps as bo =>
     refine ⟨h.1,RoundIn.mono h.2 fun e w'' he => ?_⟩
     cases e with
     | returned u => exact ⟨he.1,keep u,by rw [← Act.put_comm a v u h2];exact he.2⟩
     | panicked c => exact he
     | outgrown => exact he
  | halt x w' =>
    cases x <;> simp only [Oper.uponIn] at h ⊢
 ·rename_i hw
  rw [if_neg hw] at h;exact ⟨keep _,by rw [← Act.put_comm a v undef h2];exact h⟩
def deep (ops : Array Oper) : Nat → Nat → Nat → Bool
 | 0,_,_ => false
 | f + 1,j,i => match ops[j]? with
   | some oj => oj.after.any (fun e => Region.binds .any e && e.on == i) || oj.after.any (fun e => Region.binds .any e && deep ops f e.on i)
   | none => false
def Closed (ops : Array Oper) (listed : Array Bool) : Prop := ∀ (j : Nat) (oj : Oper),ops[j]? = some oj → listed.getD j false = true → ∀ e ∈ oj.after,Region.binds .any e = true → listed.getD e.on false = true
theorem deep_listed {listed : Array Bool} (hc : Closed ops listed) : ∀ (f j i : Nat),deep ops f j i = true → (listed.getD j false = true ∨ j ∈ Region.ready .any ops listed) → listed.getD i false = true := by
 intro f
 induction f with
 | zero => intro j i h;cases h
 | succ f ih =>
   intro j i h hj;unfold deep at h
   split at h
   ·rename_i oj hoj
    have hall : ∀ e ∈ oj.after,Region.binds .any e = true → listed.getD e.on false = true := by
     rcases hj with hj | hj
     ·exact hc j oj hoj hj
     ·obtain ⟨_,o',ho',hall⟩ := mem_ready.1 hj;rw [hoj] at ho';cases ho';exact hall
    simp only [Bool.or_eq_true] at h
    rcases h with h | h
    ·obtain ⟨e,he,hb⟩ := Array.any_eq_true'.1 h;simp only [Bool.and_eq_true,beq_iff_eq] at hb;rw [← hb.2];exact hall e he hb.1
    ·obtain ⟨e,he,hb⟩ := Array.any_eq_true'.1 h;simp only [Bool.and_eq_true] at hb;exact ih e.on i hb.2 (.inl (hall e he hb.1))
   ·cases h
theorem closed_set {listed : Array Bool} {i : Nat} (hc : Closed ops listed) (hi : i ∈ Region.ready .any ops listed) : Closed ops (listed.setIfInBounds i true) := by
 intro j oj hoj hl e he hb
 by_cases hij : i = j
 ·subst hij;obtain ⟨_,o',ho',hall⟩ := mem_ready.1 hi;rw [hoj] at ho';cases ho';exact getD_set_true (hall e he hb)
 ·rw [getD_set_ne false hij] at hl;exact getD_set_true (hc j oj hoj hl e he hb)
theorem closed_none : Closed ops (Array.replicate ops.size false) := by
 intro j oj _ hl
 exfalso
 by_cases h : j < ops.size <;> simp [h] at hl
def tailWaits (ops : Array Oper) (T : List Nat) (i : Nat) : Bool := T.all fun j => deep ops 12 j i
theorem anyE_take (hF : ∀ f,F.fn f) (hnd : noDefer ops = true) {K : Act → World → Prop} {i : Nat} {oi : Oper} {v : Value} (hi : ops[i]? = some oi) (htl : tailWaits ops T i = true) :
  ∀ (fuel : Nat) (listed : Array Bool) (a : Act) (w : World),Closed ops listed →
   (∀ j oj,ops[j]? = some oj → j ≠ i → listed.getD j true = false → (∀ e ∈ oj.after,Region.binds .any e = true → e.on ≠ i) → oi.apart ops oj = true) →
   i ∈ Region.ready .any ops listed → Reads P ops oi v a w →
   anyE F n P ops T K fuel (listed.setIfInBounds i true) (a.put oi.dst v) w → anyE F n P ops T K (fuel + 1) listed a w := by
 have hdi := noDefer_spec hnd hi
 have hnt : ∀ listed,Closed ops listed → i ∈ Region.ready .any ops listed → ∀ j ∈ Region.ready .any ops listed,T.contains j = false := by
  intro listed hc hr j hj
  cases hT : T.contains j with
  | false => rfl
  | true =>
    have h1 := List.all_eq_true.1 htl j (by simpa using hT);have h2 := deep_listed hc 12 j i h1 (.inr hj);have h0 := (mem_ready.1 hr).1
    rcases Nat.lt_or_ge i listed.size with h' | h'
    ·simp [h'] at h0 h2;rw [h0] at h2;cases h2
    ·simp [Array.getElem?_eq_none h'] at h2
 intro fuel
 induction fuel with
 | zero =>
   intro listed a w _ _ hr hy H;refine ⟨fun h => (by rw [h] at hr;cases hr),fun j hj => ?_⟩
   by_cases hji : j = i
   ·subst hji;exact hy.step hF hi hdi.1 H
   ·have := ready_mono hj hji;rw [H.1] at this
    cases this
 | succ fuel ih =>
   intro listed a w hcl hfree hr hy H;refine ⟨fun h => (by rw [h] at hr;cases hr),fun j hj => ?_⟩
   by_cases hji : j = i
   ·subst hji;exact hy.step hF hi hdi.1 H
   ·have h1 := H.2 j (ready_mono hj hji);obtain ⟨hjun,oj,hoj,hall⟩ := mem_ready.1 hj
    have hnot : ∀ e ∈ oj.after,Region.binds .any e = true → e.on ≠ i := fun e he hb heq => by
     have h1 := hall e he hb;have h0 := (mem_ready.1 hr).1;rw [heq] at h1
     rcases Nat.lt_or_ge i listed.size with h' | h'
     ·simp [h'] at h0 h1;rw [h0] at h1;cases h1
     ·simp [Array.getElem?_eq_none h'] at h1
    have hdj := noDefer_spec hnd hoj;have h2 := stepE_put hF hoj (hfree j oj hoj hji hjun hnot) hdi.2 hdj.2 hdj.1 hy h1
    have hfree' : ∀ k ok,ops[k]? = some ok → k ≠ i → (listed.setIfInBounds j true).getD k true = false →
      (∀ e ∈ ok.after,Region.binds .any e = true → e.on ≠ i) → oi.apart ops ok = true := fun k ok hk hki hun hno => by
     refine hfree k ok hk hki ?_ hno
     by_cases hjk : j = k
     ·subst hjk;exact hjun
     ·rw [getD_set_ne true hjk] at hun;exact hun
    refine stepE_mono (fun a' w' hx h3 => ih (listed.setIfInBounds j true) a' w' (closed_set hcl hj) hfree' (ready_mono hr (Ne.symm hji)) (h3.1.ext (hx (hnt listed hcl hr j hj))) ?_) h2;rw [Array.setIfInBounds_comm _ _ hji];exact h3.2
def mono (F : Fence) (n : Nat) (P : Program) (ops : Array Oper) (T : List Nat) (K : Act → World → Prop) : List (Nat × Bool) → Act → World → Prop
 | [],a,w => K a w
 | (i,acts) :: L,a,w =>
   if acts then stepE F n P ops T i (mono F n P ops T K L) a w
   else ∃ v,Reads P ops (ops.getD i default) v a w ∧ mono F n P ops T K L (a.put (ops.getD i default).dst v) w
def okOrder (ops : Array Oper) (T : List Nat) : Array Bool → List (Nat × Bool) → Bool
 | listed,[] => (Region.ready .any ops listed).isEmpty
 | listed,(i,acts) :: L =>
   (i < ops.size && (if acts then Region.ready .any ops listed == [i] else (Region.ready .any ops listed).contains i && Region.free .any ops listed i && tailWaits ops T i)) &&
   okOrder ops T (listed.setIfInBounds i true) L
theorem mono_anyE (hF : ∀ f,F.fn f) (hnd : noDefer ops = true) {K : Act → World → Prop} :
  ∀ (L : List (Nat × Bool)) (listed : Array Bool) (a : Act) (w : World),Closed ops listed → okOrder ops T listed L = true → mono F n P ops T K L a w → anyE F n P ops T K L.length listed a w := by
 intro L
 induction L with
 | nil => intro listed a w _ hok h;exact ⟨by simpa [okOrder] using hok,h⟩
 | cons p L ih =>
   obtain ⟨i,acts⟩ := p;intro listed a w hcl hok h;simp only [okOrder,Bool.and_eq_true,decide_eq_true_eq] at hok;obtain ⟨⟨hlt,hc⟩,hok⟩ := hok
   cases acts with
   | true =>
     simp only [if_true,beq_iff_eq] at hc;simp only [mono,if_true] at h;refine ⟨fun h0 => (by rw [hc] at h0;cases h0),fun j hj => ?_⟩;rw [hc] at hj;obtain rfl : j = i := by simpa using hj
     exact stepE_mono (fun a' w' _ hk => ih _ _ _ (closed_set hcl (by rw [hc];exact List.mem_singleton.2 rfl)) hok hk) h
   | false =>
     simp only [Bool.false_eq_true,if_false,Bool.and_eq_true,List.contains_iff_mem] at hc;simp only [mono,Bool.false_eq_true,if_false] at h;obtain ⟨v,hy,h⟩ := h;have hi : ops[i]? = some (ops.getD i default) := by simp [hlt]
     exact anyE_take hF hnd hi hc.2 _ _ _ _ hcl (Region.free_spec hi hc.1.2) hc.1.1 hy (ih _ _ _ (closed_set hcl hc.1.1) hok h)
theorem wpIn_draw (hF : ∀ f,F.fn f) (hm : P.follows .mixedOrders = true) {id : Nat} {Q : Exit → Act → World → Prop} {a : Act} {w : World} (L : List (Nat × Bool))
  (hnd : noDefer ops = true) (hlen : L.length = ops.size) (hok : okOrder ops T (Array.replicate ops.size false) L = true)
  (h : mono F n P ops T (fun a w => Q .normal a w) L a w.drew) : (Code.region id ops true).wpIn F n P Q a w := by
 refine wpIn_region_any hm ?_;rw [← hlen];exact anyE_sound hF (fun _ _ h => h) _ _ _ _ (mono_anyE hF hnd L _ _ _ (by rw [hlen];exact closed_none) (by rw [hlen];exact hok) h)
end
end Go.Wk
namespace Go.Wk
open Go.RowKit
theorem nr {α : Type} {a b : α} (h : a = b) : a = b := h
def upd (ρ : Nat → Value) (d : Nat) (v : Value) : Nat → Value := fun t => if t = d then v else ρ t
@[go_sem] theorem upd_app (ρ : Nat → Value) (d : Nat) (v : Value) (t : Nat) : upd ρ d v t = if t = d then v else ρ t := nr rfl
def updO (ρ : Nat → Value) : Option Nat → Value → Nat → Value
 | some d,v => upd ρ d v
 | none,_ => ρ
@[go_sem] theorem updO_some (ρ : Nat → Value) (d : Nat) (v : Value) : updO ρ (some d) v = upd ρ d v := nr rfl
@[go_sem] theorem updO_none (ρ : Nat → Value) (v : Value) : updO ρ none v = ρ := nr rfl
def actOf (N : Nat) (ρ : Nat → Value) (ds : List Deferred) : Act := { tmps := Array.ofFn (n := N) (fun i => ρ i),defers := ds }
def evN (N : Nat) (ρ : Nat → Value) : Operand → Value
 | .tmp t => if t < N then ρ t else undef
 | .const v => v
 | .global g => .pointer (some ⟨g,0,none⟩)
 | .func f => .func (.func f) #[] #[]
@[go_sem] theorem evN_tmp (N : Nat) (ρ : Nat → Value) (t : Nat) : evN N ρ (.tmp t) = if t < N then ρ t else undef := nr rfl
@[go_sem] theorem evN_const (N : Nat) (ρ : Nat → Value) (v : Value) : evN N ρ (.const v) = v := nr rfl
@[go_sem] theorem evN_global (N : Nat) (ρ : Nat → Value) (g : Nat) : evN N ρ (.global g) = .pointer (some ⟨g,0,none⟩) := nr rfl
@[go_sem] theorem evN_func (N : Nat) (ρ : Nat → Value) (f : Nat) : evN N ρ (.func f) = .func (.func f) #[] #[] := nr rfl
theorem getD_act (N : Nat) (ρ : Nat → Value) (ds : List Deferred) (t : Nat) (u : Value) : (actOf N ρ ds).tmps.getD t u = if t < N then ρ t else u := by
 by_cases h : t < N <;> simp [actOf,Array.getD,h]
theorem get?_act (N : Nat) (ρ : Nat → Value) (ds : List Deferred) (t : Nat) : (actOf N ρ ds).tmps[t]? = if t < N then some (ρ t) else none := by
 by_cases h : t < N <;> simp [actOf,h]
theorem eval_act (N : Nat) (ρ : Nat → Value) (ds : List Deferred) : (actOf N ρ ds).eval = evN N ρ := by
 funext x
 cases x with
 | tmp t => exact getD_act N ρ ds t undef
 | _ => rfl
theorem set_ofFn (N : Nat) (ρ : Nat → Value) (d : Nat) (v : Value) : (Array.ofFn (n := N) (fun i => ρ i)).setIfInBounds d v = Array.ofFn (n := N) (fun i => upd ρ d v i) := by
 apply Array.ext
 ·simp
 ·intro i h1 h2;have hi : i < N := by simpa using h2
  by_cases h : i = d
  ·subst h;simp [upd]
  ·rw [Array.getElem_setIfInBounds_ne (by simpa using hi) (fun e => h e.symm)];simp [upd,h]
theorem put_act (N : Nat) (ρ : Nat → Value) (ds : List Deferred) (d : Option Nat) (v : Value) : (actOf N ρ ds).put d v = actOf N (updO ρ d v) ds := by
 cases d with
 | none => rfl
 | some d => unfold actOf Act.put updO;simp only [set_ofFn]
def boolIs : Value → Bool → Bool
 | .bool b,want => b == want
 | _,_ => false
@[go_sem] theorem boolIs_bool (b want : Bool) : boolIs (.bool b) want = (b == want) := nr rfl
def guardAt (N : Nat) (ρ : Nat → Value) (want : Bool) : Option Nat → Bool
 | some t => if t < N then boolIs (ρ t) want else false
 | none => false
@[go_sem] theorem guardAt_some (N : Nat) (ρ : Nat → Value) (want : Bool) (t : Nat) : guardAt N ρ want (some t) = if t < N then boolIs (ρ t) want else false := nr rfl
def guardOk (gd : Nat → Option Nat) (N : Nat) (ρ : Nat → Value) : Option (Nat × Bool) → Bool
 | none => true
 | some (j,want) => guardAt N ρ want (gd j)
@[go_sem] theorem guardOk_none (gd : Nat → Option Nat) (N : Nat) (ρ : Nat → Value) : guardOk gd N ρ none = true := nr rfl
@[go_sem] theorem guardOk_at (gd : Nat → Option Nat) (N : Nat) (ρ : Nat → Value) (j : Nat) (want : Bool) : guardOk gd N ρ (some (j,want)) = guardAt N ρ want (gd j) := nr rfl
theorem wanted_act (ops : Array Oper) (N : Nat) (ρ : Nat → Value) (ds : List Deferred) (o : Oper) :
  Region.wanted o (yielded ops (actOf N ρ ds).tmps) = guardOk (fun j => (ops[j]?).bind (·.dst)) N ρ o.guard := by
 unfold Region.wanted guardOk
 cases o.guard with
 | none => rfl
 | some p =>
   obtain ⟨j,want⟩ := p
   dsimp only
   unfold yielded
   cases (ops[j]?).bind (·.dst) with
   | none => simp [guardAt]
   | some t =>
     simp only [Option.bind_some,get?_act,guardAt]
     by_cases h : t < N
     ·simp only [h,if_true]
      cases ρ t <;> simp [boolIs]
     ·simp [h]
abbrev Post := Exit → (Nat → Value) → List Deferred → World → Prop
def Wp (F : Fence) (P : Program) (N : Nat) (c : Code) (K : Post) (ρ : Nat → Value) (ds : List Deferred) (w : World) : Prop :=
 c.wpIn F 0 P (fun e a w => ∃ ρ' ds',a = actOf N ρ' ds' ∧ K e ρ' ds' w) (actOf N ρ ds) w
def thenK (next : (Nat → Value) → List Deferred → World → Prop) (K : Post) : Post
 | .normal,ρ,ds,w => next ρ ds w
 | e,ρ,ds,w => K e ρ ds w
theorem thenK_normal {next : (Nat → Value) → List Deferred → World → Prop} {K : Post} {ρ : Nat → Value} {ds : List Deferred} {w : World} (h : next ρ ds w) : thenK next K .normal ρ ds w := h
theorem thenK_ret {next : (Nat → Value) → List Deferred → World → Prop} {K : Post} {ρ : Nat → Value} {ds : List Deferred} {w : World} (h : K .ret ρ ds w) : thenK next K .ret ρ ds w := h
theorem thenK_exit {next : (Nat → Value) → List Deferred → World → Prop} {K : Post} {ρ : Nat → Value} {ds : List Deferred} {w : World} {id : Nat} (h : K (.exit id) ρ ds w) : thenK next K (.exit id) ρ ds w := h
def blockK (id : Nat) (K : Post) : Post
 | .exit id',ρ,ds,w => if id' = id then K .normal ρ ds w else K (.exit id') ρ ds w
 | e,ρ,ds,w => K e ρ ds w
theorem blockK_normal {id : Nat} {K : Post} {ρ : Nat → Value} {ds : List Deferred} {w : World} (h : K .normal ρ ds w) : blockK id K .normal ρ ds w := h
theorem blockK_ret {id : Nat} {K : Post} {ρ : Nat → Value} {ds : List Deferred} {w : World} (h : K .ret ρ ds w) : blockK id K .ret ρ ds w := h
theorem blockK_here {id : Nat} {K : Post} {ρ : Nat → Value} {ds : List Deferred} {w : World} (h : K .normal ρ ds w) : blockK id K (.exit id) ρ ds w := by
 show (if id = id then K .normal ρ ds w else K (.exit id) ρ ds w);rw [if_pos rfl];exact h
theorem blockK_on {id id' : Nat} {K : Post} {ρ : Nat → Value} {ds : List Deferred} {w : World} (hne : id' ≠ id) (h : K (.exit id') ρ ds w) : blockK id K (.exit id') ρ ds w := by
 show (if id' = id then K .normal ρ ds w else K (.exit id') ρ ds w);rw [if_neg hne];exact h
section
variable {F : Fence} {P : Program} {N : Nat} {K : Post} {ρ : Nat → Value} {ds : List Deferred} {w : World}
theorem Wp.mono {c : Code} {K' : Post} (h : Wp F P N c K ρ ds w) (hk : ∀ e ρ ds w,K e ρ ds w → K' e ρ ds w) : Wp F P N c K' ρ ds w :=
 Go.wpIn_mono h fun _ _ _ ⟨ρ',ds',ha,hq⟩ => ⟨ρ',ds',ha,hk _ _ _ _ hq⟩
theorem Wp.seq {x y : Code} (h : Wp F P N x (thenK (Wp F P N y K) K) ρ ds w) : Wp F P N (x.seq y) K ρ ds w := by
 refine wpIn_seq (Go.wpIn_mono h ?_);rintro e a w' ⟨ρ',ds',rfl,hq⟩
 cases e <;> first | exact hq | exact ⟨ρ',ds',rfl,hq⟩
theorem Wp.skip (h : K .normal ρ ds w) : Wp F P N .skip K ρ ds w := wpIn_skip ⟨ρ,ds,rfl,h⟩
theorem Wp.ret (h : K .ret ρ ds w) : Wp F P N .ret K ρ ds w := wpIn_ret ⟨ρ,ds,rfl,h⟩
theorem Wp.exit {id : Nat} (h : K (.exit id) ρ ds w) : Wp F P N (.exit id) K ρ ds w := wpIn_exit ⟨ρ,ds,rfl,h⟩
theorem Wp.goto {id : Nat} (h : K (.goto id) ρ ds w) : Wp F P N (.goto id) K ρ ds w := wpIn_goto ⟨ρ,ds,rfl,h⟩
theorem Wp.label {id : Nat} (h : K .normal ρ ds w) : Wp F P N (.label id) K ρ ds w := wpIn_label ⟨ρ,ds,rfl,h⟩
theorem Wp.block {id : Nat} {c : Code} (h : Wp F P N c (blockK id K) ρ ds w) : Wp F P N (.block id c) K ρ ds w := by
 refine wpIn_block (Go.wpIn_mono h ?_);rintro e a w' ⟨ρ',ds',rfl,hq⟩
 cases e with
 | exit id' =>
   simp only [blockK] at hq;simp only [Exit.inBlock]
   split <;> rename_i hid
   ·rw [if_pos hid] at hq;exact ⟨ρ',ds',rfl,hq⟩
   ·rw [if_neg hid] at hq;exact ⟨ρ',ds',rfl,hq⟩
 | _ => exact ⟨ρ',ds',rfl,hq⟩
theorem Wp.cond {c : Operand} {x y : Code} {t : Bool} (hc : evN N ρ c = .bool t) (h1 : t = true → Wp F P N x K ρ ds w) (h2 : t = false → Wp F P N y K ρ ds w) : Wp F P N (.cond c x y) K ρ ds w := by
 have hc' : (actOf N ρ ds).eval c = .bool t := by rw [eval_act];exact hc
 cases t with
 | true => exact wpIn_cond hc' (h1 rfl)
 | false => exact wpIn_cond hc' (h2 rfl)
theorem Wp.condT {c : Operand} {x y : Code} (hc : evN N ρ c = .bool true) (h1 : Wp F P N x K ρ ds w) : Wp F P N (.cond c x y) K ρ ds w :=
 Wp.cond hc (fun _ => h1) (fun h => by cases h)
theorem Wp.condF {c : Operand} {x y : Code} (hc : evN N ρ c = .bool false) (h1 : Wp F P N y K ρ ds w) : Wp F P N (.cond c x y) K ρ ds w :=
 Wp.cond hc (fun h => by cases h) (fun _ => h1)
theorem Wp.loop {c : Code} (I : Nat → (Nat → Value) → List Deferred → World → Prop) (M : Nat) (h0 : I 0 ρ ds w)
  (round : ∀ k ρ ds w,k ≤ M → I k ρ ds w → Wp F P N c (thenK (fun ρ' ds' w' => k < M ∧ I (k + 1) ρ' ds' w') K) ρ ds w) : Wp F P N (.loop c) K ρ ds w := by
 intro b kk cs hro hb hr
 have key : ∀ j k ρ ds w,M - k = j → k ≤ M → I k ρ ds w →
   ∃ e a' w',(∃ ρ' ds',a' = actOf N ρ' ds' ∧ K e ρ' ds' w') ∧ ArrivesIn (Machine.fenced P F) P (lone (b.atR (actOf N ρ ds) (.code c :: .inLoop c :: kk)) cs w) b kk cs e a' w' := by
  intro j
  induction j with
  | zero =>
    intro k ρ ds w hj hk hI;obtain ⟨e,a₁,w₁,⟨ρ₁,ds₁,rfl,hq⟩,harr⟩ := round k ρ ds w hk hI b (.inLoop c :: kk) cs hro hb hr
    cases e with
    | normal => exact absurd hq.1 (by omega)
    | _ => exact ⟨_,_,w₁,⟨ρ₁,ds₁,rfl,hq⟩,.pass (x := .inLoop c) rfl (fun _ _ => .inl (by simp)) harr⟩
  | succ j ih =>
    intro k ρ ds w hj hk hI;obtain ⟨e,a₁,w₁,⟨ρ₁,ds₁,rfl,hq⟩,harr⟩ := round k ρ ds w hk hI b (.inLoop c :: kk) cs hro hb hr
    cases e with
    | normal =>
      obtain ⟨e₂,a₂,w₂,hq₂,harr₂⟩ := ih (k + 1) ρ₁ ds₁ w₁ (by omega) (by have := hq.1;omega) hq.2;exact ⟨e₂,a₂,w₂,hq₂,.of_steps (StepsIn.trans harr (.one (fenced_calm hb hr rfl) stepR_inLoop)) harr₂⟩
    | _ => exact ⟨_,_,w₁,⟨ρ₁,ds₁,rfl,hq⟩,.pass (x := .inLoop c) rfl (fun _ _ => .inl (by simp)) harr⟩
 obtain ⟨e,a',w',hq,harr⟩ := key _ 0 ρ ds w rfl (Nat.zero_le _) h0;exact ⟨e,a',w',hq,.of_steps (.one (fenced_calm hb hr rfl) stepR_loop) harr⟩
end
def CallsV (P : Program) (f : FuncId) (args : Array Value) (w : World) (R : Value → World → Prop) : Prop :=
 Calls P f args w fun e w' => ∃ v,e = .returned v ∧ R v w'
theorem CallsV.mono {P : Program} {f : FuncId} {args : Array Value} {w : World} {R R' : Value → World → Prop} (h : CallsV P f args w R) (hr : ∀ v w',R v w' → R' v w') : CallsV P f args w R' :=
 Calls.mono h fun _ _ ⟨v,e,r⟩ => ⟨v,e,hr _ _ r⟩
theorem CallsV.calls {P : Program} {f : FuncId} {args : Array Value} {w : World} {R : Value → World → Prop} (h : CallsV P f args w R) : Calls P f args w fun e w' => ∃ v,e = .returned v ∧ R v w' := h
def Wstep (F : Fence) (P : Program) (N : Nat) (next : (Nat → Value) → World → Prop) (d : Option Nat) (ρ : Nat → Value) : Result Next → Prop
 | .ok (.value v) w' => next (updO ρ d v) w'
 | .ok .skip w' => next (updO ρ d undef) w'
 | .ok (.enter f args) w' => CallsIn F 0 P f args w' fun e w'' => ∃ v,e = .returned v ∧ next (updO ρ d v) w''
 | .ok (.round l f tmps as bo) w' => RoundIn F 0 P l f tmps as bo w' fun e w'' => ∃ v,e = .returned v ∧ next (updO ρ d v) w''
 | _ => False
def Wops (F : Fence) (P : Program) (N : Nat) (gd : Nat → Option Nat) (K : (Nat → Value) → World → Prop) : List Oper → (Nat → Value) → World → Prop
 | [],ρ,w => K ρ w
 | o :: L,ρ,w => if guardOk gd N ρ o.guard then Wstep F P N (Wops F P N gd K L) o.dst ρ ((execOp (evN N ρ) o).run P w) else Wops F P N gd K L (updO ρ o.dst undef) w
section
variable {F : Fence} {P : Program} {N : Nat} {gd : Nat → Option Nat} {K : (Nat → Value) → World → Prop} {ρ : Nat → Value} {w : World}
@[go_sem] theorem Wops_cons (o : Oper) (L : List Oper) : Wops F P N gd K (o :: L) ρ w = if guardOk gd N ρ o.guard then Wstep F P N (Wops F P N gd K L) o.dst ρ ((execOp (evN N ρ) o).run P w) else Wops F P N gd K L (updO ρ o.dst undef) w := nr rfl
@[go_sem] theorem Wops_nil : Wops F P N gd K [] ρ w = K ρ w := nr rfl
@[go_sem] theorem Wstep_value (next : (Nat → Value) → World → Prop) (d : Option Nat) (v : Value) : Wstep F P N next d ρ (.ok (.value v) w) = next (updO ρ d v) w := nr rfl
@[go_sem] theorem Wstep_skip (next : (Nat → Value) → World → Prop) (d : Option Nat) : Wstep F P N next d ρ (.ok .skip w) = next (updO ρ d undef) w := nr rfl
theorem Wcall {f : FuncId} {args : Array Value} {R : Value → World → Prop} {next : (Nat → Value) → World → Prop} {d : Option Nat} (hF : F = Fence.wide ∨ ∃ l,F = Fence.wide.inRound l)
  (hc : CallsV P f args w R) (h : ∀ v w',R v w' → next (updO ρ d v) w') : Wstep F P N next d ρ (.ok (.enter f args) w) := by
 have h1 : CallsIn Fence.wide 0 P f args w fun e w'' => ∃ v,e = .returned v ∧ next (updO ρ d v) w'' := callsIn_wide.2 (Calls.mono hc fun e w'' ⟨v,he,hr⟩ => ⟨v,he,h v w'' hr⟩)
 rcases hF with rfl | ⟨l,rfl⟩
 ·exact h1
 ·exact h1
end
theorem Wops_sound {F : Fence} (hF : ∀ f,F.fn f) (hdp : F.depth = none) {P : Program} {N : Nat} {ops : Array Oper} {ds : List Deferred} {Q : Exit → Act → World → Prop} {K : (Nat → Value) → World → Prop}
  (hK : ∀ ρ w,K ρ w → Q .normal (actOf N ρ ds) w) : ∀ (L : List Oper) (ρ : Nat → Value) (w : World),(∀ o ∈ L,∀ c,o.op ≠ .defer c) →
   Wops F P N (fun j => (ops[j]?).bind (·.dst)) K L ρ w → wpListIn F 0 P ops Q L (actOf N ρ ds) w := by
 intro L
 induction L with
 | nil => exact fun ρ w _ h => hK ρ w h
 | cons o L ih =>
   intro ρ w hd h;have hd' := fun o' ho' => hd o' (List.mem_cons_of_mem _ ho');simp only [Wops] at h;simp only [wpListIn,wanted_act]
   split
   ·rename_i hw
    rw [if_pos hw] at h;unfold Oper.wpIn;rw [semAt_eq _ _ _ (hd o (List.mem_cons_self)),eval_act];refine ⟨fun f _ => hF f,?_⟩
    generalize (execOp (evN N ρ) o).run P w = r at *
    cases r with
    | ok x w' =>
      cases x <;> simp only [Wstep] at h <;> simp only [Oper.uponIn]
      case value v => rw [put_act];exact ih _ _ hd' h
      case skip => rw [put_act];exact ih _ _ hd' h
      case enter f args =>
       refine ⟨fun e => by simp [hdp] at e,CallsIn.mono h ?_⟩;rintro e w'' ⟨v,rfl,hn⟩
       dsimp only
       rw [put_act];exact ih _ _ hd' hn
      case round l f tmps as bo =>
       refine ⟨fun e => by simp [hdp] at e,RoundIn.mono h ?_⟩;rintro e w'' ⟨v,rfl,hn⟩
       dsimp only
       rw [put_act];exact ih _ _ hd' hn
    | halt x w' => simp only [Wstep] at h
   ·rename_i hw
    rw [if_neg hw] at h;refine ⟨fun f _ => hF f,?_⟩;rw [put_act];exact ih _ _ hd' h
theorem Wp.region {F : Fence} {P : Program} {N : Nat} {K : Post} {ρ : Nat → Value} {ds : List Deferred} {w : World} (hF : F = Fence.wide ∨ ∃ l,F = Fence.wide.inRound l) {id : Nat} {L : List Oper}
  (hnd : noDefer L.toArray = true)
  (h : ∀ (K' : (Nat → Value) → World → Prop) (gd : Nat → Option Nat),(∀ ρ w,K .normal ρ ds w → K' ρ w) → (∀ j,gd j = (L[j]?).bind (·.dst)) → Wops F P N gd K' L ρ w) : Wp F P N (.region id L.toArray false) K ρ ds w := by
 have hfn : ∀ f,F.fn f := by rcases hF with rfl | ⟨l,rfl⟩ <;> exact fun _ => trivial
 have hdp : F.depth = none := by rcases hF with rfl | ⟨l,rfl⟩ <;> rfl
 refine wpIn_region_lit ?_;refine Wops_sound hfn hdp (K := fun ρ w => K .normal ρ ds w) (fun ρ w hk => ⟨ρ,ds,rfl,hk⟩) L ρ w ?_ (h _ _ (fun _ _ h => h) (fun j => by simp));intro o ho c;obtain ⟨j,hj⟩ := List.getElem?_of_mem ho;exact (noDefer_spec (ops := L.toArray) hnd (j := j) (by simpa using hj)).1 c
theorem Wp.seqRegion {F : Fence} {P : Program} {N : Nat} {K : Post} {ρ : Nat → Value} {ds : List Deferred} {w : World} (hF : F = Fence.wide ∨ ∃ l,F = Fence.wide.inRound l) {id : Nat} {L : List Oper} {y : Code}
  (hnd : noDefer L.toArray = true)
  (h : ∀ (K' : (Nat → Value) → World → Prop) (gd : Nat → Option Nat),(∀ ρ w,Wp F P N y K ρ ds w → K' ρ w) → (∀ j,gd j = (L[j]?).bind (·.dst)) → Wops F P N gd K' L ρ w) : Wp F P N ((Code.region id L.toArray false).seq y) K ρ ds w :=
 Wp.seq (Wp.region hF hnd h)
end Go.Wk
namespace Go.Wk
open Go.RowKit
set_option linter.unusedVariables false
def Rstep (w : World) (next : Value → Prop) : Result Next → Prop
 | .ok (.value v) w' => w' = w ∧ next v
 | _ => False
def Rops (P : Program) (N : Nat) (gd : Nat → Option Nat) (ρf : Nat → Value) : List Oper → (Nat → Value) → World → Prop
 | [],ρ,_ => ρ = ρf
 | o :: L,ρ,w => if guardOk gd N ρ o.guard then Rstep w (fun v => Rops P N gd ρf L (updO ρ o.dst v) w) ((execOp (evN N ρ) o).run P w) else Rops P N gd ρf L (updO ρ o.dst undef) w
section
variable {F : Fence} {P : Program} {N : Nat} {gd : Nat → Option Nat} {ρ ρf : Nat → Value} {w : World}
@[go_sem] theorem Rops_nil : Rops P N gd ρf [] ρ w = (ρ = ρf) := nr rfl
@[go_sem] theorem Rops_cons (o : Oper) (L : List Oper) : Rops P N gd ρf (o :: L) ρ w = if guardOk gd N ρ o.guard then Rstep w (fun v => Rops P N gd ρf L (updO ρ o.dst v) w) ((execOp (evN N ρ) o).run P w) else Rops P N gd ρf L (updO ρ o.dst undef) w := nr rfl
@[go_sem] theorem Rstep_value (next : Value → Prop) (v : Value) : Rstep w next (.ok (.value v) w) = next v := by simp [Rstep]
def Mops (F : Fence) (P : Program) (N : Nat) (gd : Nat → Option Nat) (K : (Nat → Value) → World → Prop) : List (List Oper × Option (Oper × Bool)) → (Nat → Value) → World → Prop
 | [],ρ,w => K ρ w
 | (R,none) :: S,ρ,w => ∃ ρf,(∀ w',Ext w w' → Rops P N gd ρf R ρ w') ∧ Mops F P N gd K S ρf w
 | (R,some (o,false)) :: S,ρ,w => ∃ ρf,(∀ w',Ext w w' → Rops P N gd ρf R ρ w') ∧
   (if guardOk gd N ρf o.guard then Wstep F P N (fun ρ' w' => Ext w w' ∧ Mops F P N gd K S ρ' w') o.dst ρf ((execOp (evN N ρf) o).run P w) else Mops F P N gd K S (updO ρf o.dst undef) w)
 | (R,some (o,true)) :: S,ρ,w => ∃ ρf,(∀ w',Ext w w' → Rops P N gd ρf R ρ w') ∧
   (if guardOk gd N ρf o.guard then Wstep F P N (fun ρ' w' => Mops F P N gd K S ρ' w') o.dst ρf ((execOp (evN N ρf) o).run P w) else Mops F P N gd K S (updO ρf o.dst undef) w)
theorem Rops_done : Rops P N gd ρ [] ρ w := rfl
theorem Mops.done {K : (Nat → Value) → World → Prop} (h : K ρ w) : Mops F P N gd K [] ρ w := h
theorem Mops.none {K : (Nat → Value) → World → Prop} {R : List Oper} {S : List (List Oper × Option (Oper × Bool))} {ρf : Nat → Value} (h1 : ∀ w',Ext w w' → Rops P N gd ρf R ρ w') (h2 : Mops F P N gd K S ρf w) : Mops F P N gd K ((R,.none) :: S) ρ w := ⟨ρf,h1,h2⟩
theorem Wstep_mono {F : Fence} {P : Program} {N : Nat} {n1 n2 : (Nat → Value) → World → Prop} {d : Option Nat} {ρ : Nat → Value} {r : Result Next} (h : ∀ ρ w,n1 ρ w → n2 ρ w) (hh : Wstep F P N n1 d ρ r) : Wstep F P N n2 d ρ r := by
 cases r with
 | ok x w' =>
   cases x <;> simp only [Wstep] at hh ⊢ <;>
    first
     | exact h _ _ hh
     | exact CallsIn.mono hh (fun e w'' ⟨v,he,hn⟩ => ⟨v,he,h _ _ hn⟩)
     | exact RoundIn.mono hh (fun e w'' ⟨v,he,hn⟩ => ⟨v,he,h _ _ hn⟩)
 | halt x w' => simp only [Wstep] at hh
theorem Mops.act {K : (Nat → Value) → World → Prop} {R : List Oper} {o : Oper} {S : List (List Oper × Option (Oper × Bool))} {ρf : Nat → Value} (h1 : ∀ w',Ext w w' → Rops P N gd ρf R ρ w')
  (h2 : ∀ K1 : (Nat → Value) → World → Prop,(∀ ρ' w',Ext w w' → Mops F P N gd K S ρ' w' → K1 ρ' w') → if guardOk gd N ρf o.guard then Wstep F P N K1 o.dst ρf ((execOp (evN N ρf) o).run P w) else K1 (updO ρf o.dst undef) w) : Mops F P N gd K ((R,some (o,false)) :: S) ρ w := by
 refine ⟨ρf,h1,?_⟩;have h := h2 (fun ρ' w' => Ext w w' ∧ Mops F P N gd K S ρ' w') (fun _ _ a b => ⟨a,b⟩)
 split
 ·rename_i hg;rw [if_pos hg] at h;exact h
 ·rename_i hg;rw [if_neg hg] at h;exact h.2
theorem Mops.last {K : (Nat → Value) → World → Prop} {R : List Oper} {o : Oper} {S : List (List Oper × Option (Oper × Bool))} {ρf : Nat → Value} (h1 : ∀ w',Ext w w' → Rops P N gd ρf R ρ w')
  (h2 : ∀ K1 : (Nat → Value) → World → Prop,(∀ ρ' w',Mops F P N gd K S ρ' w' → K1 ρ' w') → if guardOk gd N ρf o.guard then Wstep F P N K1 o.dst ρf ((execOp (evN N ρf) o).run P w) else K1 (updO ρf o.dst undef) w) : Mops F P N gd K ((R,some (o,true)) :: S) ρ w :=
 ⟨ρf,h1,h2 _ (fun _ _ h => h)⟩
def dstsOf (L : List Oper) : List Nat := L.filterMap (·.dst)
theorem updO_ne {ρ : Nat → Value} {d : Option Nat} {v : Value} {t : Nat} (h : d ≠ some t) : updO ρ d v t = ρ t := by
 cases d with
 | none => rfl
 | some d => simp only [updO,upd];rw [if_neg (fun e => h (by rw [e]))]
theorem Rops_keeps : ∀ (L : List Oper) (ρ : Nat → Value),Rops P N gd ρf L ρ w → ∀ t,t ∉ dstsOf L → ρf t = ρ t := by
 intro L
 induction L with
 | nil => intro ρ h t _;rw [show ρ = ρf from h]
 | cons o L ih =>
   intro ρ h t ht;have hne : o.dst ≠ some t := fun e => ht (by simp [dstsOf,e])
   have htl : t ∉ dstsOf L := fun e => ht (by
    unfold dstsOf at *;rw [List.filterMap_cons];split <;> simp_all)
   simp only [Rops] at h
   split at h
   ·unfold Rstep at h
    split at h
    ·rw [ih _ h.2 t htl,updO_ne hne]
    ·exact h.elim
   ·rw [ih _ h t htl,updO_ne hne]
def ownSlots (L : List Oper) : Bool := L.all (fun o => o.dst.isSome) && decide (dstsOf L).Nodup
end
section
variable {F : Fence} {P : Program} {N : Nat} {ops : Array Oper} {ds : List Deferred} {T : List Nat}
theorem mono_reads (hF : ∀ f,F.fn f) {K : Act → World → Prop} (σ2 : List (Nat × Bool)) {ρf : Nat → Value} {w : World} (h2 : mono F 0 P ops T K σ2 (actOf N ρf ds) w) :
  ∀ (l : List Nat) (ρ : Nat → Value),ownSlots (l.map fun i => ops.getD i default) = true →
   (∀ w',Ext w w' → Rops P N (fun j => (ops[j]?).bind (·.dst)) ρf (l.map fun i => ops.getD i default) ρ w') →
   mono F 0 P ops T K (l.map (fun i => (i,false)) ++ σ2) (actOf N ρ ds) w := by
 intro l
 induction l with
 | nil => intro ρ _ h;have := h w (Ext.refl w);rw [show ρ = ρf from this];exact h2
 | cons i l ih =>
   intro ρ hs h;simp only [ownSlots,List.map_cons,List.all_cons,Bool.and_eq_true,decide_eq_true_eq] at hs;obtain ⟨⟨hd,hall⟩,hnd⟩ := hs;obtain ⟨d,hd⟩ := Option.isSome_iff_exists.1 hd;have hcons : dstsOf (ops.getD i default :: l.map fun i => ops.getD i default) = d :: dstsOf (l.map fun i => ops.getD i default) := by simp only [dstsOf,List.filterMap_cons,hd]
   rw [hcons,List.nodup_cons] at hnd;have hs' : ownSlots (l.map fun i => ops.getD i default) = true := by simp only [ownSlots,hall,Bool.true_and];exact decide_eq_true hnd.2
   simp only [List.map_cons,List.cons_append,mono,Bool.false_eq_true,if_false]
   by_cases hg : guardOk (fun j => (ops[j]?).bind (·.dst)) N ρ (ops.getD i default).guard = true
   ·have key : ∀ w',Ext w w' → (execOp (evN N ρ) (ops.getD i default)).run P w' = .ok (.value (ρf d)) w' ∧ Rops P N (fun j => (ops[j]?).bind (·.dst)) ρf (l.map fun i => ops.getD i default) (updO ρ (some d) (ρf d)) w' := by
     intro w' hE;have h1 := h w' hE;simp only [List.map_cons,Rops] at h1;rw [if_pos hg] at h1;unfold Rstep at h1
     split at h1
     ·rename_i v w'' he
      obtain ⟨rfl,h1⟩ := h1;have hv := Rops_keeps _ _ h1 d hnd.1;rw [hd] at hv h1;simp only [updO,upd,if_true] at hv;rw [hv];exact ⟨he,h1⟩
     ·exact h1.elim
    refine ⟨ρf d,.inl ⟨by rw [wanted_act];exact hg,fun w' hE => by rw [eval_act];exact (key w' hE).1⟩,?_⟩;rw [put_act,hd];exact ih _ hs' (fun w' hE => (key w' hE).2)
   ·refine ⟨undef,.inr ⟨by rw [wanted_act];simpa using hg,rfl⟩,?_⟩;rw [put_act];refine ih _ hs' (fun w' hE => ?_);have h1 := h w' hE;simp only [List.map_cons,Rops] at h1;rw [if_neg hg] at h1;exact h1
abbrev Plan := List (List Nat × Option (Nat × Bool))
def segs (S : Plan) : List (Nat × Bool) := S.flatMap fun p => p.1.map (fun i => (i,false)) ++ (match p.2 with | some i => [(i.1,true)] | none => [])
def tailOf (S : Plan) : List Nat := S.filterMap fun p => match p.2 with | some (i,true) => some i | _ => none
def nth : List Oper → Nat → Oper
 | [],_ => default
 | o :: _,0 => o
 | _ :: l,i + 1 => nth l i
def pick (L : List Oper) (S : Plan) : List (List Oper × Option (Oper × Bool)) := S.map fun p => (p.1.map (nth L),p.2.map fun i => (nth L i.1,i.2))
theorem nth_eq : ∀ (L : List Oper) (i : Nat),nth L i = L.getD i default
 | [],_ => by simp [nth]
 | o :: _,0 => rfl
 | _ :: l,i + 1 => by simpa [nth] using nth_eq l i
def slotsOk (L : List Oper) (T : List Nat) (S : Plan) : Bool := S.all fun p => ownSlots (p.1.map (nth L)) && (match p.2 with | some i => decide (i.1 < L.length) && (T.contains i.1 == i.2) | none => true)
theorem Mops_mono (hF : ∀ f,F.fn f) (hdp : F.depth = none) {L : List Oper} (hnd : noDefer L.toArray = true) {K : Act → World → Prop} {K' : (Nat → Value) → World → Prop} (hK : ∀ ρ w,K' ρ w → K (actOf N ρ ds) w) :
  ∀ (S : Plan) (ρ : Nat → Value) (w : World),slotsOk L T S = true → Mops F P N (fun j => (L[j]?).bind (·.dst)) K' (pick L S) ρ w → mono F 0 P L.toArray T K (segs S) (actOf N ρ ds) w := by
 have hgd : (fun j : Nat => (L[j]?).bind (fun o : Oper => o.dst)) = (fun j : Nat => ((L.toArray)[j]?).bind (fun o : Oper => o.dst)) := by funext j;simp
 have hget : ∀ l : List Nat,l.map (nth L) = l.map (fun i => L.toArray.getD i default) := fun l => List.map_congr_left fun i _ => by rw [nth_eq];simp
 intro S
 induction S with
 | nil => exact fun ρ w _ h => hK _ _ h
 | cons p S ih =>
   obtain ⟨R,oi⟩ := p;intro ρ w hok h;simp only [slotsOk,List.all_cons,Bool.and_eq_true] at hok;obtain ⟨⟨ho,hi⟩,hok⟩ := hok
   cases oi with
   | none =>
     simp only [pick,List.map_cons,Option.map_none,Mops] at h;obtain ⟨ρf,hr,hm⟩ := h;rw [hgd,hget] at hr;rw [hget] at ho;have := mono_reads hF (segs S) (ih ρf w hok hm) R ρ ho hr
     simpa [segs] using this
   | some ib =>
     obtain ⟨i,b⟩ := ib;simp only [Bool.and_eq_true,decide_eq_true_eq,beq_iff_eq] at hi;obtain ⟨hlt,hT⟩ := hi
     have h' : ∃ ρf,(∀ w',Ext w w' → Rops P N (fun j => (L[j]?).bind (fun o : Oper => o.dst)) ρf (R.map (nth L)) ρ w') ∧
       (if guardOk (fun j => (L[j]?).bind (fun o : Oper => o.dst)) N ρf (nth L i).guard then Wstep F P N (fun ρ' w' => Kept T i w w' ∧ Mops F P N (fun j => (L[j]?).bind (fun o : Oper => o.dst)) K' (pick L S) ρ' w') (nth L i).dst ρf ((execOp (evN N ρf) (nth L i)).run P w)
        else Mops F P N (fun j => (L[j]?).bind (fun o : Oper => o.dst)) K' (pick L S) (updO ρf (nth L i).dst undef) w) := by
      simp only [pick,List.map_cons,Option.map_some] at h
      cases b with
      | false =>
        simp only [Mops] at h;obtain ⟨ρf,hr,hm⟩ := h;refine ⟨ρf,hr,?_⟩
        split
        ·rename_i hg
         rw [if_pos hg] at hm;exact Wstep_mono (fun ρ' w' hk => ⟨fun _ => hk.1,hk.2⟩) hm
        ·rename_i hg
         rw [if_neg hg] at hm;exact hm
      | true =>
        simp only [Mops] at h;obtain ⟨ρf,hr,hm⟩ := h;refine ⟨ρf,hr,?_⟩
        split
        ·rename_i hg
         rw [if_pos hg] at hm;exact Wstep_mono (fun ρ' w' hk => ⟨fun e => (by rw [hT] at e;cases e),hk⟩) hm
        ·rename_i hg
         rw [if_neg hg] at hm;exact hm
     obtain ⟨ρf,hr,hm⟩ := h';rw [hgd,hget] at hr;rw [hget] at ho;have hoi : L.toArray[i]? = some (nth L i) := by rw [nth_eq];simp [hlt]
     have hstep : mono F 0 P L.toArray T K ((i,true) :: segs S) (actOf N ρf ds) w := by
      simp only [mono,if_true];unfold stepE;rw [hoi]
      dsimp only
      rw [wanted_act,← hgd]
      by_cases hg : guardOk (fun j => (L[j]?).bind (·.dst)) N ρf (nth L i).guard = true
      ·rw [if_pos hg] at hm ⊢;unfold Oper.wpIn;rw [semAt_eq _ _ _ (noDefer_spec hnd hoi).1,eval_act];refine ⟨fun f _ => hF f,?_⟩
       generalize (execOp (evN N ρf) (nth L i)).run P w = r at *
       cases r with
       | ok x w' =>
         cases x <;> simp only [Wstep] at hm <;> simp only [Oper.uponIn]
         case value v => rw [put_act];exact ⟨hm.1,ih _ _ hok hm.2⟩
         case skip => rw [put_act];exact ⟨hm.1,ih _ _ hok hm.2⟩
         case enter f args =>
          refine ⟨fun e => by simp [hdp] at e,CallsIn.mono hm ?_⟩;rintro e w'' ⟨v,rfl,hn⟩
          dsimp only
          rw [put_act];exact ⟨hn.1,ih _ _ hok hn.2⟩
         case round l f tmps as bo =>
          refine ⟨fun e => by simp [hdp] at e,RoundIn.mono hm ?_⟩;rintro e w'' ⟨v,rfl,hn⟩
          dsimp only
          rw [put_act];exact ⟨hn.1,ih _ _ hok hn.2⟩
       | halt x w' => simp only [Wstep] at hm
      ·rw [if_neg hg] at hm ⊢;rw [put_act];exact ih _ _ hok hm
     have := mono_reads hF ((i,true) :: segs S) hstep R ρ ho hr
     simpa [segs] using this
theorem Wp.draw {K : Post} {ρ : Nat → Value} {w : World} (hF : F = Fence.wide ∨ ∃ l,F = Fence.wide.inRound l) (hm : P.follows .mixedOrders = true) {id : Nat} {L : List Oper} (S : Plan)
  (hc : (noDefer L.toArray && decide ((segs S).length = L.toArray.size) && okOrder L.toArray (tailOf S) (Array.replicate L.toArray.size false) (segs S) && slotsOk L (tailOf S) S) = true)
  (h : ∀ (K' : (Nat → Value) → World → Prop) (gd : Nat → Option Nat),(∀ ρ w,K .normal ρ ds w → K' ρ w) → (∀ j,gd j = (L[j]?).bind (·.dst)) → Mops F P N gd K' (pick L S) ρ w.drew) : Wp F P N (.region id L.toArray true) K ρ ds w := by
 have hfn : ∀ f,F.fn f := by rcases hF with rfl | ⟨l,rfl⟩ <;> exact fun _ => trivial
 have hdp : F.depth = none := by rcases hF with rfl | ⟨l,rfl⟩ <;> rfl
 simp only [Bool.and_eq_true,decide_eq_true_eq] at hc;obtain ⟨⟨⟨h1,h2⟩,h3⟩,h4⟩ := hc;refine wpIn_draw hfn hm (segs S) h1 h2 h3 ?_;exact Mops_mono hfn hdp h1 (K' := fun ρ w => K .normal ρ ds w) (fun ρ w hk => ⟨ρ,ds,rfl,hk⟩) S ρ w.drew h4 (h _ _ (fun _ _ h => h) (fun _ => rfl))
end
theorem Wp.seqDraw {F : Fence} {P : Program} {N : Nat} {ds : List Deferred} {K : Post} {ρ : Nat → Value} {w : World} (hF : F = Fence.wide ∨ ∃ l,F = Fence.wide.inRound l) (hm : P.follows .mixedOrders = true) {id : Nat} {L : List Oper} {y : Code} (S : Plan)
  (hc : (noDefer L.toArray && decide ((segs S).length = L.toArray.size) && okOrder L.toArray (tailOf S) (Array.replicate L.toArray.size false) (segs S) && slotsOk L (tailOf S) S) = true)
  (h : ∀ (K' : (Nat → Value) → World → Prop) (gd : Nat → Option Nat),(∀ ρ w,Wp F P N y K ρ ds w → K' ρ w) → (∀ j,gd j = (L[j]?).bind (·.dst)) → Mops F P N gd K' (pick L S) ρ w.drew) : Wp F P N ((Code.region id L.toArray true).seq y) K ρ ds w :=
 Wp.seq (Wp.draw hF hm S hc h)
def envOf (args : Array Value) : Nat → Value := fun t => args.getD t undef
@[go_sem] theorem envOf_app (args : Array Value) (t : Nat) : envOf args t = args.getD t undef := nr rfl
theorem enter_act {N : Nat} {args : Array Value} (h : args.size ≤ N) : ({ tmps := args ++ Array.replicate (N - args.size) undef,defers := [] } : Act) = actOf N (envOf args) [] := by
 unfold actOf
 congr 1
 apply Array.ext
 ·simp;omega
 ·intro i h1 h2;simp only [Array.getElem_ofFn]
  by_cases hi : i < args.size
  ·rw [Array.getElem_append_left hi];simp [envOf,Array.getD,hi]
  ·rw [Array.getElem_append_right (by omega)];simp [envOf,hi]
def endK (P : Program) (N : Nat) (fn : Func) (R : Value → World → Prop) : Post
 | .normal,ρ,ds,w | .ret,ρ,ds,w => ds = [] ∧ ∃ v,(results fn (actOf N ρ []).tmps).run P w = .ok v w ∧ R v w
 | _,_,_,_ => False
theorem Wp.fn {P : Program} {f : FuncId} {fn : Func} {c : Code} {args : Array Value} {w : World} {R : Value → World → Prop} {N : Nat}
  (hf : P.funcs[f]? = some fn) (hb : fn.body = some c) (hN : fn.ntmps = N) (hs : args.size ≤ N)
  (h : Wp Fence.wide P N c (endK P N fn R) (envOf args) [] w) : CallsV P f args w R := by
 refine (callsIn_wide (n := 0)).1 (callsIn_of_wp hf hb trivial ?_);rw [hN,enter_act hs];refine Go.wpIn_mono h ?_;rintro e a w' ⟨ρ',ds',rfl,hq⟩
 cases e <;> first | exact hq.elim | skip
 ·obtain ⟨rfl,v,hr,hR⟩ := hq;exact ⟨rfl,v,hr,v,rfl,hR⟩
 ·obtain ⟨rfl,v,hr,hR⟩ := hq;exact ⟨rfl,v,hr,v,rfl,hR⟩
theorem endK_tmp {P : Program} {N : Nat} {fn : Func} {R : Value → World → Prop} {ρ : Nat → Value} {w : World} {t : Nat} (hr : fn.results = #[.tmp t]) (ht : t < N) (h : R (ρ t) w) : endK P N fn R .ret ρ [] w := by
 refine ⟨rfl,_,results_tmp hr _ _ _,?_⟩;rw [getD_act,if_pos ht];exact h
theorem endK_tmp2 {P : Program} {N : Nat} {fn : Func} {R : Value → World → Prop} {ρ : Nat → Value} {w : World} {t u : Nat} (hr : fn.results = #[.tmp t,.tmp u]) (ht : t < N) (hu : u < N) (h : R (.tuple #[ρ t,ρ u]) w) : endK P N fn R .ret ρ [] w := by
 refine ⟨rfl,_,results_tmp2 hr _ _ _,?_⟩;rw [getD_act,if_pos ht,getD_act,if_pos hu];exact h
end Go.Wk
namespace Go.Wk
open Go.RowKit
set_option linter.unusedVariables false
structure Adm (m : Nat) (W W' : World) : Prop where
 os : W'.os = W.os
 tape : W'.tape = W.tape
 output : W'.output = W.output
 size : W.heap.size ≤ W'.heap.size
 block : ∀ (k : Nat) (o : Obj),W.heap[k]? = some o → (k < m ∨ o.isCells = true) → W'.heap[k]? = some o
theorem Adm.refl (m : Nat) (W : World) : Adm m W W := ⟨rfl,rfl,rfl,Nat.le_refl _,fun _ _ h _ => h⟩
theorem Adm.trans {m : Nat} {A B C : World} (h : Adm m A B) (k : Adm m B C) : Adm m A C :=
 ⟨k.os.trans h.os,k.tape.trans h.tape,k.output.trans h.output,Nat.le_trans h.size k.size,fun i o hi ho => k.block i o (h.block i o hi ho) ho⟩
theorem Adm.of_ext {m : Nat} {A B : World} (h : Ext A B) : Adm m A B :=
 ⟨h.os,h.tape,h.output,h.size,fun k o hk _ => (Below.block h k (Array.getElem?_eq_some_iff.1 hk).1).trans hk⟩
theorem Adm.putObj {m l : Nat} {W : World} {o : Obj} (o' : Obj) (hl : W.heap[l]? = some o) (ho : o.isCells = false) (hm : m ≤ l) : Adm m W (W.putObj l o') :=
 ⟨rfl,rfl,rfl,by simp,fun k u hk hu => by
  have hne : k ≠ l := by
   rintro rfl;rw [hl] at hk;cases hk
   rcases hu with h | h
   ·omega
   ·rw [ho] at h;cases h
  exact (World.putObj_heap_other hne).trans hk⟩
theorem Adm.cell {m : Nat} {W W' : World} (h : Adm m W W') {a : Addr} {v : Value} (hc : W.cell? a = some v) : W'.cell? a = some v := by
 obtain ⟨o,ho,hcl⟩ := cells_of_cell hc;rw [← hc];exact World.cell?_of_block ((h.block _ o ho (.inr hcl)).trans ho.symm)
theorem Adm.frozen {m : Nat} {W W' : World} (h : Adm m W W') {a : Addr} {v : Value} (hc : W.cell? a = some v) : W'.frozen? a = W.frozen? a := by
 obtain ⟨o,ho,hcl⟩ := cells_of_cell hc;exact World.frozen?_of_block ((h.block _ o ho (.inr hcl)).trans ho.symm)
theorem Adm.below {m n : Nat} {w W W' : World} (h : Adm m W W') (hB : Below n w W) (hn : n ≤ w.heap.size) (hm : n ≤ m) : Below n w W' :=
 ⟨h.os.trans hB.os,h.tape.trans hB.tape,h.output.trans hB.output,Nat.le_trans hB.size h.size,fun k hk => by
  have hlt : k < W.heap.size := Nat.lt_of_lt_of_le hk (Nat.le_trans hn hB.size);rw [h.block k W.heap[k] (by simp [hlt]) (.inl (by omega)),← hB.block k hk]
  simp [hlt]⟩
theorem Adm.heap {m : Nat} {W W' : World} (h : Adm m W W') {k : Nat} {c : Array Value} {t : TypeId} {f : Nat × Nat} (hk : W.heap[k]? = some (.cells c t f)) : W'.heap[k]? = some (.cells c t f) := h.block k _ hk (.inr rfl)
theorem KeepsOthers.of_ext {A B : World} (h : Ext A B) : KeepsOthers A B := ⟨h.size,fun k o hk _ => (Below.block h k (Array.getElem?_eq_some_iff.1 hk).1).trans hk⟩
def Stab (m : Nat) (I : World → Prop) : Prop := ∀ W W',Adm m W W' → I W → I W'
def Iter (P : Program) (gf : Nat) (lb : Array Value) {α : Type} (encs : α → Array Value) (D : World → Prop) (xs : List α) : Prop :=
 ∀ (l : Nat) (J : Nat → World → Prop) (Jx : World → Prop) (W : World),
  (∀ k W,J k W → D W) → (∀ k W W',Ext W W' → J k W → J k W') → (∀ W W',Ext W W' → Jx W → Jx W') →
  (∀ k x W,xs[k]? = some x → J k W → YieldAt Fence.wide 0 P l (encs x) W fun e W' => (e = .returned (.bool true) ∧ J (k + 1) W') ∨ (e = .returned (.bool false) ∧ Jx W')) →
  J 0 W → CallsV P gf (#[.func (.yield l) #[] #[]] ++ lb) W fun _ W' => J xs.length W' ∨ Jx W'
def roundK (I : World → Prop) (Ix : Code → World → Prop) (W : World) : Post
 | .normal,_,_,W' => KeepsOthers W W' ∧ I W'
 | .ret,_,_,W' => KeepsOthers W W' ∧ Ix .ret W'
 | .exit id,_,_,W' => KeepsOthers W W' ∧ Ix (.exit id) W'
 | .goto t,_,_,W' => KeepsOthers W W' ∧ Ix (.goto t) W'
 | _,_,_,_ => False
def putL (ρ : Nat → Value) (l : List (Nat × Value)) : Nat → Value := l.foldl (fun r p => upd r p.1 p.2) ρ
@[go_sem] theorem putL_cons (ρ : Nat → Value) (p : Nat × Value) (l : List (Nat × Value)) : putL ρ (p :: l) = putL (upd ρ p.1 p.2) l := nr rfl
@[go_sem] theorem putL_nil (ρ : Nat → Value) : putL ρ [] = ρ := nr rfl
theorem put_list (N : Nat) : ∀ (l : List (Nat × Value)) (ρ : Nat → Value),l.foldl (fun t (p : Nat × Value) => t.setIfInBounds p.1 p.2) (actOf N ρ []).tmps = (actOf N (putL ρ l) []).tmps
 | [],_ => rfl
 | p :: l,ρ => by
   simp only [List.foldl_cons];have : (actOf N ρ []).tmps.setIfInBounds p.1 p.2 = (actOf N (upd ρ p.1 p.2) []).tmps := set_ofFn N ρ p.1 p.2;rw [this,put_list N l]
   rfl
theorem put_fold (N : Nat) (ρ : Nat → Value) (ds : List Deferred) (ps : Array Nat) (vs : Array Value) :
  ({ tmps := (ps.zip vs).foldl (fun t (p,v) => t.setIfInBounds p v) (actOf N ρ ds).tmps,defers := [] } : Act) = actOf N (putL ρ (ps.zip vs).toList) [] := by
 have h := put_list N (ps.zip vs).toList ρ;rw [← Array.foldl_toList]
 show ({ tmps := _,defers := [] } : Act) = { tmps := _,defers := [] }
 congr 1
abbrev markOf (r : Nat) : Deferred := { target := .collected r,args := #[] }
section
variable {P : Program} {N : Nat} {K : Post} {ρ : Nat → Value} {ds : List Deferred} {w : World}
theorem Wp.range {α : Type} {g : Operand} {ps : Array Nat} {assign body : Code} {gf : Nat} {lb : Array Value} {encs : α → Array Value} {D : World → Prop} {xs : List α}
  (hit : Iter P gf lb encs D xs) (hg : evN N ρ g = .func (.func gf) #[] lb) (eg : ∀ args w,(callFunc gf args).run P w = .ok (.enter gf args) w) (hps : ∀ x : α,(encs x).size = ps.size)
  (I : Nat → World → Prop) (Ix : Code → World → Prop) (hD : ∀ k W,I k W → D W) (hI : ∀ k,Stab w.heap.size (I k)) (hIx : ∀ c,Stab w.heap.size (Ix c)) (h0 : I 0 w)
  (hbody : ∀ (l k : Nat) (x : α) (W : World),xs[k]? = some x → I k W → w.heap.size ≤ l →
   Wp (Fence.wide.inRound l) P N assign (thenK (fun ρ₁ ds₁ W₁ => KeepsOthers W W₁ ∧ ∀ W₂,Adm w.heap.size W₁ W₂ → (∃ r,W₂.heap[l]? = some (.loop r)) →
    Wp (Fence.wide.inRound l) P N body (roundK (I (k + 1)) Ix W₂) ρ₁ ds₁ W₂) (fun _ _ _ _ => False)) (putL ρ (ps.zip (encs x)).toList) [] W)
  (hdone : ∀ (r : Nat) (W : World),w.heap.size ≤ r → I xs.length W → W.heap[r]? = some (.deferred (some [])) → K .normal ρ (markOf r :: ds) W)
  (hstop : ∀ (r : Nat) (c : Code) (W : World),w.heap.size ≤ r → Ix c W → W.heap[r]? = some (.deferred (some [])) → Wp Fence.wide P N c K ρ (markOf r :: ds) W) :
  Wp Fence.wide P N (.rangeFunc g ps assign body) K ρ ds w := by
 refine wpIn_rangeFunc ?_;intro fn hfn;obtain ⟨rec,hrec⟩ : ∃ rec : LoopState → Option Code → Loop,rec = fun st pe => { state := st,pending := pe,fn,tmps := (actOf N ρ ds).tmps,params := ps,assign,body,defers := w.heap.size } := ⟨_,rfl⟩;obtain ⟨W1,hW1⟩ : ∃ W1,(w.alloc (.deferred (some []))).alloc (.loop (rec .ready none)) = W1 := ⟨_,rfl⟩
 have hL1 : W1.heap[w.heap.size + 1]? = some (.loop (rec .ready none)) := by
  rw [← hW1];have := World.alloc_heap_new (w.alloc (.deferred (some []))) (.loop (rec .ready none));rwa [World.size_alloc] at this
 have hK1 : W1.heap[w.heap.size]? = some (.deferred (some [])) := by
  rw [← hW1];exact (Below.heap_alloc _ _ _ (by simp)).trans (World.alloc_heap_new w _)
 have hI1 : I 0 W1 := hI 0 _ _ (by rw [← hW1];exact (Adm.of_ext ((Ext.refl _).alloc _)).trans (Adm.of_ext ((Ext.refl _).alloc _))) h0
 refine ⟨w.heap.size + 1,[markOf w.heap.size],W1,{ target := .fn (.func gf) lb,args := #[.func (.yield (w.heap.size + 1)) #[] #[]] },W1,gf,
  #[.func (.yield (w.heap.size + 1)) #[] #[]] ++ lb,W1,?_,?_,fun _ _ => trivial,?_,fun e => by simp [Fence.wide] at e,?_⟩
 ·rw [← hW1,hrec];exact run_enterLoop_outer _ _ _ _ _
 ·simp only [resolve,eval_act,hg];simp [go_sem]
 ·simp [invoke,go_sem,eg]
 ·have hext : ∀ {X Y : World} {k : Nat} {o : Obj},Ext X Y → X.heap[k]? = some o → Y.heap[k]? = some o := fun h hk => (Below.block h _ (Array.getElem?_eq_some_iff.1 hk).1).trans hk
  refine (callsIn_wide (n := 0 - 1)).2 ((hit (w.heap.size + 1)
   (fun k W => I k W ∧ W.heap[w.heap.size + 1]? = some (.loop (rec .ready none)) ∧ W.heap[w.heap.size]? = some (.deferred (some [])))
   (fun W => ∃ c,Ix c W ∧ W.heap[w.heap.size + 1]? = some (.loop (rec .done (some c))) ∧ W.heap[w.heap.size]? = some (.deferred (some [])))
   W1 (fun k W h => hD k W h.1)
   (fun k X Y he h => ⟨hI k _ _ (Adm.of_ext he) h.1,hext he h.2.1,hext he h.2.2⟩)
   (fun X Y he h => by obtain ⟨c,h1,h2,h3⟩ := h;exact ⟨c,hIx c _ _ (Adm.of_ext he) h1,hext he h2,hext he h3⟩)
   ?_ ⟨hI1,hL1,hK1⟩).calls.mono ?_)
  ·rintro k x W hx ⟨hi,hl,hk⟩;have hlt : w.heap.size + 1 < W.heap.size := (Array.getElem?_eq_some_iff.1 hl).1;have hy := run_yield (P := P) (args := encs x) hl (by rw [hrec];exact hps x);rw [hrec] at hy;refine ⟨fn,_,assign,body,hy,roundIn_of_wpIn (F := Fence.wide) trivial ?_⟩
   dsimp only
   rw [put_fold];refine Go.wpIn_mono (hbody (w.heap.size + 1) k x W hx hi (by omega)) ?_;rintro e a1 W₁ ⟨ρ₁,ds₁,rfl,hq⟩
   cases e <;> first | exact hq.elim | skip
   obtain ⟨hko,hq⟩ := hq;have hl1 := hko.same _ _ hl rfl;have hk1 := hko.same _ _ hk rfl;refine ⟨_,run_beginRound hl1 (by rw [hrec]),?_⟩;have hlt1 : w.heap.size + 1 < W₁.heap.size := (Array.getElem?_eq_some_iff.1 hl1).1;have hl2 : (W₁.putObj (w.heap.size + 1) (.loop { rec .ready none with state := .busy })).heap[w.heap.size + 1]? = some (.loop { rec .ready none with state := .busy }) := World.putObj_heap_same hlt1;have hk2 : (W₁.putObj (w.heap.size + 1) (.loop { rec .ready none with state := .busy })).heap[w.heap.size]? = some (.deferred (some [])) := (World.putObj_heap_other (by omega)).trans hk1;refine Go.wpIn_mono (hq _ (Adm.putObj _ hl1 rfl (by omega)) ⟨_,hl2⟩) ?_
   have fin : ∀ (jump : Option Code) (W3 : World),KeepsOthers (W₁.putObj (w.heap.size + 1) (.loop { rec .ready none with state := .busy })) W3 →
     (Instr.endRound (w.heap.size + 1) jump).run P W3 = .ok (.bool jump.isNone) (W3.putObj (w.heap.size + 1) (.loop (rec (if jump.isNone then .ready else .done) jump))) ∧
     W3.heap[w.heap.size + 1]? = some (.loop { rec .ready none with state := .busy }) ∧
     (W3.putObj (w.heap.size + 1) (.loop (rec (if jump.isNone then .ready else .done) jump))).heap[w.heap.size + 1]? = some (.loop (rec (if jump.isNone then .ready else .done) jump)) ∧
     (W3.putObj (w.heap.size + 1) (.loop (rec (if jump.isNone then .ready else .done) jump))).heap[w.heap.size]? = some (.deferred (some [])) := fun jump W3 hk3 => by
    have hl3 := hk3.same _ _ hl2 rfl;have := run_endRound (P := P) jump hl3;rw [hrec] at this ⊢;exact ⟨this,by rw [hrec] at hl3;exact hl3,World.putObj_heap_same (Array.getElem?_eq_some_iff.1 hl3).1,(World.putObj_heap_other (by omega)).trans (hk3.same _ _ hk2 rfl)⟩
   rintro e a3 W3 ⟨ρ₃,ds₃,rfl,hp⟩
   cases e with
   | normal =>
     obtain ⟨hk3,hi3⟩ := hp;obtain ⟨hr,hl3,hl4,hk4⟩ := fin none W3 hk3;exact ⟨_,_,hr,.inl ⟨rfl,hI _ _ _ (Adm.putObj _ hl3 rfl (by omega)) hi3,hl4,hk4⟩⟩
   | ret =>
     obtain ⟨hk3,hi3⟩ := hp;obtain ⟨hr,hl3,hl4,hk4⟩ := fin (some .ret) W3 hk3;exact ⟨_,_,hr,.inr ⟨rfl,.ret,hIx _ _ _ (Adm.putObj _ hl3 rfl (by omega)) hi3,hl4,hk4⟩⟩
   | exit id =>
     obtain ⟨hk3,hi3⟩ := hp;obtain ⟨hr,hl3,hl4,hk4⟩ := fin (some (.exit id)) W3 hk3;exact ⟨_,_,hr,.inr ⟨rfl,.exit id,hIx _ _ _ (Adm.putObj _ hl3 rfl (by omega)) hi3,hl4,hk4⟩⟩
   | goto t =>
     obtain ⟨hk3,hi3⟩ := hp;obtain ⟨hr,hl3,hl4,hk4⟩ := fin (some (.goto t)) W3 hk3;exact ⟨_,_,hr,.inr ⟨rfl,.goto t,hIx _ _ _ (Adm.putObj _ hl3 rfl (by omega)) hi3,hl4,hk4⟩⟩
   | panic ch => exact hp.elim
   | outgrown => exact hp.elim
  ·rintro e W2 ⟨v,rfl,(⟨hi,hl,hk⟩ | ⟨c,hi,hl,hk⟩)⟩
   ·refine ⟨none,_,by have := run_endLoop (P := P) hl (by rw [hrec];simp);rw [hrec] at this;exact this,ρ,_,rfl,hdone _ _ (Nat.le_refl _) (hI _ _ _ (Adm.putObj _ hl rfl (by omega)) hi) ((World.putObj_heap_other (by omega)).trans hk)⟩
   ·exact ⟨some c,_,by have := run_endLoop (P := P) hl (by rw [hrec];simp);rw [hrec] at this;exact this,hstop _ c _ (Nat.le_refl _) (hIx c _ _ (Adm.putObj _ hl rfl (by omega)) hi) ((World.putObj_heap_other (by omega)).trans hk)⟩
end
def Marks (m : Nat) : List Deferred → World → Prop
 | [],_ => True
 | d :: ds,w => (∃ r,m ≤ r ∧ d = markOf r ∧ w.heap[r]? = some (.deferred (some [])) ∧ ∀ d' ∈ ds,d' ≠ markOf r) ∧ Marks m ds w
theorem Marks.one {m r : Nat} {w : World} (hm : m ≤ r) (h : w.heap[r]? = some (.deferred (some []))) : Marks m [markOf r] w := ⟨⟨r,hm,rfl,h,fun _ h => by cases h⟩,trivial⟩
structure Shut (m : Nat) (w w' : World) : Prop where
 os : w'.os = w.os
 tape : w'.tape = w.tape
 output : w'.output = w.output
 size : w'.heap.size = w.heap.size
 block : ∀ (k : Nat) (o : Obj),w.heap[k]? = some o → (k < m ∨ ∀ c,o ≠ .deferred c) → w'.heap[k]? = some o
section
variable {m : Nat}
theorem Shut.refl (w : World) : Shut m w w := ⟨rfl,rfl,rfl,rfl,fun _ _ h _ => h⟩
theorem Shut.trans {a b c : World} (h : Shut m a b) (k : Shut m b c) : Shut m a c :=
 ⟨k.os.trans h.os,k.tape.trans h.tape,k.output.trans h.output,k.size.trans h.size,fun i o hi ho => k.block i o (h.block i o hi ho) ho⟩
theorem Shut.put {w : World} {r : Nat} {c : Option (List Deferred)} (hm : m ≤ r) (h : w.heap[r]? = some (.deferred c)) : Shut m w (w.putObj r (.deferred none)) :=
 ⟨rfl,rfl,rfl,by simp,fun k o hk ho => by
  have hne : k ≠ r := by
   rintro rfl;rw [h] at hk;cases hk
   rcases ho with ho | ho
   ·omega
   ·exact ho _ rfl
  exact (World.putObj_heap_other hne).trans hk⟩
theorem Shut.same {w w' : World} (h : Shut m w w') {a : Addr} {v : Value} (hc : w.cell? a = some v) : w'.heap[a.block]? = w.heap[a.block]? := by
 obtain ⟨o,ho,hcl⟩ := cells_of_cell hc;exact (h.block _ o ho (.inr (by rintro c rfl;cases hcl))).trans ho.symm
theorem Shut.cell {w w' : World} (h : Shut m w w') {a : Addr} {v : Value} (hc : w.cell? a = some v) : w'.cell? a = some v := by
 rw [← hc];exact World.cell?_of_block (h.same hc)
theorem Shut.heap {w w' : World} (h : Shut m w w') {k : Nat} {c : Array Value} {t : TypeId} {f : Nat × Nat} (hk : w.heap[k]? = some (.cells c t f)) : w'.heap[k]? = some (.cells c t f) := h.block k _ hk (.inr (by rintro _ e;cases e))
theorem Shut.ext {w W W' : World} (h : Ext w W) (hS : Shut w.heap.size W W') : Ext w W' :=
 ⟨hS.os.trans h.os,hS.tape.trans h.tape,hS.output.trans h.output,by rw [hS.size];exact h.size,fun k hk => by
  have hlt : k < W.heap.size := Nat.lt_of_lt_of_le hk h.size;rw [hS.block k W.heap[k] (by simp [hlt]) (.inl hk),← h.block k hk]
  simp [hlt]⟩
end
def endM (P : Program) (N : Nat) (fn : Func) (m : Nat) (R : Value → World → Prop) : Post
 | .normal,ρ,ds,w | .ret,ρ,ds,w => Marks m ds w ∧ ∀ w',Shut m w w' → ∃ v,(results fn (actOf N ρ []).tmps).run P w' = .ok v w' ∧ R v w'
 | _,_,_,_ => False
theorem Marks.put {m : Nat} : ∀ {ds : List Deferred} {w : World} {r : Nat},Marks m ds w → (∀ d' ∈ ds,d' ≠ markOf r) → Marks m ds (w.putObj r (.deferred none))
 | [],_,_,_,_ => trivial
 | d :: ds,w,r,⟨⟨r',hm',hd,hh,hn⟩,hm⟩,hne => by
   refine ⟨⟨r',hm',hd,?_,hn⟩,Marks.put hm fun d' hd' => hne d' (List.mem_cons_of_mem _ hd')⟩;have : r' ≠ r := fun e => hne d (List.mem_cons_self) (by rw [hd,e]);exact (World.putObj_heap_other this).trans hh
theorem leaves_marks {P : Program} {fn : Func} {tmps : Array Value} {R : Value → World → Prop} {m : Nat} :
  ∀ (ds : List Deferred) (w : World),Marks m ds w → (∀ w',Shut m w w' → ∃ v,(results fn tmps).run P w' = .ok v w' ∧ R v w') →
   LeavesInM Fence.wide 0 P fn tmps (fun e w' => ∃ v,e = .returned v ∧ R v w') ds .returning w
 | [],w,_,h => by
   obtain ⟨v,hr,hR⟩ := h w (Shut.refl w);exact ⟨v,hr,v,rfl,hR⟩
 | d :: ds,w,⟨⟨r,hmr,hd,hh,hn⟩,hm⟩,h => by
   refine ⟨by simp,.inl ⟨r,_,by rw [hd],run_takeDeferred hh,?_⟩⟩;exact leaves_marks ds _ (Marks.put hm hn) fun w' hw' => h w' ((Shut.put hmr hh).trans hw')
theorem Wp.fnM {P : Program} {f : FuncId} {fn : Func} {c : Code} {args : Array Value} {w : World} {R : Value → World → Prop} {N : Nat}
  (hf : P.funcs[f]? = some fn) (hb : fn.body = some c) (hN : fn.ntmps = N) (hs : args.size ≤ N)
  (h : Wp Fence.wide P N c (endM P N fn w.heap.size R) (envOf args) [] w) : CallsV P f args w R := by
 refine (callsIn_wide (n := 0)).1 (callsIn_of_wp_marks hf hb trivial ?_);rw [hN,enter_act hs];refine Go.wpIn_mono h ?_;rintro e a w' ⟨ρ',ds',rfl,hq⟩
 cases e <;> first | exact hq.elim | skip
 ·exact leaves_marks _ _ hq.1 hq.2
 ·exact leaves_marks _ _ hq.1 hq.2
end Go.Wk
namespace Go.Wk
open Go.RowKit
def AllEq : List Nat → (Nat → Value) → (Nat → Value) → Prop
 | [],_,_ => True
 | t :: l,ρ',ρ => ρ' t = ρ t ∧ AllEq l ρ' ρ
theorem AllEq.refl : ∀ (l : List Nat) (ρ : Nat → Value),AllEq l ρ ρ
 | [],_ => trivial
 | _ :: l,ρ => ⟨rfl,AllEq.refl l ρ⟩
theorem XE {p : Prop} (h : p := by repeat (first | assumption | exact Ext.refl _ | refine Ext.drew ?_ | refine Ext.alloc ?_ _ | refine Ext.trans ?_ (by assumption))) : p := h
theorem XR {p : Prop} (h : p := by first | assumption | exact Ext.refl _) : p := h
theorem XA {p : Prop} (h : p := by first | exact (Ext.refl _).alloc _ | exact Ext.refl _) : p := h
theorem XN {p : Prop} (h : p := by intro hm;simp only [List.mem_cons,List.not_mem_nil,or_false] at hm;omega) : p := h
theorem XL {p : Prop} (h : p := by intro b hm;simp only [List.mem_cons,List.not_mem_nil,or_false] at hm;omega) : p := h
theorem XB {p : Prop} (h : p := by first | (intro b hb hm;simp at hm;omega) | (simp;omega)) : p := h
section
variable {F : Fence} {P : Program} {N : Nat} {K : Post} {ρ : Nat → Value} {ds : List Deferred} {w : World}
theorem Wp.keep {c : Code} (l : List Nat) (h : ∀ ρ',AllEq l ρ' ρ → Wp F P N c K ρ' ds w) : Wp F P N c K ρ ds w := h ρ (AllEq.refl l ρ)
end
section
variable {F : Fence} {P : Program} {N : Nat} {gd : Nat → Option Nat} {K : (Nat → Value) → World → Prop} {ρ : Nat → Value} {w : World}
theorem Wops_append : ∀ (A B : List Oper) (ρ : Nat → Value) (w : World),Wops F P N gd (fun ρ w => Wops F P N gd K B ρ w) A ρ w → Wops F P N gd K (A ++ B) ρ w
 | [],_,_,_,h => h
 | o :: A,B,ρ,w,h => by
   simp only [List.cons_append,Wops] at h ⊢
   split
   ·rename_i hg
    rw [if_pos hg] at h;exact Wstep_mono (fun ρ w hk => Wops_append A B ρ w hk) h
   ·rename_i hg
    rw [if_neg hg] at h;exact Wops_append A B _ w h
theorem Wops.cut {L : List Oper} (n : Nat) (h : ∀ K1 : (Nat → Value) → World → Prop,(∀ ρ w,Wops F P N gd K (L.drop n) ρ w → K1 ρ w) → Wops F P N gd K1 (L.take n) ρ w) : Wops F P N gd K L ρ w := by
 have := Wops_append (K := K) (L.take n) (L.drop n) ρ w (h _ (fun _ _ h => h))
 rwa [List.take_append_drop] at this
theorem Wops.law {o : Oper} {L : List Oper} {v : Value} {w' : World} (hg : o.guard = none) (hrun : (execOp (evN N ρ) o).run P w = .ok (.value v) w') (h : Wops F P N gd K L (updO ρ o.dst v) w') : Wops F P N gd K (o :: L) ρ w := by
 simp only [Wops,hg,guardOk_none,if_true,hrun,Wstep];exact h
theorem Wstep.law {r : Result Next} {v : Value} {w' : World} {d : Option Nat} {next : (Nat → Value) → World → Prop} (hrun : r = .ok (.value v) w') (h : next (updO ρ d v) w') : Wstep F P N next d ρ r := by
 rw [hrun];exact h
end
theorem Wyield {P : Program} {N : Nat} {ρ : Nat → Value} {w : World} {l : Nat} {f : FuncId} {tmps : Array Value} {as bo : Code} {R : Ending → World → Prop} {next : (Nat → Value) → World → Prop} {d : Option Nat}
  (hR : RoundIn Fence.wide 0 P l f tmps as bo w R) (h : ∀ e w',R e w' → ∃ v,e = .returned v ∧ next (updO ρ d v) w') : Wstep Fence.wide P N next d ρ (.ok (.round l f tmps as bo) w) := RoundIn.mono hR h
def Ends (K : Post) (ρ : Nat → Value) (ds : List Deferred) (w : World) : Prop := K .normal ρ ds w
theorem Ends.mk {K : Post} {ρ : Nat → Value} {ds : List Deferred} {w : World} (h : K .normal ρ ds w) : Ends K ρ ds w := h
theorem Ends.keep {K : Post} {ρ : Nat → Value} {ds : List Deferred} {w : World} (l : List Nat) (h : ∀ ρ',AllEq l ρ' ρ → Ends K ρ' ds w) : Ends K ρ ds w := h ρ (AllEq.refl l ρ)
theorem Wp.loneRegion {F : Fence} {P : Program} {N : Nat} {K : Post} {ρ : Nat → Value} {ds : List Deferred} {w : World} (hF : F = Fence.wide ∨ ∃ l,F = Fence.wide.inRound l) {id : Nat} {L : List Oper}
  (hnd : noDefer L.toArray = true)
  (h : ∀ (K' : (Nat → Value) → World → Prop) (gd : Nat → Option Nat),(∀ ρ w,Ends K ρ ds w → K' ρ w) → (∀ j,gd j = (L[j]?).bind (·.dst)) → Wops F P N gd K' L ρ w) : Wp F P N (Code.region id L.toArray false) K ρ ds w := Wp.region hF hnd h
theorem Wp.loneDraw {F : Fence} {P : Program} {N : Nat} {ds : List Deferred} {K : Post} {ρ : Nat → Value} {w : World} (hF : F = Fence.wide ∨ ∃ l,F = Fence.wide.inRound l) (hm : P.follows .mixedOrders = true) {id : Nat} {L : List Oper} (S : Plan)
  (hc : (noDefer L.toArray && decide ((segs S).length = L.toArray.size) && okOrder L.toArray (tailOf S) (Array.replicate L.toArray.size false) (segs S) && slotsOk L (tailOf S) S) = true)
  (h : ∀ (K' : (Nat → Value) → World → Prop) (gd : Nat → Option Nat),(∀ ρ w,Ends K ρ ds w → K' ρ w) → (∀ j,gd j = (L[j]?).bind (·.dst)) → Mops F P N gd K' (pick L S) ρ w.drew) : Wp F P N (Code.region id L.toArray true) K ρ ds w := Wp.draw hF hm S hc h
theorem if_pos_of {c : Prop} [Decidable c] {a b : Prop} (h : c) (ha : a) : if c then a else b := by rw [if_pos h];exact ha
theorem endK_tmp3 {P : Program} {N : Nat} {fn : Func} {R : Value → World → Prop} {ρ : Nat → Value} {w : World} {t u x : Nat} (hr : fn.results = #[.tmp t,.tmp u,.tmp x]) (ht : t < N) (hu : u < N) (hx : x < N) (h : R (.tuple #[ρ t,ρ u,ρ x]) w) : endK P N fn R .ret ρ [] w := by
 refine ⟨rfl,.tuple #[ρ t,ρ u,ρ x],?_,h⟩
 have g : ∀ {z : Nat},z < N → (actOf N ρ []).tmps[z]?.getD undef = ρ z := fun {z} hz => by
  have := get?_act N ρ [] z;rw [if_pos hz] at this;rw [this];rfl
 simp only [results,hr];simp [g ht,g hu,g hx]
theorem endM_tmp {P : Program} {N m : Nat} {fn : Func} {R : Value → World → Prop} {ρ : Nat → Value} {ds : List Deferred} {w : World} {t : Nat} (hr : fn.results = #[.tmp t]) (ht : t < N) (hm : Marks m ds w) (h : ∀ w',Shut m w w' → R (ρ t) w') : endM P N fn m R .ret ρ ds w := by
 refine ⟨hm,fun w' hw => ⟨_,results_tmp hr _ _ _,?_⟩⟩;rw [getD_act,if_pos ht];exact h w' hw
theorem endM_tmp2 {P : Program} {N m : Nat} {fn : Func} {R : Value → World → Prop} {ρ : Nat → Value} {ds : List Deferred} {w : World} {t u : Nat} (hr : fn.results = #[.tmp t,.tmp u]) (ht : t < N) (hu : u < N) (hm : Marks m ds w) (h : ∀ w',Shut m w w' → R (.tuple #[ρ t,ρ u]) w') : endM P N fn m R .ret ρ ds w := by
 refine ⟨hm,fun w' hw => ⟨_,results_tmp2 hr _ _ _,?_⟩⟩;rw [getD_act,if_pos ht,getD_act,if_pos hu];exact h w' hw
theorem endK_none {P : Program} {N : Nat} {fn : Func} {R : Value → World → Prop} {ρ : Nat → Value} {w : World} (hr : fn.results = #[]) (h : R (.tuple #[]) w) : endK P N fn R .ret ρ [] w := ⟨rfl,_,results_none hr _ _ _,h⟩
theorem endN_none {P : Program} {N : Nat} {fn : Func} {R : Value → World → Prop} {ρ : Nat → Value} {w : World} (hr : fn.results = #[]) (h : R (.tuple #[]) w) : endK P N fn R .normal ρ [] w := ⟨rfl,_,results_none hr _ _ _,h⟩
theorem cell_lt {w : World} {a : Addr} {v : Value} (h : w.cell? a = some v) : a.block < w.heap.size := by
 obtain ⟨o,ho,_⟩ := cells_of_cell h;exact (Array.getElem?_eq_some_iff.1 ho).1
theorem Ext.cellsS {a b : World} (h : Ext a b) : ∀ k o,(a.cell? ⟨k,o,none⟩).isSome = true → b.cell? ⟨k,o,none⟩ = a.cell? ⟨k,o,none⟩ := fun k o hs => by
 obtain ⟨v,hv⟩ := Option.isSome_iff_exists.1 hs;exact Below.cell (p := ⟨k,o,none⟩) h (cell_lt hv)
theorem _root_.Go.RowKit.Below.cellsS {a b : World} {B : Nat} (h : Below B a b) : ∀ k o,k < B → b.cell? ⟨k,o,none⟩ = a.cell? ⟨k,o,none⟩ := fun k o hk => Below.cell (p := ⟨k,o,none⟩) h hk
@[go_sem] theorem cell_alloc_some {w : World} {o : Obj} {k i : Nat} (h : (w.cell? ⟨k,i,none⟩).isSome = true) : (w.alloc o).cell? ⟨k,i,none⟩ = w.cell? ⟨k,i,none⟩ := by
 obtain ⟨v,hv⟩ := Option.isSome_iff_exists.1 h;exact World.cell?_alloc_lt w o _ (cell_lt hv)
theorem cell_al {w : World} {a : Addr} {v : Value} (o : Obj) (h : w.cell? a = some v) : (w.alloc o).cell? a = some v := (World.cell?_alloc_lt w o a (cell_lt h)).trans h
theorem cell_nw (w : World) (cs : Array Value) (t : TypeId) (i : Nat) : (w.alloc (.cells cs t)).cell? ⟨w.heap.size,i,none⟩ = cs[i]? := cell_of_row _ w.heap.size i cs t (0,0) (World.alloc_heap_new w _)
theorem frozen_nw (w : World) (cs : Array Value) (t : TypeId) (i : Nat) : (w.alloc (.cells cs t)).frozen? ⟨w.heap.size,i,none⟩ = false := by
 have h : (w.alloc (.cells cs t)).heap[w.heap.size]? = some (.cells cs t (0,0)) := World.alloc_heap_new w _;unfold World.frozen?;rw [h];simp
theorem cell_drew {w : World} {a : Addr} {v : Value} (h : w.cell? a = some v) : w.drew.cell? a = some v := h
theorem Ext.cell {a b : World} (h : Ext a b) {p : Addr} {v : Value} (hc : a.cell? p = some v) : b.cell? p = some v := (Below.cell h (cell_lt hc)).trans hc
theorem Ext.frozen {a b : World} (h : Ext a b) {p : Addr} {v : Value} (hc : a.cell? p = some v) : b.frozen? p = a.frozen? p := Below.frozen h (cell_lt hc)
theorem enters_of {P : Program} {f : FuncId} {fn : Func} {c : Code} (hf : P.funcs[f]? = some fn) (hname : (fn.name == "runtime.NumGoroutine") = false) (hb : fn.body = some c) :
  ∀ args w,(callFunc f args).run P w = .ok (.enter f args) w := by
 intro args w;have hname' : ¬ fn.name = "runtime.NumGoroutine" := by simpa using hname
 simp [callFunc,program,Sem.run_bind,Sem.run,Result.andThen,hf,hname',hb,Sem.run_pure]
@[go_sem] theorem lt_more {a b k : Nat} (h : a < b) : (a < b + k) = True := eq_true (by omega)
theorem exec_append {P : Program} {ev : Operand → Value} {o : Oper} {s x : Operand} {t : TypeId} (ho : o.op = .call { callee := .builtin .append,args := #[s,x],argTypes := #[t,t] }) {v : Value} {w w' : World}
  (h : (Builtin.append_ #[t,t] o.type #[ev s,ev x]).run P w = .ok v w') : (execOp ev o).run P w = .ok (.value v) w' := by
 unfold execOp;simp only [ho,resolve,invoke,builtin,Sem.run_bind,Sem.run_pure,Result.andThen_ok,List.map_toArray,List.map_cons,List.map_nil,h]
theorem exec_copy {P : Program} {ev : Operand → Value} {o : Oper} {s x : Operand} {t : TypeId} (ho : o.op = .call { callee := .builtin .copy,args := #[s,x],argTypes := #[t,t] }) {v : Value} {w w' : World}
  (h : (Builtin.copy_ #[t,t] o.type #[ev s,ev x]).run P w = .ok v w') : (execOp ev o).run P w = .ok (.value v) w' := by
 unfold execOp;simp only [ho,resolve,invoke,builtin,Sem.run_bind,Sem.run_pure,Result.andThen_ok,List.map_toArray,List.map_cons,List.map_nil,h]
theorem exec_append2 {P : Program} {ev : Operand → Value} {o : Oper} {s x : Operand} {t : TypeId} (ho : o.op = .call { callee := .builtin .append,args := #[s,x],argTypes := #[t,t] }) {v vs vx : Value} {w w' : World}
  (h : (Builtin.append_ #[t,t] o.type #[vs,vx]).run P w = .ok v w') (h1 : ev s = vs) (h2 : ev x = vx) : (execOp ev o).run P w = .ok (.value v) w' := exec_append ho (by rw [h1,h2];exact h)
theorem exec_copy2 {P : Program} {ev : Operand → Value} {o : Oper} {s x : Operand} {t : TypeId} (ho : o.op = .call { callee := .builtin .copy,args := #[s,x],argTypes := #[t,t] }) {v vs vx : Value} {w w' : World}
  (h : (Builtin.copy_ #[t,t] o.type #[vs,vx]).run P w = .ok v w') (h1 : ev s = vs) (h2 : ev x = vx) : (execOp ev o).run P w = .ok (.value v) w' := exec_copy ho (by rw [h1,h2];exact h)
end Go.Wk
namespace Go.Wk
open Go.RowKit
set_option linter.unusedVariables false
inductive PT where
 | nil
 | read (i : Nat) (t : PT)
 | pure (i : Nat) (t : PT)
 | act (i : Nat) (t : PT)
 | both (a b : PT)
def PT.len : PT → Nat
 | .nil => 0
 | .read _ t => t.len + 1
 | .pure _ t => t.len + 1
 | .act _ t => t.len + 1
 | .both a _ => a.len
def PT.firsts : PT → List Nat
 | .act i _ => [i]
 | .both a b => a.firsts ++ b.firsts
 | _ => []
section
variable {F : Fence} {n : Nat} {P : Program} {ops : Array Oper} {T : List Nat}
def ReadsP (P : Program) (ops : Array Oper) (o : Oper) (v : Value) (a : Act) : Prop :=
 (Region.wanted o (yielded ops a.tmps) = true ∧ ∀ w',(execOp a.eval o).run P w' = .ok (.value v) w') ∨
 (Region.wanted o (yielded ops a.tmps) = false ∧ v = undef)
theorem ReadsP.of_same {o : Oper} {v : Value} {a a' : Act} (hy : ReadsP P ops o v a) (he : execOp a'.eval o = execOp a.eval o)
  (hw : Region.wanted o (yielded ops a'.tmps) = Region.wanted o (yielded ops a.tmps)) : ReadsP P ops o v a' := by
 unfold ReadsP at *;rw [he,hw];exact hy
theorem ReadsP.reads {o : Oper} {v : Value} {a : Act} (hy : ReadsP P ops o v a) (w : World) : Reads P ops o v a w := by
 rcases hy with ⟨h1,h2⟩ | h
 ·exact .inl ⟨h1,fun w' _ => h2 w'⟩
 ·exact .inr h
theorem stepE_putP (hF : ∀ f,F.fn f) {j : Nat} {oi oj : Oper} {v : Value} (hj : ops[j]? = some oj) (hap : oi.apart ops oj = true)
  (hsi : ∀ cs b,oi.op ≠ .select cs b) (hsj : ∀ cs b,oj.op ≠ .select cs b) (hdj : ∀ c,oj.op ≠ .defer c) {K : Act → World → Prop} {a : Act} {w : World}
  (hy : ReadsP P ops oi v a) (h : stepE F n P ops T j K (a.put oi.dst v) w) :
  stepE F n P ops T j (fun a' w' => ReadsP P ops oi v a' ∧ K (a'.put oi.dst v) w') a w := by
 obtain ⟨h1,h2,h3⟩ := Oper.apart_spec hap;have keep : ∀ u,ReadsP P ops oi v (a.put oj.dst u) := fun u => hy.of_same (execOp_put oi hsi a oj.dst u h3) (wanted_put oi a oj.dst u h3);unfold stepE at *;rw [hj] at h ⊢
 dsimp only at h ⊢
 rw [wanted_put oj a oi.dst v h1] at h
 split
 ·rename_i hw
  rw [if_pos hw] at h;unfold Oper.wpIn at *;rw [semAt_eq _ _ _ hdj,execOp_put oj hsj a oi.dst v h1] at h;rw [semAt_eq _ _ _ hdj];refine ⟨fun f _ => hF f,?_⟩;replace h := h.2
  generalize (execOp a.eval oj).run P w = r at *
  cases r with
  | ok x w' =>
    cases x <;> simp only [Oper.uponIn] at h ⊢
    case value u => exact ⟨h.1,keep u,by rw [← Act.put_comm a v u h2];exact h.2⟩
    case skip => exact ⟨h.1,keep _,by rw [← Act.put_comm a v undef h2];exact h.2⟩
    case defer d =>
     obtain ⟨e,hk⟩ := h;refine ⟨e,?_,?_⟩
     ·exact (hy.of_same (a' := { a with defers := d :: a.defers }) rfl rfl).of_same (execOp_put oi hsi _ oj.dst _ h3) (wanted_put oi _ oj.dst _ h3)
     ·rw [← Act.put_comm _ v undef h2,← Act.put_defers];exact hk
    case enter f args =>
     refine ⟨h.1,CallsIn.mono h.2 fun e w'' he => ?_⟩
     cases e with
     | returned u => exact ⟨he.1,keep u,by rw [← Act.put_comm a v u h2];exact he.2⟩
     | panicked c => exact he
     | outgrown => exact he
    case row row args => exact ⟨h.1,RowsIn.mono h.2 fun u w'' he => ⟨he.1,keep u,by rw [← Act.put_comm a v u h2];exact he.2⟩⟩
    case round l f tmps as bo =>
     refine ⟨h.1,RoundIn.mono h.2 fun e w'' he => ?_⟩
     cases e with
     | returned u => exact ⟨he.1,keep u,by rw [← Act.put_comm a v u h2];exact he.2⟩
     | panicked c => exact he
     | outgrown => exact he
  | halt x w' =>
    cases x <;> simp only [Oper.uponIn] at h ⊢
 ·rename_i hw
  rw [if_neg hw] at h;exact ⟨keep _,by rw [← Act.put_comm a v undef h2];exact h⟩
theorem anyE_takeP (hF : ∀ f,F.fn f) (hnd : noDefer ops = true) {K : Act → World → Prop} {i : Nat} {oi : Oper} {v : Value} (hi : ops[i]? = some oi) :
  ∀ (fuel : Nat) (listed : Array Bool) (a : Act) (w : World),Closed ops listed →
   (∀ j oj,ops[j]? = some oj → j ≠ i → listed.getD j true = false → (∀ e ∈ oj.after,Region.binds .any e = true → e.on ≠ i) → oi.apart ops oj = true) →
   i ∈ Region.ready .any ops listed → ReadsP P ops oi v a →
   anyE F n P ops T K fuel (listed.setIfInBounds i true) (a.put oi.dst v) w → anyE F n P ops T K (fuel + 1) listed a w := by
 have hdi := noDefer_spec hnd hi;intro fuel
 induction fuel with
 | zero =>
   intro listed a w _ _ hr hy H;refine ⟨fun h => (by rw [h] at hr;cases hr),fun j hj => ?_⟩
   by_cases hji : j = i
   ·subst hji;exact (hy.reads w).step hF hi hdi.1 H
   ·have := ready_mono hj hji;rw [H.1] at this
    cases this
 | succ fuel ih =>
   intro listed a w hcl hfree hr hy H;refine ⟨fun h => (by rw [h] at hr;cases hr),fun j hj => ?_⟩
   by_cases hji : j = i
   ·subst hji;exact (hy.reads w).step hF hi hdi.1 H
   ·have h1 := H.2 j (ready_mono hj hji);obtain ⟨hjun,oj,hoj,hall⟩ := mem_ready.1 hj
    have hnot : ∀ e ∈ oj.after,Region.binds .any e = true → e.on ≠ i := fun e he hb heq => by
     have h1 := hall e he hb;have h0 := (mem_ready.1 hr).1;rw [heq] at h1
     rcases Nat.lt_or_ge i listed.size with h' | h'
     ·simp [h'] at h0 h1;rw [h0] at h1;cases h1
     ·simp [Array.getElem?_eq_none h'] at h1
    have hdj := noDefer_spec hnd hoj;have h2 := stepE_putP hF hoj (hfree j oj hoj hji hjun hnot) hdi.2 hdj.2 hdj.1 hy h1
    have hfree' : ∀ k ok,ops[k]? = some ok → k ≠ i → (listed.setIfInBounds j true).getD k true = false →
      (∀ e ∈ ok.after,Region.binds .any e = true → e.on ≠ i) → oi.apart ops ok = true := fun k ok hk hki hun hno => by
     refine hfree k ok hk hki ?_ hno
     by_cases hjk : j = k
     ·subst hjk;exact hjun
     ·rw [getD_set_ne true hjk] at hun;exact hun
    refine stepE_mono (fun a' w' _ h3 => ih (listed.setIfInBounds j true) a' w' (closed_set hcl hj) hfree' (ready_mono hr (Ne.symm hji)) h3.1 ?_) h2;rw [Array.setIfInBounds_comm _ _ hji];exact h3.2
def monoT (F : Fence) (n : Nat) (P : Program) (ops : Array Oper) (T : List Nat) (K : Act → World → Prop) : PT → Act → World → Prop
 | .nil,a,w => K a w
 | .read i t,a,w => ∃ v,Reads P ops (ops.getD i default) v a w ∧ monoT F n P ops T K t (a.put (ops.getD i default).dst v) w
 | .pure i t,a,w => ∃ v,ReadsP P ops (ops.getD i default) v a ∧ monoT F n P ops T K t (a.put (ops.getD i default).dst v) w
 | .act i t,a,w => stepE F n P ops T i (monoT F n P ops T K t) a w
 | .both x y,a,w => monoT F n P ops T K x a w ∧ monoT F n P ops T K y a w
def okT (ops : Array Oper) (T : List Nat) : Bool → Array Bool → PT → Bool
 | inb,listed,.nil => !inb && (Region.ready .any ops listed).isEmpty
 | inb,listed,.read i t => !inb && (i < ops.size && ((Region.ready .any ops listed).contains i && Region.free .any ops listed i && tailWaits ops T i)) && okT ops T false (listed.setIfInBounds i true) t
 | inb,listed,.pure i t => !inb && (i < ops.size && ((Region.ready .any ops listed).contains i && Region.free .any ops listed i)) && okT ops T false (listed.setIfInBounds i true) t
 | inb,listed,.act i t => (i < ops.size && (if inb then (Region.ready .any ops listed).contains i else Region.ready .any ops listed == [i])) && okT ops T false (listed.setIfInBounds i true) t
 | inb,listed,.both a b => (inb || (Region.ready .any ops listed).all fun i => (a.firsts ++ b.firsts).contains i) && a.len == b.len && okT ops T true listed a && okT ops T true listed b
theorem okT_pick {K : Act → World → Prop} {listed : Array Bool} {a : Act} {w : World} : ∀ (t : PT) (inb : Bool),okT ops T inb listed t = true → monoT F n P ops T K t a w → ∀ i ∈ t.firsts,
  ∃ t',okT ops T false (listed.setIfInBounds i true) t' = true ∧ t'.len + 1 = t.len ∧ stepE F n P ops T i (monoT F n P ops T K t') a w := by
 intro t
 induction t with
 | nil => intro _ _ _ i hi;cases hi
 | read j t _ => intro _ _ _ i hi;cases hi
 | pure j t _ => intro _ _ _ i hi;cases hi
 | act j t _ =>
   intro inb hok h i hi;simp only [PT.firsts,List.mem_singleton] at hi;subst hi;simp only [okT,Bool.and_eq_true] at hok;exact ⟨t,hok.2,rfl,h⟩
 | both x y ihx ihy =>
   intro inb hok h i hi;simp only [okT,Bool.and_eq_true,beq_iff_eq] at hok;simp only [PT.firsts,List.mem_append] at hi
   rcases hi with hi | hi
   ·obtain ⟨t',h1,h2,h3⟩ := ihx true hok.1.2 h.1 i hi;exact ⟨t',h1,h2,h3⟩
   ·obtain ⟨t',h1,h2,h3⟩ := ihy true hok.2 h.2 i hi;exact ⟨t',h1,by rw [h2];exact hok.1.1.2.symm,h3⟩
theorem okT_first {listed : Array Bool} : ∀ (t : PT),okT ops T true listed t = true → ∃ i,i ∈ t.firsts ∧ i ∈ Region.ready .any ops listed := by
 intro t
 induction t with
 | nil => intro h;simp [okT] at h
 | read i t _ => intro h;simp [okT] at h
 | pure i t _ => intro h;simp [okT] at h
 | act i t _ =>
   intro h;simp only [okT,if_true,Bool.and_eq_true,List.contains_iff_mem] at h;exact ⟨i,List.mem_singleton.2 rfl,h.1.2⟩
 | both a b iha _ =>
   intro h;simp only [okT,Bool.and_eq_true] at h;obtain ⟨i,h1,h2⟩ := iha h.1.2;exact ⟨i,List.mem_append_left _ h1,h2⟩
theorem monoT_anyE (hF : ∀ f,F.fn f) (hnd : noDefer ops = true) {K : Act → World → Prop} :
  ∀ (m : Nat) (t : PT),t.len = m → ∀ (listed : Array Bool) (a : Act) (w : World),Closed ops listed → okT ops T false listed t = true → monoT F n P ops T K t a w → anyE F n P ops T K m listed a w := by
 intro m
 induction m with
 | zero =>
   intro t ht listed a w hcl hok h
   cases t with
   | nil => exact ⟨by simpa [okT] using hok,h⟩
   | read i t => simp [PT.len] at ht
   | pure i t => simp [PT.len] at ht
   | act i t => simp [PT.len] at ht
   | both x y =>
     exfalso
     have hok' := hok;simp only [okT,Bool.and_eq_true] at hok';obtain ⟨i,h1,_⟩ := okT_first x hok'.1.2;obtain ⟨t',_,h2,_⟩ := okT_pick (F := F) (n := n) (P := P) (K := K) (.both x y) false hok h i (List.mem_append_left _ h1);omega
 | succ m ih =>
   intro t ht listed a w hcl hok h
   cases t with
   | nil => simp [PT.len] at ht
   | read i t =>
     simp only [okT,Bool.not_false,Bool.true_and,Bool.and_eq_true,decide_eq_true_eq,List.contains_iff_mem] at hok;obtain ⟨⟨hlt,hc⟩,hok⟩ := hok;obtain ⟨v,hy,h⟩ := h;have hi : ops[i]? = some (ops.getD i default) := by simp [hlt]
     have hl : t.len = m := by simpa [PT.len] using ht
     exact anyE_take hF hnd hi hc.2 _ _ _ _ hcl (Region.free_spec hi hc.1.2) hc.1.1 hy (ih t hl _ _ _ (closed_set hcl hc.1.1) hok h)
   | pure i t =>
     simp only [okT,Bool.not_false,Bool.true_and,Bool.and_eq_true,decide_eq_true_eq,List.contains_iff_mem] at hok;obtain ⟨⟨hlt,hc⟩,hok⟩ := hok;obtain ⟨v,hy,h⟩ := h;have hi : ops[i]? = some (ops.getD i default) := by simp [hlt]
     have hl : t.len = m := by simpa [PT.len] using ht
     exact anyE_takeP hF hnd hi _ _ _ _ hcl (Region.free_spec hi hc.2) hc.1 hy (ih t hl _ _ _ (closed_set hcl hc.1) hok h)
   | act i t =>
     simp only [okT,Bool.false_eq_true,if_false,Bool.and_eq_true,decide_eq_true_eq,beq_iff_eq] at hok;obtain ⟨⟨hlt,hc⟩,hok⟩ := hok;have hl : t.len = m := by simpa [PT.len] using ht
     refine ⟨fun h0 => (by rw [hc] at h0;cases h0),fun j hj => ?_⟩;rw [hc] at hj;obtain rfl : j = i := by simpa using hj
     exact stepE_mono (fun a' w' _ hk => ih t hl _ _ _ (closed_set hcl (by rw [hc];exact List.mem_singleton.2 rfl)) hok hk) h
   | both x y =>
     have hok' := hok;simp only [okT,Bool.false_or,Bool.and_eq_true,List.all_eq_true,List.contains_iff_mem] at hok';refine ⟨fun h0 => ?_,fun i hi => ?_⟩
     ·obtain ⟨i,_,h2⟩ := okT_first x hok'.1.2;rw [h0] at h2;cases h2
     ·obtain ⟨t',h1,h2,h3⟩ := okT_pick (F := F) (n := n) (P := P) (K := K) (.both x y) false hok h i (hok'.1.1.1 i hi);exact stepE_mono (fun a' w' _ hk => ih t' (by omega) _ _ _ (closed_set hcl hi) h1 hk) h3
end
inductive PO where
 | done
 | rd (R : List Oper) (t : PO)
 | pu (R : List Oper) (t : PO)
 | act (o : Oper) (tail : Bool) (t : PO)
 | both (a b : PO)
inductive PL where
 | done
 | rd (R : List Nat) (t : PL)
 | pu (R : List Nat) (t : PL)
 | act (i : Nat) (tail : Bool) (t : PL)
 | both (a b : PL)
def pickT (L : List Oper) : PL → PO
 | .done => .done
 | .rd R t => .rd (R.map (nth L)) (pickT L t)
 | .pu R t => .pu (R.map (nth L)) (pickT L t)
 | .act i b t => .act (nth L i) b (pickT L t)
 | .both a b => .both (pickT L a) (pickT L b)
def PL.pt : PL → PT
 | .done => .nil
 | .rd R t => R.foldr PT.read t.pt
 | .pu R t => R.foldr PT.pure t.pt
 | .act i _ t => .act i t.pt
 | .both a b => .both a.pt b.pt
def PL.tail : PL → List Nat
 | .done => []
 | .rd _ t => t.tail
 | .pu _ t => t.tail
 | .act i b t => if b then i :: t.tail else t.tail
 | .both a b => a.tail ++ b.tail
def slotsT (L : List Oper) (T : List Nat) : PL → Bool
 | .done => true
 | .rd R t => ownSlots (R.map (nth L)) && slotsT L T t
 | .pu R t => ownSlots (R.map (nth L)) && slotsT L T t
 | .act i b t => decide (i < L.length) && (T.contains i == b) && slotsT L T t
 | .both a b => slotsT L T a && slotsT L T b
def Mtree (F : Fence) (P : Program) (N : Nat) (gd : Nat → Option Nat) (K : (Nat → Value) → World → Prop) : PO → (Nat → Value) → World → Prop
 | .done,ρ,w => K ρ w
 | .rd R t,ρ,w => ∃ ρf,(∀ w',Ext w w' → Rops P N gd ρf R ρ w') ∧ Mtree F P N gd K t ρf w
 | .pu R t,ρ,w => ∃ ρf,(∀ w',Rops P N gd ρf R ρ w') ∧ Mtree F P N gd K t ρf w
 | .act o false t,ρ,w => if guardOk gd N ρ o.guard then Wstep F P N (fun ρ' w' => Ext w w' ∧ Mtree F P N gd K t ρ' w') o.dst ρ ((execOp (evN N ρ) o).run P w) else Mtree F P N gd K t (updO ρ o.dst undef) w
 | .act o true t,ρ,w => if guardOk gd N ρ o.guard then Wstep F P N (fun ρ' w' => Mtree F P N gd K t ρ' w') o.dst ρ ((execOp (evN N ρ) o).run P w) else Mtree F P N gd K t (updO ρ o.dst undef) w
 | .both a b,ρ,w => Mtree F P N gd K a ρ w ∧ Mtree F P N gd K b ρ w
section
variable {F : Fence} {P : Program} {N : Nat} {gd : Nat → Option Nat} {ρ : Nat → Value} {w : World} {K : (Nat → Value) → World → Prop}
theorem Mtree.fin (h : K ρ w) : Mtree F P N gd K .done ρ w := h
theorem Mtree.reads {R : List Oper} {t : PO} {ρf : Nat → Value} (h1 : ∀ w',Ext w w' → Rops P N gd ρf R ρ w') (h2 : Mtree F P N gd K t ρf w) : Mtree F P N gd K (.rd R t) ρ w := ⟨ρf,h1,h2⟩
theorem Mtree.pures {R : List Oper} {t : PO} {ρf : Nat → Value} (h1 : ∀ w',Rops P N gd ρf R ρ w') (h2 : Mtree F P N gd K t ρf w) : Mtree F P N gd K (.pu R t) ρ w := ⟨ρf,h1,h2⟩
theorem Mtree.two {a b : PO} (h1 : Mtree F P N gd K a ρ w) (h2 : Mtree F P N gd K b ρ w) : Mtree F P N gd K (.both a b) ρ w := ⟨h1,h2⟩
theorem Mtree.step {o : Oper} {t : PO} (h2 : ∀ K1 : (Nat → Value) → World → Prop,(∀ ρ' w',Ext w w' → Mtree F P N gd K t ρ' w' → K1 ρ' w') → if guardOk gd N ρ o.guard then Wstep F P N K1 o.dst ρ ((execOp (evN N ρ) o).run P w) else K1 (updO ρ o.dst undef) w) : Mtree F P N gd K (.act o false t) ρ w := by
 have h := h2 (fun ρ' w' => Ext w w' ∧ Mtree F P N gd K t ρ' w') (fun _ _ a b => ⟨a,b⟩);simp only [Mtree]
 split
 ·rename_i hg;rw [if_pos hg] at h;exact h
 ·rename_i hg;rw [if_neg hg] at h;exact h.2
theorem Mtree.stepT {o : Oper} {t : PO} (h2 : ∀ K1 : (Nat → Value) → World → Prop,(∀ ρ' w',Mtree F P N gd K t ρ' w' → K1 ρ' w') → if guardOk gd N ρ o.guard then Wstep F P N K1 o.dst ρ ((execOp (evN N ρ) o).run P w) else K1 (updO ρ o.dst undef) w) : Mtree F P N gd K (.act o true t) ρ w := by
 have h := h2 (fun ρ' w' => Mtree F P N gd K t ρ' w') (fun _ _ a => a);simp only [Mtree];exact h
theorem Mtree.mono {K' : (Nat → Value) → World → Prop} (h : ∀ ρ w,K' ρ w → K ρ w) : ∀ (t : PO) (ρ : Nat → Value) (w : World),Mtree F P N gd K' t ρ w → Mtree F P N gd K t ρ w := by
 intro t
 induction t with
 | done => exact fun ρ w hk => h ρ w hk
 | rd R t ih => exact fun ρ w ⟨ρf,h1,h2⟩ => ⟨ρf,h1,ih ρf w h2⟩
 | pu R t ih => exact fun ρ w ⟨ρf,h1,h2⟩ => ⟨ρf,h1,ih ρf w h2⟩
 | act o b t ih =>
   intro ρ w hk
   cases b <;> simp only [Mtree] at hk ⊢ <;> split
   ·rename_i hg;rw [if_pos hg] at hk;exact Wstep_mono (fun ρ w hk => ⟨hk.1,ih ρ w hk.2⟩) hk
   ·rename_i hg;rw [if_neg hg] at hk;exact ih _ _ hk
   ·rename_i hg;rw [if_pos hg] at hk;exact Wstep_mono (fun ρ w hk => ih ρ w hk) hk
   ·rename_i hg;rw [if_neg hg] at hk;exact ih _ _ hk
 | both a b iha ihb => exact fun ρ w hk => ⟨iha ρ w hk.1,ihb ρ w hk.2⟩
end
section
variable {F : Fence} {P : Program} {N : Nat} {ops : Array Oper} {ds : List Deferred} {T : List Nat}
theorem monoT_reads (hF : ∀ f,F.fn f) {K : Act → World → Prop} (σ2 : PT) {ρf : Nat → Value} {w : World} (h2 : monoT F 0 P ops T K σ2 (actOf N ρf ds) w) :
  ∀ (l : List Nat) (ρ : Nat → Value),ownSlots (l.map fun i => ops.getD i default) = true →
   (∀ w',Ext w w' → Rops P N (fun j => (ops[j]?).bind (·.dst)) ρf (l.map fun i => ops.getD i default) ρ w') →
   monoT F 0 P ops T K (l.foldr PT.read σ2) (actOf N ρ ds) w := by
 intro l
 induction l with
 | nil => intro ρ _ h;have := h w (Ext.refl w);rw [show ρ = ρf from this];exact h2
 | cons i l ih =>
   intro ρ hs h;simp only [ownSlots,List.map_cons,List.all_cons,Bool.and_eq_true,decide_eq_true_eq] at hs;obtain ⟨⟨hd,hall⟩,hnd⟩ := hs;obtain ⟨d,hd⟩ := Option.isSome_iff_exists.1 hd;have hcons : dstsOf (ops.getD i default :: l.map fun i => ops.getD i default) = d :: dstsOf (l.map fun i => ops.getD i default) := by simp only [dstsOf,List.filterMap_cons,hd]
   rw [hcons,List.nodup_cons] at hnd;have hs' : ownSlots (l.map fun i => ops.getD i default) = true := by simp only [ownSlots,hall,Bool.true_and];exact decide_eq_true hnd.2
   simp only [List.foldr_cons,monoT]
   by_cases hg : guardOk (fun j => (ops[j]?).bind (·.dst)) N ρ (ops.getD i default).guard = true
   ·have key : ∀ w',Ext w w' → (execOp (evN N ρ) (ops.getD i default)).run P w' = .ok (.value (ρf d)) w' ∧ Rops P N (fun j => (ops[j]?).bind (·.dst)) ρf (l.map fun i => ops.getD i default) (updO ρ (some d) (ρf d)) w' := by
     intro w' hE;have h1 := h w' hE;simp only [List.map_cons,Rops] at h1;rw [if_pos hg] at h1;unfold Rstep at h1
     split at h1
     ·rename_i v w'' he
      obtain ⟨rfl,h1⟩ := h1;have hv := Rops_keeps _ _ h1 d hnd.1;rw [hd] at hv h1;simp only [updO,upd,if_true] at hv;rw [hv];exact ⟨he,h1⟩
     ·exact h1.elim
    refine ⟨ρf d,.inl ⟨by rw [wanted_act];exact hg,fun w' hE => by rw [eval_act];exact (key w' hE).1⟩,?_⟩;rw [put_act,hd];exact ih _ hs' (fun w' hE => (key w' hE).2)
   ·refine ⟨undef,.inr ⟨by rw [wanted_act];simpa using hg,rfl⟩,?_⟩;rw [put_act];refine ih _ hs' (fun w' hE => ?_);have h1 := h w' hE;simp only [List.map_cons,Rops] at h1;rw [if_neg hg] at h1;exact h1
theorem monoT_pures (hF : ∀ f,F.fn f) {K : Act → World → Prop} (σ2 : PT) {ρf : Nat → Value} {w : World} (h2 : monoT F 0 P ops T K σ2 (actOf N ρf ds) w) :
  ∀ (l : List Nat) (ρ : Nat → Value),ownSlots (l.map fun i => ops.getD i default) = true →
   (∀ w',Rops P N (fun j => (ops[j]?).bind (·.dst)) ρf (l.map fun i => ops.getD i default) ρ w') →
   monoT F 0 P ops T K (l.foldr PT.pure σ2) (actOf N ρ ds) w := by
 intro l
 induction l with
 | nil => intro ρ _ h;have := h w;rw [show ρ = ρf from this];exact h2
 | cons i l ih =>
   intro ρ hs h;simp only [ownSlots,List.map_cons,List.all_cons,Bool.and_eq_true,decide_eq_true_eq] at hs;obtain ⟨⟨hd,hall⟩,hnd⟩ := hs;obtain ⟨d,hd⟩ := Option.isSome_iff_exists.1 hd;have hcons : dstsOf (ops.getD i default :: l.map fun i => ops.getD i default) = d :: dstsOf (l.map fun i => ops.getD i default) := by simp only [dstsOf,List.filterMap_cons,hd]
   rw [hcons,List.nodup_cons] at hnd;have hs' : ownSlots (l.map fun i => ops.getD i default) = true := by simp only [ownSlots,hall,Bool.true_and];exact decide_eq_true hnd.2
   simp only [List.foldr_cons,monoT]
   by_cases hg : guardOk (fun j => (ops[j]?).bind (·.dst)) N ρ (ops.getD i default).guard = true
   ·have key : ∀ w',(execOp (evN N ρ) (ops.getD i default)).run P w' = .ok (.value (ρf d)) w' ∧ Rops P N (fun j => (ops[j]?).bind (·.dst)) ρf (l.map fun i => ops.getD i default) (updO ρ (some d) (ρf d)) w' := by
     intro w';have h1 := h w';simp only [List.map_cons,Rops] at h1;rw [if_pos hg] at h1;unfold Rstep at h1
     split at h1
     ·rename_i v w'' he
      obtain ⟨rfl,h1⟩ := h1;have hv := Rops_keeps _ _ h1 d hnd.1;rw [hd] at hv h1;simp only [updO,upd,if_true] at hv;rw [hv];exact ⟨he,h1⟩
     ·exact h1.elim
    refine ⟨ρf d,.inl ⟨by rw [wanted_act];exact hg,fun w' => by rw [eval_act];exact (key w').1⟩,?_⟩;rw [put_act,hd];exact ih _ hs' (fun w' => (key w').2)
   ·refine ⟨undef,.inr ⟨by rw [wanted_act];simpa using hg,rfl⟩,?_⟩;rw [put_act];refine ih _ hs' (fun w' => ?_);have h1 := h w';simp only [List.map_cons,Rops] at h1;rw [if_neg hg] at h1;exact h1
theorem Mtree_mono (hF : ∀ f,F.fn f) (hdp : F.depth = none) {L : List Oper} (hnd : noDefer L.toArray = true) {K : Act → World → Prop} {K' : (Nat → Value) → World → Prop} (hK : ∀ ρ w,K' ρ w → K (actOf N ρ ds) w) :
  ∀ (S : PL) (ρ : Nat → Value) (w : World),slotsT L T S = true → Mtree F P N (fun j => (L[j]?).bind (·.dst)) K' (pickT L S) ρ w → monoT F 0 P L.toArray T K S.pt (actOf N ρ ds) w := by
 have hgd : (fun j : Nat => (L[j]?).bind (fun o : Oper => o.dst)) = (fun j : Nat => ((L.toArray)[j]?).bind (fun o : Oper => o.dst)) := by funext j;simp
 have hget : ∀ l : List Nat,l.map (nth L) = l.map (fun i => L.toArray.getD i default) := fun l => List.map_congr_left fun i _ => by rw [nth_eq];simp
 intro S
 induction S with
 | done => exact fun ρ w _ h => hK _ _ h
 | rd R t ih =>
   intro ρ w hok h;simp only [slotsT,Bool.and_eq_true] at hok;obtain ⟨ρf,hr,hm⟩ := h;rw [hgd,hget] at hr;obtain ⟨ho,hok⟩ := hok;rw [hget] at ho;exact monoT_reads hF t.pt (ih ρf w hok hm) R ρ ho hr
 | pu R t ih =>
   intro ρ w hok h;simp only [slotsT,Bool.and_eq_true] at hok;obtain ⟨ρf,hr,hm⟩ := h;rw [hgd,hget] at hr;obtain ⟨ho,hok⟩ := hok;rw [hget] at ho;exact monoT_pures hF t.pt (ih ρf w hok hm) R ρ ho hr
 | both a b iha ihb =>
   intro ρ w hok h;simp only [slotsT,Bool.and_eq_true] at hok;exact ⟨iha ρ w hok.1 h.1,ihb ρ w hok.2 h.2⟩
 | act i b t ih =>
   intro ρ w hok h;simp only [slotsT,Bool.and_eq_true,decide_eq_true_eq,beq_iff_eq] at hok;obtain ⟨⟨hlt,hT⟩,hok⟩ := hok
   have hm : if guardOk (fun j => (L[j]?).bind (fun o : Oper => o.dst)) N ρ (nth L i).guard then Wstep F P N (fun ρ' w' => Kept T i w w' ∧ Mtree F P N (fun j => (L[j]?).bind (fun o : Oper => o.dst)) K' (pickT L t) ρ' w') (nth L i).dst ρ ((execOp (evN N ρ) (nth L i)).run P w)
     else Mtree F P N (fun j => (L[j]?).bind (fun o : Oper => o.dst)) K' (pickT L t) (updO ρ (nth L i).dst undef) w := by
    cases b with
    | false =>
      simp only [pickT,Mtree] at h
      split
      ·rename_i hg
       rw [if_pos hg] at h;exact Wstep_mono (fun ρ' w' hk => ⟨fun _ => hk.1,hk.2⟩) h
      ·rename_i hg
       rw [if_neg hg] at h;exact h
    | true =>
      simp only [pickT,Mtree] at h
      split
      ·rename_i hg
       rw [if_pos hg] at h;exact Wstep_mono (fun ρ' w' hk => ⟨fun e => (by rw [hT] at e;cases e),hk⟩) h
      ·rename_i hg
       rw [if_neg hg] at h;exact h
   have hoi : L.toArray[i]? = some (nth L i) := by rw [nth_eq];simp [hlt]
   show stepE F 0 P L.toArray T i (monoT F 0 P L.toArray T K t.pt) (actOf N ρ ds) w
   unfold stepE;rw [hoi]
   dsimp only
   rw [wanted_act,← hgd]
   by_cases hg : guardOk (fun j => (L[j]?).bind (·.dst)) N ρ (nth L i).guard = true
   ·rw [if_pos hg] at hm ⊢;unfold Oper.wpIn;rw [semAt_eq _ _ _ (noDefer_spec hnd hoi).1,eval_act];refine ⟨fun f _ => hF f,?_⟩
    generalize (execOp (evN N ρ) (nth L i)).run P w = r at *
    cases r with
    | ok x w' =>
      cases x <;> simp only [Wstep] at hm <;> simp only [Oper.uponIn]
      case value v => rw [put_act];exact ⟨hm.1,ih _ _ hok hm.2⟩
      case skip => rw [put_act];exact ⟨hm.1,ih _ _ hok hm.2⟩
      case enter f args =>
       refine ⟨fun e => by simp [hdp] at e,CallsIn.mono hm ?_⟩;rintro e w'' ⟨v,rfl,hn⟩
       dsimp only
       rw [put_act];exact ⟨hn.1,ih _ _ hok hn.2⟩
      case round l f tmps as bo =>
       refine ⟨fun e => by simp [hdp] at e,RoundIn.mono hm ?_⟩;rintro e w'' ⟨v,rfl,hn⟩
       dsimp only
       rw [put_act];exact ⟨hn.1,ih _ _ hok hn.2⟩
    | halt x w' => simp only [Wstep] at hm
   ·rw [if_neg hg] at hm ⊢;rw [put_act];exact ih _ _ hok hm
def PL.ok (L : List Oper) (S : PL) : Bool := noDefer L.toArray && decide (S.pt.len = L.toArray.size) && okT L.toArray S.tail false (Array.replicate L.toArray.size false) S.pt && slotsT L S.tail S
theorem Wp.drawT {K : Post} {ρ : Nat → Value} {w : World} (hF : F = Fence.wide ∨ ∃ l,F = Fence.wide.inRound l) (hm : P.follows .mixedOrders = true) {id : Nat} {L : List Oper} (S : PL) (hc : S.ok L = true) (Q : (Nat → Value) → World → Prop)
  (h : ∀ (K' : (Nat → Value) → World → Prop) (gd : Nat → Option Nat),(∀ ρ w,Q ρ w → K' ρ w) → (∀ j,gd j = (L[j]?).bind (·.dst)) → Mtree F P N gd K' (pickT L S) ρ w.drew)
  (hQ : ∀ ρ w,Q ρ w → K .normal ρ ds w) : Wp F P N (.region id L.toArray true) K ρ ds w := by
 have hfn : ∀ f,F.fn f := by rcases hF with rfl | ⟨l,rfl⟩ <;> exact fun _ => trivial
 have hdp : F.depth = none := by rcases hF with rfl | ⟨l,rfl⟩ <;> rfl
 simp only [PL.ok,Bool.and_eq_true,decide_eq_true_eq] at hc;obtain ⟨⟨⟨h1,h2⟩,h3⟩,h4⟩ := hc;refine wpIn_region_any hm ?_
 exact anyE_sound hfn (fun _ _ h => h) _ _ _ _ (monoT_anyE hfn h1 _ S.pt h2 _ _ _ closed_none h3
  (Mtree_mono hfn hdp h1 (K' := fun ρ w => K .normal ρ ds w) (fun ρ w hk => ⟨ρ,ds,rfl,hk⟩) S ρ w.drew h4 (h _ _ hQ (fun _ => rfl))))
theorem Wp.seqDrawT {K : Post} {ρ : Nat → Value} {w : World} {y : Code} (hF : F = Fence.wide ∨ ∃ l,F = Fence.wide.inRound l) (hm : P.follows .mixedOrders = true) {id : Nat} {L : List Oper} (S : PL) (hc : S.ok L = true) (Q : (Nat → Value) → World → Prop)
  (h : ∀ (K' : (Nat → Value) → World → Prop) (gd : Nat → Option Nat),(∀ ρ w,Q ρ w → K' ρ w) → (∀ j,gd j = (L[j]?).bind (·.dst)) → Mtree F P N gd K' (pickT L S) ρ w.drew)
  (hQ : ∀ ρ w,Q ρ w → Wp F P N y K ρ ds w) : Wp F P N ((Code.region id L.toArray true).seq y) K ρ ds w := Wp.seq (Wp.drawT hF hm S hc Q h hQ)
theorem Wp.loneDrawT {K : Post} {ρ : Nat → Value} {w : World} (hF : F = Fence.wide ∨ ∃ l,F = Fence.wide.inRound l) (hm : P.follows .mixedOrders = true) {id : Nat} {L : List Oper} (S : PL) (hc : S.ok L = true) (Q : (Nat → Value) → World → Prop)
  (h : ∀ (K' : (Nat → Value) → World → Prop) (gd : Nat → Option Nat),(∀ ρ w,Q ρ w → K' ρ w) → (∀ j,gd j = (L[j]?).bind (·.dst)) → Mtree F P N gd K' (pickT L S) ρ w.drew)
  (hQ : ∀ ρ w,Q ρ w → Ends K ρ ds w) : Wp F P N (Code.region id L.toArray true) K ρ ds w := Wp.drawT hF hm S hc Q h hQ
end
end Go.Wk
namespace Go.Wk
open Go.RowKit
set_option linter.unusedVariables false
def gotoK (l : Nat) (J : (Nat → Value) → List Deferred → World → Prop) (K : Post) : Post
 | .goto l',ρ,ds,w => l' = l ∧ J ρ ds w
 | e,ρ,ds,w => K e ρ ds w
section
variable {l : Nat} {J : (Nat → Value) → List Deferred → World → Prop} {K : Post} {ρ : Nat → Value} {ds : List Deferred} {w : World}
theorem gotoK_normal (h : K .normal ρ ds w) : gotoK l J K .normal ρ ds w := h
theorem gotoK_ret (h : K .ret ρ ds w) : gotoK l J K .ret ρ ds w := h
theorem gotoK_exit {id : Nat} (h : K (.exit id) ρ ds w) : gotoK l J K (.exit id) ρ ds w := h
theorem Wp.scopeJumps {P : Program} {N : Nat} {c rest : Code} (l : Nat) (J : (Nat → Value) → List Deferred → World → Prop) (μ : World → Nat) (hf : findLabel c l = some rest)
  (first : Wp Fence.wide P N c (gotoK l J K) ρ ds w)
  (pass : ∀ ρ ds w,J ρ ds w → Wp Fence.wide P N rest (gotoK l (fun ρ' ds' w' => J ρ' ds' w' ∧ μ w' < μ w) K) ρ ds w) : Wp Fence.wide P N (.scope c) K ρ ds w := by
 refine wpIn_wide.2 (wp_scope_jumps l (fun a w => ∃ ρ' ds',a = actOf N ρ' ds' ∧ J ρ' ds' w) (fun _ w => μ w) hf ?_ ?_)
 ·refine Code.wp_mono ?_ (wpIn_wide.1 first);rintro e a w ⟨ρ',ds',rfl,hq⟩
  cases e with
  | goto l' => exact ⟨hq.1,ρ',ds',rfl,hq.2⟩
  | _ => exact ⟨ρ',ds',rfl,hq⟩
 ·rintro a w ⟨ρ',ds',rfl,hJ⟩;refine Code.wp_mono ?_ (wpIn_wide.1 (pass ρ' ds' w hJ));rintro e a w ⟨ρ',ds',rfl,hq⟩
  cases e with
  | goto l' => exact ⟨hq.1,⟨ρ',ds',rfl,hq.2.1⟩,hq.2.2⟩
  | _ => exact ⟨ρ',ds',rfl,hq⟩
theorem Wp.scopeKey {P : Program} {N : Nat} {c rest : Code} (l : Nat) (J : (Nat → Value) → List Deferred → World → Prop) (μ : World → Nat) (hf : findLabel c l = some (Code.skip.seq rest))
  (pass : ∀ ρ ds w,J ρ ds w → Wp Fence.wide P N rest (gotoK l (fun ρ' ds' w' => J ρ' ds' w' ∧ μ w' < μ w) K) ρ ds w)
  (first : (∀ ρ ds w,J ρ ds w → Wp Fence.wide P N rest (gotoK l J K) ρ ds w) → Wp Fence.wide P N c (gotoK l J K) ρ ds w) : Wp Fence.wide P N (.scope c) K ρ ds w := by
 refine Wp.scopeJumps l J μ hf (first fun ρ ds w hJ => ?_) fun ρ ds w hJ => Wp.seq (Wp.skip (thenK_normal (pass ρ ds w hJ)));refine Wp.mono (pass ρ ds w hJ) ?_;intro e ρ ds w h
 cases e with
 | goto l' => exact ⟨h.1,h.2.1⟩
 | _ => exact h
end
section
variable {F : Fence} {P : Program} {N : Nat} {gd : Nat → Option Nat} {K : (Nat → Value) → World → Prop} {t : PO} {ρ : Nat → Value}
theorem Mtree.abs {X : World} {cs : Array Value} {ty : TypeId} (h : ∀ V : World,Ext X V → X.heap.size < V.heap.size → (∀ i v,cs[i]? = some v → V.cell? ⟨X.heap.size,i,none⟩ = some v) → (∀ i,V.frozen? ⟨X.heap.size,i,none⟩ = false) → Mtree F P N gd K t ρ V) : Mtree F P N gd K t ρ (X.alloc (.cells cs ty)) :=
 h _ ((Ext.refl X).alloc _) (by simp) (fun i v hv => by rw [cell_nw];exact hv) (fun i => frozen_nw ..)
theorem Mtree.absD {X : World} {cs : Array Value} {ty : TypeId} (h : ∀ V : World,Ext X V → X.heap.size < V.heap.size → (∀ i v,cs[i]? = some v → V.cell? ⟨X.heap.size,i,none⟩ = some v) → (∀ i,V.frozen? ⟨X.heap.size,i,none⟩ = false) → Mtree F P N gd K t ρ V) : Mtree F P N gd K t ρ (X.alloc (.cells cs ty)).drew :=
 h _ ((Ext.refl X).alloc _).drew (by simp) (fun i v hv => cell_drew (by rw [cell_nw];exact hv)) (fun i => frozen_nw ..)
end
theorem Ext.setC {w W : World} (h : Ext w W) {b k : Nat} (hb : w.heap.size ≤ b) (v : Value) : Ext w (W.setCell ⟨b,k,none⟩ v) := Below.setCell h hb v
theorem XS {p : Prop} (h : p := by repeat (first | assumption | exact Ext.refl _ | refine Ext.drew ?_ | refine Ext.alloc ?_ _ | refine Ext.setC ?_ (by omega) _ | refine Ext.trans ?_ (by assumption))) : p := h
section
variable {P : Program} {N : Nat} {fn : Func} {R : Value → World → Prop} {ρ : Nat → Value} {w : World} {t u x : Nat} {ty : TypeId} {a : Addr} {v : Value}
theorem run_res_cell {tmps : Array Value} (hr : fn.results = #[.cell t ty]) (hp : tmps.getD t undef = .pointer (some a)) (hl : (loadVar ty a).run P w = .ok v w) : (results fn tmps).run P w = .ok v w := by
 have hp' : tmps[t]?.getD undef = .pointer (some a) := by simpa using hp
 simp [results,hr,hp',asAddr,hl]
theorem run_res_cell_tmp {tmps : Array Value} (hr : fn.results = #[.cell t ty,.tmp u]) (hp : tmps.getD t undef = .pointer (some a)) (hl : (loadVar ty a).run P w = .ok v w) : (results fn tmps).run P w = .ok (.tuple #[v,tmps.getD u undef]) w := by
 have hp' : tmps[t]?.getD undef = .pointer (some a) := by simpa using hp
 simp [results,hr,hp',asAddr,hl]
theorem run_res_cell_tmp2 {tmps : Array Value} (hr : fn.results = #[.cell t ty,.tmp u,.tmp x]) (hp : tmps.getD t undef = .pointer (some a)) (hl : (loadVar ty a).run P w = .ok v w) : (results fn tmps).run P w = .ok (.tuple #[v,tmps.getD u undef,tmps.getD x undef]) w := by
 have hp' : tmps[t]?.getD undef = .pointer (some a) := by simpa using hp
 simp [results,hr,hp',asAddr,hl]
theorem act_get (ht : t < N) : (actOf N ρ []).tmps.getD t undef = ρ t := by rw [getD_act,if_pos ht]
theorem endK_cell (hr : fn.results = #[.cell t ty]) (ht : t < N) (hp : ρ t = .pointer (some a)) (hl : (loadVar ty a).run P w = .ok v w) (h : R v w) : endK P N fn R .ret ρ [] w :=
 ⟨rfl,v,run_res_cell hr (by rw [act_get ht,hp]) hl,h⟩
theorem endK_cell_tmp (hr : fn.results = #[.cell t ty,.tmp u]) (ht : t < N) (hu : u < N) (hp : ρ t = .pointer (some a)) (hl : (loadVar ty a).run P w = .ok v w) (h : R (.tuple #[v,ρ u]) w) : endK P N fn R .ret ρ [] w :=
 ⟨rfl,_,run_res_cell_tmp hr (by rw [act_get ht,hp]) hl,by rw [act_get hu];exact h⟩
theorem endK_cell_tmp2 (hr : fn.results = #[.cell t ty,.tmp u,.tmp x]) (ht : t < N) (hu : u < N) (hx : x < N) (hp : ρ t = .pointer (some a)) (hl : (loadVar ty a).run P w = .ok v w) (h : R (.tuple #[v,ρ u,ρ x]) w) : endK P N fn R .ret ρ [] w :=
 ⟨rfl,_,run_res_cell_tmp2 hr (by rw [act_get ht,hp]) hl,by rw [act_get hu,act_get hx];exact h⟩
end
end Go.Wk
namespace Go.Wk
open Go.RowKit
set_option linter.unusedVariables false
@[go_sem] theorem boolIs_undef (want : Bool) : boolIs undef want = false := nr rfl
section
variable {F : Fence} {P : Program} {N : Nat} {gd : Nat → Option Nat} {K : (Nat → Value) → World → Prop}
end
end Go.Wk
namespace Go.Wk
open Go.RowKit
set_option linter.unusedVariables false
structure Chg (L : List Nat) (w V : World) : Prop where
 os : V.os = w.os
 tape : V.tape = w.tape
 output : V.output = w.output
 size : w.heap.size ≤ V.heap.size
 block : ∀ k,k < w.heap.size → k ∉ L → V.heap[k]? = w.heap[k]?
theorem Chg.refl (L : List Nat) (w : World) : Chg L w w := ⟨rfl,rfl,rfl,Nat.le_refl _,fun _ _ _ => rfl⟩
theorem Chg.ext {L : List Nat} {w V V' : World} (h : Chg L w V) (hE : Ext V V') : Chg L w V' :=
 ⟨hE.os.trans h.os,hE.tape.trans h.tape,hE.output.trans h.output,Nat.le_trans h.size hE.size,fun k hk hn => (hE.block k (Nat.lt_of_lt_of_le hk h.size)).trans (h.block k hk hn)⟩
theorem Chg.drew {L : List Nat} {w V : World} (h : Chg L w V) : Chg L w V.drew := h.ext (Ext.refl V).drew
theorem Chg.alloc {L : List Nat} {w V : World} (h : Chg L w V) (o : Obj) : Chg L w (V.alloc o) := h.ext ((Ext.refl V).alloc o)
theorem Chg.setC {L : List Nat} {w V : World} (h : Chg L w V) {b k : Nat} {v : Value} (hb : b ∈ L) : Chg L w (V.setCell ⟨b,k,Option.none⟩ v) :=
 ⟨h.os,h.tape,h.output,by simpa using h.size,fun i hi hn => (Below.heap_setCell _ _ _ _ (fun e => hn (by rw [e];exact hb))).trans (h.block i hi hn)⟩
theorem Chg.lt {w : World} {a : Addr} {v : Value} (h : w.cell? a = some v) : a.block < w.heap.size := cell_lt h
theorem Chg.cell {L : List Nat} {w V : World} (h : Chg L w V) {b i : Nat} {v : Value} (c : w.cell? ⟨b,i,none⟩ = some v) (hb : b ∉ L) : V.cell? ⟨b,i,none⟩ = some v :=
 (World.cell?_of_block (a := ⟨b,i,none⟩) (h.block b (cell_lt c) hb)).trans c
theorem Chg.fz {L : List Nat} {w V : World} (h : Chg L w V) {b i : Nat} {v : Value} (c : w.cell? ⟨b,i,none⟩ = some v) (f : ∀ k,w.frozen? ⟨b,k,none⟩ = false) (hb : b ∉ L) : ∀ k,V.frozen? ⟨b,k,none⟩ = false := fun k =>
 (World.frozen?_of_block (a := ⟨b,k,none⟩) (h.block b (cell_lt c) hb)).trans (f k)
theorem Chg.to {L : List Nat} {X w V : World} (x : Ext X w) (h : Chg L w V) (hL : ∀ b ∈ L,X.heap.size ≤ b) : Ext X V :=
 ⟨h.os.trans x.os,h.tape.trans x.tape,h.output.trans x.output,Nat.le_trans x.size h.size,fun k hk => (h.block k (Nat.lt_of_lt_of_le hk x.size) (fun hm => by have := hL k hm;omega)).trans (x.block k hk)⟩
theorem Chg.more {L L' : List Nat} {X w V : World} (x : Chg L' X w) (h : Chg L w V) (hL : ∀ b ∈ L,X.heap.size ≤ b ∨ b ∈ L') : Chg L' X V :=
 ⟨h.os.trans x.os,h.tape.trans x.tape,h.output.trans x.output,Nat.le_trans x.size h.size,fun k hk hn => (h.block k (Nat.lt_of_lt_of_le hk x.size) (fun hm => by rcases hL k hm with h1 | h1;omega;exact hn h1)).trans (x.block k hk hn)⟩
theorem Ext.fz {w V : World} (h : Ext w V) {b i : Nat} {v : Value} (c : w.cell? ⟨b,i,none⟩ = some v) (f : ∀ k,w.frozen? ⟨b,k,none⟩ = false) : ∀ k,V.frozen? ⟨b,k,none⟩ = false := fun k =>
 (World.frozen?_of_block (a := ⟨b,k,none⟩) (Below.block h b (cell_lt c))).trans (f k)
def nthV : List Value → Nat → Option Value
 | [],_ => none
 | v :: _,0 => some v
 | _ :: l,i + 1 => nthV l i
theorem nthV_eq : ∀ (l : List Value) (i : Nat),nthV l i = l[i]?
 | [],i => by simp [nthV]
 | v :: l,0 => rfl
 | v :: l,i + 1 => by rw [nthV,nthV_eq l i];simp
theorem _root_.Go.World.ownsRow.ext {w w' : World} {base e size n : Nat} {v : Value} {xs : List Value} (h : w.ownsRow base e size v n xs) (hE : Ext w w') : w'.ownsRow base e size v n xs := by
 refine ⟨h.1,?_⟩
 rcases h.2 with hn | ⟨g,cap,cur,rfl,hb,hg,rest⟩
 ·exact .inl hn
 ·exact .inr ⟨g,cap,cur,rfl,hb,(Below.block hE g (Array.getElem?_eq_some_iff.1 hg).1).trans hg,rest⟩
def RowC (w : World) (b : Nat) (e : TypeId) (cs : List Value) : Prop := w.heap[b]? = some (.cells cs.toArray e (0,0))
theorem RowC.lt {w : World} {b : Nat} {e : TypeId} {cs : List Value} (h : RowC w b e cs) : b < w.heap.size := (Array.getElem?_eq_some_iff.1 h).1
theorem RowC.ext {w w' : World} {b : Nat} {e : TypeId} {cs : List Value} (h : RowC w b e cs) (hE : Ext w w') : RowC w' b e cs := (Below.block hE b h.lt).trans h
theorem RowC.cell {w : World} {b : Nat} {e : TypeId} {cs : List Value} (h : RowC w b e cs) (j : Nat) : w.cell? ⟨b,j,none⟩ = cs[j]? := by
 have := cell_of_row w b j cs.toArray e (0,0) h
 simpa using this
theorem RowC.frozen {w : World} {b : Nat} {e : TypeId} {cs : List Value} (h : RowC w b e cs) (j : Nat) : w.frozen? ⟨b,j,none⟩ = false := by
 unfold World.frozen?;rw [h];simp
theorem RowC.own {w : World} {b : Nat} {e : TypeId} {cs : List Value} (h : RowC w b e cs) {base size k c : Nat} (hb : base ≤ b) (hk : k ≤ c) (hc : c ≤ maxLen) (hl : cs.length = c * size) :
  w.ownsRow base e size (.slice (some ⟨b,0,none⟩) k c) k (cs.take (k * size)) :=
 ⟨by have := Nat.mul_le_mul_right size hk;rw [List.length_take];omega,.inr ⟨b,c,cs.toArray,rfl,hb,h,hk,hc,by simpa using hl,by simp⟩⟩
def setL (w : World) (b i : Nat) : List Value → World
 | [] => w
 | v :: vs => setL (w.setCell ⟨b,i,none⟩ v) b (i + 1) vs
theorem setL_size (b : Nat) : ∀ (vs : List Value) (w : World) (i : Nat),(setL w b i vs).heap.size = w.heap.size
 | [],_,_ => rfl
 | v :: vs,w,i => by rw [setL,setL_size b vs];simp
theorem setL_heap (b : Nat) : ∀ (vs : List Value) (w : World) (i k : Nat),k ≠ b → (setL w b i vs).heap[k]? = w.heap[k]?
 | [],_,_,_,_ => rfl
 | v :: vs,w,i,k,h => by rw [setL,setL_heap b vs _ _ k h];exact Below.heap_setCell _ _ _ _ h
theorem setL_frozen (b : Nat) : ∀ (vs : List Value) (w : World) (i : Nat) (a : Addr),(setL w b i vs).frozen? a = w.frozen? a
 | [],_,_,_ => rfl
 | v :: vs,w,i,a => by rw [setL,setL_frozen b vs];exact World.frozen?_setCell ..
theorem setL_off (b : Nat) : ∀ (vs : List Value) (w : World) (i j : Nat),j < i ∨ i + vs.length ≤ j → (setL w b i vs).cell? ⟨b,j,none⟩ = w.cell? ⟨b,j,none⟩
 | [],_,_,_,_ => rfl
 | v :: vs,w,i,j,h => by
   rw [setL,setL_off b vs _ _ _ (by simp at h;omega)];exact World.cell?_setCell_other _ _ _ _ (by intro e;injection e with _ e;simp at h;omega)
theorem setL_on (b : Nat) : ∀ (vs : List Value) (w : World) (i : Nat),(∀ j,j < vs.length → (w.cell? ⟨b,i + j,none⟩).isSome = true) → ∀ j v,vs[j]? = some v → (setL w b i vs).cell? ⟨b,i + j,none⟩ = some v
 | [],_,_,_,j,v,h => by simp at h
 | u :: vs,w,i,hs,j,v,h => by
   have h0 := hs 0 (by simp);rw [setL]
   cases j with
   | zero =>
     simp at h;subst h;rw [Nat.add_zero,setL_off b vs _ _ _ (by omega)];exact World.cell?_setCell_same' _ _ _ (by simpa using h0)
   | succ j =>
     have := setL_on b vs (w.setCell ⟨b,i,none⟩ u) (i + 1) (fun k hk => ?_) j v (by simpa using h)
     ·rw [show i + (j + 1) = i + 1 + j by omega];exact this
     ·rw [World.cell?_setCell_other _ _ _ _ (by intro e;injection e with _ e;omega)];have := hs (k + 1) (by simp;omega);rw [show i + 1 + k = i + (k + 1) by omega];exact this
theorem setL_row (b : Nat) : ∀ (vs : List Value) (w : World) (i : Nat) (cs : Array Value) (t : TypeId),w.heap[b]? = some (.cells cs t (0,0)) → ∃ cs',(setL w b i vs).heap[b]? = some (.cells cs' t (0,0)) ∧ cs'.size = cs.size
 | [],_,_,cs,_,h => ⟨cs,h,rfl⟩
 | v :: vs,w,i,cs,t,h => by
   have h1 : ∃ cs1,(w.setCell ⟨b,i,none⟩ v).heap[b]? = some (.cells cs1 t (0,0)) ∧ cs1.size = cs.size := ⟨_,heap_setCell_same w b i cs t v h,by simp⟩;obtain ⟨cs1,h1,e1⟩ := h1;obtain ⟨cs',h2,e2⟩ := setL_row b vs _ (i + 1) cs1 t h1;exact ⟨cs',h2,e2.trans e1⟩
structure Put (w V : World) (b i : Nat) (vs : List Value) : Prop where
 chg : Chg [b] w V
 same : V.heap.size ≤ w.heap.size ∧ w.heap.size ≤ V.heap.size
 new : ∀ j v,nthV vs j = some v → V.cell? ⟨b,i + j,none⟩ = some v
 old : ∀ j,j < i ∨ i + vs.length ≤ j → V.cell? ⟨b,j,none⟩ = w.cell? ⟨b,j,none⟩
 fz : ∀ a,V.frozen? a = w.frozen? a
 row : ∀ cs t,w.heap[b]? = some (.cells cs t (0,0)) → ∃ cs',V.heap[b]? = some (.cells cs' t (0,0)) ∧ cs'.size = cs.size
 eq : V = setL w b i vs
theorem setL_put {w : World} {b i : Nat} {vs : List Value} (hs : ∀ j,j < vs.length → (w.cell? ⟨b,i + j,none⟩).isSome = true) : Put w (setL w b i vs) b i vs := by
 have hos : ∀ (vs : List Value) (w : World) (i : Nat),(setL w b i vs).os = w.os ∧ (setL w b i vs).tape = w.tape ∧ (setL w b i vs).output = w.output := by
  intro vs
  induction vs with
  | nil => exact fun _ _ => ⟨rfl,rfl,rfl⟩
  | cons v vs ih => exact fun w i => ih _ _
 exact ⟨⟨(hos vs w i).1,(hos vs w i).2.1,(hos vs w i).2.2,by rw [setL_size];exact Nat.le_refl _,fun k _ hk => setL_heap b vs w i k (by simpa using hk)⟩,⟨by rw [setL_size];exact Nat.le_refl _,by rw [setL_size];exact Nat.le_refl _⟩,fun j v h => setL_on b vs w i hs j v (by rw [← nthV_eq];exact h),fun j hj => setL_off b vs w i j hj,fun a => setL_frozen b vs w i a,fun cs t h => setL_row b vs w i cs t h,rfl⟩
theorem Put.cell {w V : World} {b i : Nat} {vs : List Value} (h : Put w V b i vs) {k j : Nat} {v : Value} (c : w.cell? ⟨k,j,none⟩ = some v) (hk : k ≠ b) : V.cell? ⟨k,j,none⟩ = some v := h.chg.cell c (by simpa using hk)
theorem Put.cellOff {w V : World} {b i : Nat} {vs : List Value} (h : Put w V b i vs) {j : Nat} {v : Value} (c : w.cell? ⟨b,j,none⟩ = some v) (hk : j < i ∨ i + vs.length ≤ j) : V.cell? ⟨b,j,none⟩ = some v := (h.old j hk).trans c
theorem Put.frz {w V : World} {b i : Nat} {vs : List Value} (h : Put w V b i vs) {k : Nat} (f : ∀ j,w.frozen? ⟨k,j,none⟩ = false) : ∀ j,V.frozen? ⟨k,j,none⟩ = false := fun j => (h.fz _).trans (f j)
theorem Put.to {X w V : World} {b i : Nat} {vs : List Value} (x : Ext X w) (h : Put w V b i vs) (hb : X.heap.size ≤ b) : Ext X V := Chg.to x h.chg (by simpa using hb)
theorem Put.more {L : List Nat} {X w V : World} {b i : Nat} {vs : List Value} (x : Chg L X w) (h : Put w V b i vs) (hb : X.heap.size ≤ b ∨ b ∈ L) : Chg L X V := Chg.more x h.chg (by simpa using hb)
structure New (w V : World) (n : Nat) (cs : Array Value) : Prop where
 at_ : w.heap.size = n
 ext : Ext w V
 size : V.heap.size ≤ n + 1 ∧ n + 1 ≤ V.heap.size
 cell : ∀ i v,nthV cs.toList i = some v → V.cell? ⟨n,i,none⟩ = some v
 fz : ∀ i,V.frozen? ⟨n,i,none⟩ = false
 row : ∃ t,V.heap[n]? = some (.cells cs t (0,0))
theorem new_alloc (w : World) (cs : Array Value) (t : TypeId) : New w (w.alloc (.cells cs t)) w.heap.size cs :=
 ⟨rfl,(Ext.refl _).alloc _,⟨by simp,by simp⟩,fun i v h => by rw [cell_nw];rw [nthV_eq] at h;simpa using h,fun i => frozen_nw ..,t,World.alloc_heap_new w _⟩
theorem _root_.Go.World.ownsRow.put {w V : World} {base e size n b i : Nat} {v : Value} {xs vs : List Value} (h : w.ownsRow base e size v n xs) (p : Put w V b i vs) (hb : b < base) : V.ownsRow base e size v n xs := by
 refine ⟨h.1,?_⟩
 rcases h.2 with hn | ⟨g,cap,cur,rfl,hg0,hg,rest⟩
 ·exact .inl hn
 ·exact .inr ⟨g,cap,cur,rfl,hg0,(p.chg.block g (Array.getElem?_eq_some_iff.1 hg).1 (by simp;omega)).trans hg,rest⟩
section
variable {F : Fence} {P : Program} {N : Nat} {gd : Nat → Option Nat} {K : (Nat → Value) → World → Prop} {ρ : Nat → Value} {w : World}
theorem Wops.absA {L : List Oper} {cs : Array Value} {t : TypeId} (h : ∀ V n,New w V n cs → Wops F P N gd K L ρ V) : Wops F P N gd K L ρ (w.alloc (.cells cs t)) := h _ _ (new_alloc w cs t)
theorem Mops.absA {S : List (List Oper × Option (Oper × Bool))} {cs : Array Value} {t : TypeId} (h : ∀ V n,New w V n cs → Mops F P N gd K S ρ V) : Mops F P N gd K S ρ (w.alloc (.cells cs t)) := h _ _ (new_alloc w cs t)
theorem Mops.absD {S : List (List Oper × Option (Oper × Bool))} (h : ∀ V,Ext w V → (V.heap.size ≤ w.heap.size ∧ w.heap.size ≤ V.heap.size) → Mops F P N gd K S ρ V) : Mops F P N gd K S ρ w.drew := h _ (Ext.refl w).drew ⟨Nat.le_refl _,Nat.le_refl _⟩
theorem Wops.absS {L : List Oper} {b i : Nat} (vs : List Value) (hs : ∀ j,j < vs.length → (w.cell? ⟨b,i + j,none⟩).isSome = true) (h : ∀ V,Put w V b i vs → Wops F P N gd K L ρ V) : Wops F P N gd K L ρ (setL w b i vs) := h _ (setL_put hs)
theorem Mops.absS {S : List (List Oper × Option (Oper × Bool))} {b i : Nat} (vs : List Value) (hs : ∀ j,j < vs.length → (w.cell? ⟨b,i + j,Option.none⟩).isSome = true) (h : ∀ V,Put w V b i vs → Mops F P N gd K S ρ V) : Mops F P N gd K S ρ (setL w b i vs) := h _ (setL_put hs)
theorem Wp.absS {c : Code} {ds : List Deferred} {Q : Post} {b i : Nat} (vs : List Value) (hs : ∀ j,j < vs.length → (w.cell? ⟨b,i + j,none⟩).isSome = true) (h : ∀ V,Put w V b i vs → Wp F P N c Q ρ ds V) : Wp F P N c Q ρ ds (setL w b i vs) := h _ (setL_put hs)
end
theorem some1 {w : World} {b i : Nat} {v0 : Value} (h0 : w.cell? ⟨b,i,none⟩ = some v0) {x0 : Value} : ∀ j,j < [x0].length → (w.cell? ⟨b,i + j,none⟩).isSome = true := by
 intro j hj;match j,hj with | 0,_ => simp [h0]
theorem some2 {w : World} {b i : Nat} {v0 v1 : Value} (h0 : w.cell? ⟨b,i,none⟩ = some v0) (h1 : w.cell? ⟨b,i + 1,none⟩ = some v1) {x0 x1 : Value} : ∀ j,j < [x0,x1].length → (w.cell? ⟨b,i + j,none⟩).isSome = true := by
 intro j hj;match j,hj with | 0,_ => simp [h0] | 1,_ => simp [h1]
theorem somes {w : World} {b i : Nat} {vs : List Value} (l : List Value) (hl : vs.length ≤ l.length) (h : ∀ j v,l[j]? = some v → w.cell? ⟨b,i + j,none⟩ = some v) : ∀ j,j < vs.length → (w.cell? ⟨b,i + j,none⟩).isSome = true := fun j hj => by
 rw [h j (l[j]'(by omega)) (List.getElem?_eq_getElem _)];rfl
@[reducible] def cellVal {w : World} {a : Addr} {v : Value} (_ : w.cell? a = some v) : Value := v
theorem grown_chg {w w' : World} {row : Option Nat} (h : w.grownBy w' row) : Chg row.toList w w' :=
 ⟨h.os,h.tape,h.output,h.size,fun k hk hn => h.block k hk (fun e => hn (by rw [← e];simp))⟩
theorem lt_off {row : Option Nat} {S T b : Nat} (LT : ∀ k,row = some k → S ≤ k ∧ k < T) (h : b < S ∨ T ≤ b) : b ∉ row.toList := fun hm => by
 have := LT b (by simpa using hm);omega
theorem lt_ge {row : Option Nat} {S T X : Nat} (LT : ∀ k,row = some k → S ≤ k ∧ k < T) (h : X ≤ S) : ∀ b ∈ row.toList,X ≤ b := fun b hm => by
 have := LT b (by simpa using hm);omega
theorem lt_gm {row : Option Nat} {S T X : Nat} {L : List Nat} (LT : ∀ k,row = some k → S ≤ k ∧ k < T) (h : X ≤ S) : ∀ b ∈ row.toList,X ≤ b ∨ b ∈ L := fun b hm => .inl (lt_ge LT h b hm)
theorem tSC {α : Type _} {a : α} {as : List α} {i : Nat} : (a :: as).take (i + 1) = a :: as.take i := List.take_succ_cons
theorem tZ {α : Type _} {l : List α} : l.take 0 = [] := List.take_zero
theorem dSC {α : Type _} {a : α} {l : List α} {i : Nat} : (a :: l).drop (i + 1) = l.drop i := List.drop_succ_cons
theorem dZ {α : Type _} {l : List α} : l.drop 0 = l := List.drop_zero
section
variable {P : Program} {N : Nat} {K : Post} {ρ : Nat → Value} {ds : List Deferred} {w : World} {id : Nat} {L : List Oper} {x y : Code} {c : Operand} {G : Nat → Option Nat} {J : (Nat → Value) → World → Prop} {F : Fence}
theorem sRg (h : ∀ (K' : (Nat → Value) → World → Prop) (gd : Nat → Option Nat),(∀ ρ w,Wp Fence.wide P N y K ρ ds w → K' ρ w) → Wops Fence.wide P N gd K' L ρ w) (hnd : noDefer L.toArray = true := by kernel_rfl) : Wp Fence.wide P N ((Code.region id L.toArray false).seq y) K ρ ds w := Wp.seqRegion (.inl rfl) hnd fun K' gd hK _ => h K' gd hK
theorem sRh (h : ∀ (K' : (Nat → Value) → World → Prop) (gd : Nat → Option Nat),(∀ ρ w,Wp Fence.wide P N y K ρ ds w → K' ρ w) → (∀ j,gd j = (L[j]?).bind (·.dst)) → Wops Fence.wide P N gd K' L ρ w) (hnd : noDefer L.toArray = true := by kernel_rfl) : Wp Fence.wide P N ((Code.region id L.toArray false).seq y) K ρ ds w := Wp.seqRegion (.inl rfl) hnd h
theorem lRg (h : ∀ (K' : (Nat → Value) → World → Prop) (gd : Nat → Option Nat),(∀ ρ w,Ends K ρ ds w → K' ρ w) → Wops Fence.wide P N gd K' L ρ w) (hnd : noDefer L.toArray = true := by kernel_rfl) : Wp Fence.wide P N (Code.region id L.toArray false) K ρ ds w := Wp.loneRegion (.inl rfl) hnd fun K' gd hK _ => h K' gd hK
theorem cTt (h1 : Wp F P N x K ρ ds w) (hc : evN N ρ c = .bool true := by go_simp) : Wp F P N (.cond c x y) K ρ ds w := Wp.condT hc h1
theorem cFf (h1 : Wp F P N y K ρ ds w) (hc : evN N ρ c = .bool false := by go_simp) : Wp F P N (.cond c x y) K ρ ds w := Wp.condF hc h1
theorem mNo {R : List Oper} {S : List (List Oper × Option (Oper × Bool))} {ρf : Nat → Value} (h2 : Mops F P N G J S ρf w) (h1 : ∀ w',Ext w w' → Rops P N G ρf R ρ w' := by (intro w' hE';have hC' := hE'.cellsS;go_simp;with_reducible rfl)) : Mops F P N G J ((R,.none) :: S) ρ w := Mops.none h1 h2
theorem mAc {R : List Oper} {o : Oper} {S : List (List Oper × Option (Oper × Bool))} {ρf : Nat → Value}
  (h2 : ∀ K1 : (Nat → Value) → World → Prop,(∀ ρ' w',Ext w w' → Mops F P N G J S ρ' w' → K1 ρ' w') → if guardOk G N ρf o.guard then Wstep F P N K1 o.dst ρf ((execOp (evN N ρf) o).run P w) else K1 (updO ρf o.dst undef) w) (h1 : ∀ w',Ext w w' → Rops P N G ρf R ρ w' := by (intro w' hE';have hC' := hE'.cellsS;go_simp;with_reducible rfl)) : Mops F P N G J ((R,some (o,false)) :: S) ρ w := Mops.act h1 h2
theorem mLa {R : List Oper} {o : Oper} {S : List (List Oper × Option (Oper × Bool))} {ρf : Nat → Value}
  (h2 : ∀ K1 : (Nat → Value) → World → Prop,(∀ ρ' w',Mops F P N G J S ρ' w' → K1 ρ' w') → if guardOk G N ρf o.guard then Wstep F P N K1 o.dst ρf ((execOp (evN N ρf) o).run P w) else K1 (updO ρf o.dst undef) w) (h1 : ∀ w',Ext w w' → Rops P N G ρf R ρ w' := by (intro w' hE';have hC' := hE'.cellsS;go_simp;with_reducible rfl)) : Mops F P N G J ((R,some (o,true)) :: S) ρ w := Mops.last h1 h2
theorem skN {X : (Nat → Value) → List Deferred → World → Prop} (h : X ρ ds w) : Wp F P N .skip (thenK X K) ρ ds w := Wp.skip (thenK_normal h)
theorem tNo {X : (Nat → Value) → List Deferred → World → Prop} (h : X ρ ds w) : thenK X K .normal ρ ds w := h
theorem tRe {X : (Nat → Value) → List Deferred → World → Prop} (h : K .ret ρ ds w) : thenK X K .ret ρ ds w := h
theorem tEx {X : (Nat → Value) → List Deferred → World → Prop} {n : Nat} (h : K (.exit n) ρ ds w) : thenK X K (.exit n) ρ ds w := h
theorem bNo {n : Nat} (h : K .normal ρ ds w) : blockK n K .normal ρ ds w := h
theorem bRe {n : Nat} (h : K .ret ρ ds w) : blockK n K .ret ρ ds w := h
theorem sBk {n : Nat} (h : Wp F P N x (blockK n (thenK (Wp F P N y K) K)) ρ ds w) : Wp F P N (.seq (.block n x) y) K ρ ds w := Wp.seq (Wp.block h)
theorem cu1 {a0 : Oper} (h : ∀ K1 : (Nat → Value) → World → Prop,(∀ ρ w,Wops F P N G J L ρ w → K1 ρ w) → Wops F P N G K1 [a0] ρ w) : Wops F P N G J (a0 :: L) ρ w := Wops.cut 1 h
theorem cu2 {a0 a1 : Oper} (h : ∀ K1 : (Nat → Value) → World → Prop,(∀ ρ w,Wops F P N G J L ρ w → K1 ρ w) → Wops F P N G K1 [a0,a1] ρ w) : Wops F P N G J (a0 :: a1 :: L) ρ w := Wops.cut 2 h
theorem cu3 {a0 a1 a2 : Oper} (h : ∀ K1 : (Nat → Value) → World → Prop,(∀ ρ w,Wops F P N G J L ρ w → K1 ρ w) → Wops F P N G K1 [a0,a1,a2] ρ w) : Wops F P N G J (a0 :: a1 :: a2 :: L) ρ w := Wops.cut 3 h
theorem cu4 {a0 a1 a2 a3 : Oper} (h : ∀ K1 : (Nat → Value) → World → Prop,(∀ ρ w,Wops F P N G J L ρ w → K1 ρ w) → Wops F P N G K1 [a0,a1,a2,a3] ρ w) : Wops F P N G J (a0 :: a1 :: a2 :: a3 :: L) ρ w := Wops.cut 4 h
theorem cu5 {a0 a1 a2 a3 a4 : Oper} (h : ∀ K1 : (Nat → Value) → World → Prop,(∀ ρ w,Wops F P N G J L ρ w → K1 ρ w) → Wops F P N G K1 [a0,a1,a2,a3,a4] ρ w) : Wops F P N G J (a0 :: a1 :: a2 :: a3 :: a4 :: L) ρ w := Wops.cut 5 h
theorem cu6 {a0 a1 a2 a3 a4 a5 : Oper} (h : ∀ K1 : (Nat → Value) → World → Prop,(∀ ρ w,Wops F P N G J L ρ w → K1 ρ w) → Wops F P N G K1 [a0,a1,a2,a3,a4,a5] ρ w) : Wops F P N G J (a0 :: a1 :: a2 :: a3 :: a4 :: a5 :: L) ρ w := Wops.cut 6 h
theorem cu7 {a0 a1 a2 a3 a4 a5 a6 : Oper} (h : ∀ K1 : (Nat → Value) → World → Prop,(∀ ρ w,Wops F P N G J L ρ w → K1 ρ w) → Wops F P N G K1 [a0,a1,a2,a3,a4,a5,a6] ρ w) : Wops F P N G J (a0 :: a1 :: a2 :: a3 :: a4 :: a5 :: a6 :: L) ρ w := Wops.cut 7 h
theorem cu8 {a0 a1 a2 a3 a4 a5 a6 a7 : Oper} (h : ∀ K1 : (Nat → Value) → World → Prop,(∀ ρ w,Wops F P N G J L ρ w → K1 ρ w) → Wops F P N G K1 [a0,a1,a2,a3,a4,a5,a6,a7] ρ w) : Wops F P N G J (a0 :: a1 :: a2 :: a3 :: a4 :: a5 :: a6 :: a7 :: L) ρ w := Wops.cut 8 h
theorem cu9 {a0 a1 a2 a3 a4 a5 a6 a7 a8 : Oper} (h : ∀ K1 : (Nat → Value) → World → Prop,(∀ ρ w,Wops F P N G J L ρ w → K1 ρ w) → Wops F P N G K1 [a0,a1,a2,a3,a4,a5,a6,a7,a8] ρ w) : Wops F P N G J (a0 :: a1 :: a2 :: a3 :: a4 :: a5 :: a6 :: a7 :: a8 :: L) ρ w := Wops.cut 9 h
theorem cu10 {a0 a1 a2 a3 a4 a5 a6 a7 a8 a9 : Oper} (h : ∀ K1 : (Nat → Value) → World → Prop,(∀ ρ w,Wops F P N G J L ρ w → K1 ρ w) → Wops F P N G K1 [a0,a1,a2,a3,a4,a5,a6,a7,a8,a9] ρ w) : Wops F P N G J (a0 :: a1 :: a2 :: a3 :: a4 :: a5 :: a6 :: a7 :: a8 :: a9 :: L) ρ w := Wops.cut 10 h
theorem cu11 {a0 a1 a2 a3 a4 a5 a6 a7 a8 a9 a10 : Oper} (h : ∀ K1 : (Nat → Value) → World → Prop,(∀ ρ w,Wops F P N G J L ρ w → K1 ρ w) → Wops F P N G K1 [a0,a1,a2,a3,a4,a5,a6,a7,a8,a9,a10] ρ w) : Wops F P N G J (a0 :: a1 :: a2 :: a3 :: a4 :: a5 :: a6 :: a7 :: a8 :: a9 :: a10 :: L) ρ w := Wops.cut 11 h
theorem cu12 {a0 a1 a2 a3 a4 a5 a6 a7 a8 a9 a10 a11 : Oper} (h : ∀ K1 : (Nat → Value) → World → Prop,(∀ ρ w,Wops F P N G J L ρ w → K1 ρ w) → Wops F P N G K1 [a0,a1,a2,a3,a4,a5,a6,a7,a8,a9,a10,a11] ρ w) : Wops F P N G J (a0 :: a1 :: a2 :: a3 :: a4 :: a5 :: a6 :: a7 :: a8 :: a9 :: a10 :: a11 :: L) ρ w := Wops.cut 12 h
theorem cu13 {a0 a1 a2 a3 a4 a5 a6 a7 a8 a9 a10 a11 a12 : Oper} (h : ∀ K1 : (Nat → Value) → World → Prop,(∀ ρ w,Wops F P N G J L ρ w → K1 ρ w) → Wops F P N G K1 [a0,a1,a2,a3,a4,a5,a6,a7,a8,a9,a10,a11,a12] ρ w) : Wops F P N G J (a0 :: a1 :: a2 :: a3 :: a4 :: a5 :: a6 :: a7 :: a8 :: a9 :: a10 :: a11 :: a12 :: L) ρ w := Wops.cut 13 h
theorem cu14 {a0 a1 a2 a3 a4 a5 a6 a7 a8 a9 a10 a11 a12 a13 : Oper} (h : ∀ K1 : (Nat → Value) → World → Prop,(∀ ρ w,Wops F P N G J L ρ w → K1 ρ w) → Wops F P N G K1 [a0,a1,a2,a3,a4,a5,a6,a7,a8,a9,a10,a11,a12,a13] ρ w) : Wops F P N G J (a0 :: a1 :: a2 :: a3 :: a4 :: a5 :: a6 :: a7 :: a8 :: a9 :: a10 :: a11 :: a12 :: a13 :: L) ρ w := Wops.cut 14 h
theorem cu15 {a0 a1 a2 a3 a4 a5 a6 a7 a8 a9 a10 a11 a12 a13 a14 : Oper} (h : ∀ K1 : (Nat → Value) → World → Prop,(∀ ρ w,Wops F P N G J L ρ w → K1 ρ w) → Wops F P N G K1 [a0,a1,a2,a3,a4,a5,a6,a7,a8,a9,a10,a11,a12,a13,a14] ρ w) : Wops F P N G J (a0 :: a1 :: a2 :: a3 :: a4 :: a5 :: a6 :: a7 :: a8 :: a9 :: a10 :: a11 :: a12 :: a13 :: a14 :: L) ρ w := Wops.cut 15 h
theorem cu16 {a0 a1 a2 a3 a4 a5 a6 a7 a8 a9 a10 a11 a12 a13 a14 a15 : Oper} (h : ∀ K1 : (Nat → Value) → World → Prop,(∀ ρ w,Wops F P N G J L ρ w → K1 ρ w) → Wops F P N G K1 [a0,a1,a2,a3,a4,a5,a6,a7,a8,a9,a10,a11,a12,a13,a14,a15] ρ w) : Wops F P N G J (a0 :: a1 :: a2 :: a3 :: a4 :: a5 :: a6 :: a7 :: a8 :: a9 :: a10 :: a11 :: a12 :: a13 :: a14 :: a15 :: L) ρ w := Wops.cut 16 h
theorem cu17 {a0 a1 a2 a3 a4 a5 a6 a7 a8 a9 a10 a11 a12 a13 a14 a15 a16 : Oper} (h : ∀ K1 : (Nat → Value) → World → Prop,(∀ ρ w,Wops F P N G J L ρ w → K1 ρ w) → Wops F P N G K1 [a0,a1,a2,a3,a4,a5,a6,a7,a8,a9,a10,a11,a12,a13,a14,a15,a16] ρ w) : Wops F P N G J (a0 :: a1 :: a2 :: a3 :: a4 :: a5 :: a6 :: a7 :: a8 :: a9 :: a10 :: a11 :: a12 :: a13 :: a14 :: a15 :: a16 :: L) ρ w := Wops.cut 17 h
theorem cu18 {a0 a1 a2 a3 a4 a5 a6 a7 a8 a9 a10 a11 a12 a13 a14 a15 a16 a17 : Oper} (h : ∀ K1 : (Nat → Value) → World → Prop,(∀ ρ w,Wops F P N G J L ρ w → K1 ρ w) → Wops F P N G K1 [a0,a1,a2,a3,a4,a5,a6,a7,a8,a9,a10,a11,a12,a13,a14,a15,a16,a17] ρ w) : Wops F P N G J (a0 :: a1 :: a2 :: a3 :: a4 :: a5 :: a6 :: a7 :: a8 :: a9 :: a10 :: a11 :: a12 :: a13 :: a14 :: a15 :: a16 :: a17 :: L) ρ w := Wops.cut 18 h
theorem cu19 {a0 a1 a2 a3 a4 a5 a6 a7 a8 a9 a10 a11 a12 a13 a14 a15 a16 a17 a18 : Oper} (h : ∀ K1 : (Nat → Value) → World → Prop,(∀ ρ w,Wops F P N G J L ρ w → K1 ρ w) → Wops F P N G K1 [a0,a1,a2,a3,a4,a5,a6,a7,a8,a9,a10,a11,a12,a13,a14,a15,a16,a17,a18] ρ w) : Wops F P N G J (a0 :: a1 :: a2 :: a3 :: a4 :: a5 :: a6 :: a7 :: a8 :: a9 :: a10 :: a11 :: a12 :: a13 :: a14 :: a15 :: a16 :: a17 :: a18 :: L) ρ w := Wops.cut 19 h
theorem cu20 {a0 a1 a2 a3 a4 a5 a6 a7 a8 a9 a10 a11 a12 a13 a14 a15 a16 a17 a18 a19 : Oper} (h : ∀ K1 : (Nat → Value) → World → Prop,(∀ ρ w,Wops F P N G J L ρ w → K1 ρ w) → Wops F P N G K1 [a0,a1,a2,a3,a4,a5,a6,a7,a8,a9,a10,a11,a12,a13,a14,a15,a16,a17,a18,a19] ρ w) : Wops F P N G J (a0 :: a1 :: a2 :: a3 :: a4 :: a5 :: a6 :: a7 :: a8 :: a9 :: a10 :: a11 :: a12 :: a13 :: a14 :: a15 :: a16 :: a17 :: a18 :: a19 :: L) ρ w := Wops.cut 20 h
theorem cu21 {a0 a1 a2 a3 a4 a5 a6 a7 a8 a9 a10 a11 a12 a13 a14 a15 a16 a17 a18 a19 a20 : Oper} (h : ∀ K1 : (Nat → Value) → World → Prop,(∀ ρ w,Wops F P N G J L ρ w → K1 ρ w) → Wops F P N G K1 [a0,a1,a2,a3,a4,a5,a6,a7,a8,a9,a10,a11,a12,a13,a14,a15,a16,a17,a18,a19,a20] ρ w) : Wops F P N G J (a0 :: a1 :: a2 :: a3 :: a4 :: a5 :: a6 :: a7 :: a8 :: a9 :: a10 :: a11 :: a12 :: a13 :: a14 :: a15 :: a16 :: a17 :: a18 :: a19 :: a20 :: L) ρ w := Wops.cut 21 h
theorem cu22 {a0 a1 a2 a3 a4 a5 a6 a7 a8 a9 a10 a11 a12 a13 a14 a15 a16 a17 a18 a19 a20 a21 : Oper} (h : ∀ K1 : (Nat → Value) → World → Prop,(∀ ρ w,Wops F P N G J L ρ w → K1 ρ w) → Wops F P N G K1 [a0,a1,a2,a3,a4,a5,a6,a7,a8,a9,a10,a11,a12,a13,a14,a15,a16,a17,a18,a19,a20,a21] ρ w) : Wops F P N G J (a0 :: a1 :: a2 :: a3 :: a4 :: a5 :: a6 :: a7 :: a8 :: a9 :: a10 :: a11 :: a12 :: a13 :: a14 :: a15 :: a16 :: a17 :: a18 :: a19 :: a20 :: a21 :: L) ρ w := Wops.cut 22 h
theorem cu23 {a0 a1 a2 a3 a4 a5 a6 a7 a8 a9 a10 a11 a12 a13 a14 a15 a16 a17 a18 a19 a20 a21 a22 : Oper} (h : ∀ K1 : (Nat → Value) → World → Prop,(∀ ρ w,Wops F P N G J L ρ w → K1 ρ w) → Wops F P N G K1 [a0,a1,a2,a3,a4,a5,a6,a7,a8,a9,a10,a11,a12,a13,a14,a15,a16,a17,a18,a19,a20,a21,a22] ρ w) : Wops F P N G J (a0 :: a1 :: a2 :: a3 :: a4 :: a5 :: a6 :: a7 :: a8 :: a9 :: a10 :: a11 :: a12 :: a13 :: a14 :: a15 :: a16 :: a17 :: a18 :: a19 :: a20 :: a21 :: a22 :: L) ρ w := Wops.cut 23 h
theorem cu24 {a0 a1 a2 a3 a4 a5 a6 a7 a8 a9 a10 a11 a12 a13 a14 a15 a16 a17 a18 a19 a20 a21 a22 a23 : Oper} (h : ∀ K1 : (Nat → Value) → World → Prop,(∀ ρ w,Wops F P N G J L ρ w → K1 ρ w) → Wops F P N G K1 [a0,a1,a2,a3,a4,a5,a6,a7,a8,a9,a10,a11,a12,a13,a14,a15,a16,a17,a18,a19,a20,a21,a22,a23] ρ w) : Wops F P N G J (a0 :: a1 :: a2 :: a3 :: a4 :: a5 :: a6 :: a7 :: a8 :: a9 :: a10 :: a11 :: a12 :: a13 :: a14 :: a15 :: a16 :: a17 :: a18 :: a19 :: a20 :: a21 :: a22 :: a23 :: L) ρ w := Wops.cut 24 h
end
end Go.Wk
namespace Go.Wk
open Go.RowKit
set_option linter.unusedVariables false
section
variable {P : Program} {N : Nat} {K : Post} {ρ : Nat → Value} {ds : List Deferred} {w : World}
end
end Go.Wk
namespace Go.Wk
open Go.RowKit
set_option linter.unusedVariables false
theorem Adm.fz {m : Nat} {W W' : World} (h : Adm m W W') {b i : Nat} {v : Value} (c : W.cell? ⟨b,i,none⟩ = some v) (f : ∀ k,W.frozen? ⟨b,k,none⟩ = false) : ∀ k,W'.frozen? ⟨b,k,none⟩ = false := fun k => by
 obtain ⟨o,ho,hc⟩ := cells_of_cell c;exact (World.frozen?_of_block (a := ⟨b,k,none⟩) ((h.block b o ho (.inr hc)).trans ho.symm)).trans (f k)
theorem Adm.chg {m : Nat} {L : List Nat} {X W W' : World} (h : Adm m W W') (x : Chg L X W) (hX : X.heap.size ≤ m) : Chg L X W' :=
 ⟨h.os.trans x.os,h.tape.trans x.tape,h.output.trans x.output,Nat.le_trans x.size h.size,fun k hk hn => by
  have hlt : k < W.heap.size := Nat.lt_of_lt_of_le hk x.size;have e : W.heap[k]? = some W.heap[k] := by simp [hlt]
  rw [h.block k W.heap[k] e (.inl (by omega)),← x.block k hk hn,e]⟩
theorem Adm.toE {m : Nat} {X W W' : World} (h : Adm m W W') (x : Ext X W) (hX : X.heap.size ≤ m) : Ext X W' := h.below x (Nat.le_refl _) hX
def IsC (W : World) (b : Nat) : Prop := ∃ o,W.heap[b]? = some o ∧ o.isCells = true
theorem IsC.of {W : World} {b i : Nat} {v : Value} (c : W.cell? ⟨b,i,none⟩ = some v) : IsC W b := by
 obtain ⟨o,ho,hc⟩ := cells_of_cell c;exact ⟨o,ho,hc⟩
theorem KeepsOthers.of_chg {L : List Nat} {A B : World} (h : Chg L A B) (hL : ∀ b ∈ L,IsC A b) : KeepsOthers A B :=
 ⟨h.size,fun k o hk ho => (h.block k (Array.getElem?_eq_some_iff.1 hk).1 (fun hm => by
  obtain ⟨o',h1,h2⟩ := hL k hm;rw [hk] at h1;cases h1
  rw [ho] at h2;cases h2)).trans hk⟩
theorem RowC.put {w V : World} {b i k : Nat} {e : TypeId} {cs vs : List Value} (h : RowC w k e cs) (p : Put w V b i vs) (hb : k ≠ b) : RowC V k e cs :=
 (p.chg.block k h.lt (by simpa using hb)).trans h
theorem RowC.chg {w V : World} {L : List Nat} {k : Nat} {e : TypeId} {cs : List Value} (h : RowC w k e cs) (p : Chg L w V) (hb : k ∉ L) : RowC V k e cs := (p.block k h.lt hb).trans h
theorem RowC.adm {m : Nat} {w V : World} {k : Nat} {e : TypeId} {cs : List Value} (h : RowC w k e cs) (p : Adm m w V) : RowC V k e cs := p.block k _ h (.inr rfl)
theorem mem1 {P : Nat → Prop} {a : Nat} (h : P a) : ∀ b ∈ [a],P b := by simpa using h
theorem mem2 {P : Nat → Prop} {a a2 : Nat} (h : P a) (h2 : P a2) : ∀ b ∈ [a,a2],P b := by simpa using ⟨h,h2⟩
end Go.Wk
namespace Go.Wk
open Go.RowKit
set_option linter.unusedVariables false
section
variable {F : Fence} {P : Program} {N : Nat} {gd : Nat → Option Nat} {K : (Nat → Value) → World → Prop} {ρ : Nat → Value} {w : World}
theorem Wops.absT {L : List Oper} {cs : Array Value} {t : TypeId} (h : ∀ V n,New w V n cs → V.heap[n]? = some (.cells cs t (0,0)) → Wops F P N gd K L ρ V) : Wops F P N gd K L ρ (w.alloc (.cells cs t)) := h _ _ (new_alloc w cs t) (World.alloc_heap_new w _)
theorem Mops.absT {S : List (List Oper × Option (Oper × Bool))} {cs : Array Value} {t : TypeId} (h : ∀ V n,New w V n cs → V.heap[n]? = some (.cells cs t (0,0)) → Mops F P N gd K S ρ V) : Mops F P N gd K S ρ (w.alloc (.cells cs t)) := h _ _ (new_alloc w cs t) (World.alloc_heap_new w _)
end
end Go.Wk
namespace Go.Wk
open Go.RowKit
set_option linter.unusedVariables false
def cutK (J : (Nat → Value) → List Deferred → World → Prop) (K : Post) : Post
 | .normal,ρ,ds,w => J ρ ds w
 | e,ρ,ds,w => K e ρ ds w
section
variable {F : Fence} {P : Program} {N : Nat} {J : (Nat → Value) → List Deferred → World → Prop} {K : Post} {ρ : Nat → Value} {ds : List Deferred} {w : World}
theorem cutK_normal (h : J ρ ds w) : cutK J K .normal ρ ds w := h
theorem Wp.cut {c : Code} (J : (Nat → Value) → List Deferred → World → Prop) (h1 : Wp F P N c (cutK J K) ρ ds w) (h2 : ∀ ρ ds w,J ρ ds w → K .normal ρ ds w) : Wp F P N c K ρ ds w := by
 refine Wp.mono h1 ?_;intro e ρ ds w h
 cases e with
 | normal => exact h2 _ _ _ h
 | _ => exact h
end
end Go.Wk
namespace Go.Wk
open Go.RowKit Go.Maps
set_option linter.unusedVariables false
section
variable {F : Fence} {P : Program} {N : Nat} {gd : Nat → Option Nat} {K : (Nat → Value) → World → Prop} {ρ : Nat → Value} {w : World}
theorem Wops.lawS {o : Oper} {L : List Oper} {w' : World} (hg : o.guard = none) (hrun : (execOp (evN N ρ) o).run P w = .ok .skip w') (h : Wops F P N gd K L (updO ρ o.dst undef) w') : Wops F P N gd K (o :: L) ρ w := by
 simp only [Wops,hg,guardOk_none,if_true,hrun,Wstep];exact h
theorem Wstep.lawS {r : Result Next} {w' : World} {d : Option Nat} {next : (Nat → Value) → World → Prop} (hrun : r = .ok .skip w') (h : next (updO ρ d undef) w') : Wstep F P N next d ρ r := by
 rw [hrun];exact h
end
theorem exec_lookup2 {P : Program} {ev : Operand → Value} {o : Oper} {m x : Operand} {t : TypeId} (ho : o.op = .lookup t m x false) {v vm vx : Value} {w w' : World}
  (h : (Instr.lookup t vm vx false).run P w = .ok v w') (h1 : ev m = vm) (h2 : ev x = vx) : (execOp ev o).run P w = .ok (.value v) w' := by
 unfold execOp;simp only [ho,Sem.run_bind,Sem.run_pure,Result.andThen_ok,h1,h2,h]
theorem exec_mapUpdate2 {P : Program} {ev : Operand → Value} {o : Oper} {m k x : Operand} {t : TypeId} (ho : o.op = .mapUpdate t m k x) {vm vk vx : Value} {w w' : World}
  (h : (Instr.mapUpdate t vm vk vx).run P w = .ok () w') (h1 : ev m = vm) (h2 : ev k = vk) (h3 : ev x = vx) : (execOp ev o).run P w = .ok .skip w' := by
 unfold execOp;simp only [ho,Sem.run_bind,Sem.run_pure,Result.andThen_ok,h1,h2,h3,h]
@[go_sem] theorem makeMap_run {P : Program} (t : TypeId) (w : World) : (Instr.makeMap t none).run P w = .ok (.map (some w.heap.size)) (w.alloc (.map #[] 0)) := by first | rfl | simp [Instr.makeMap]
def IdMap (P : Program) (tk te : TypeId) (w : World) (b : Nat) (ids : List Int) : Prop :=
 ∃ (n : Nat) (D : DataW Unit),n ≤ ids.length ∧ w.ownsMap P tk (plainElem P te) b n D ∧ ∀ x,D.atKey (.int .i64 x) (.lit (.bool false)) = .lit (.bool (decide (x ∈ ids)))
section
variable {P : Program} {tk te t : TypeId} {w w' : World} {b : Nat} {ids : List Int}
theorem IdMap.made (P : Program) (tk te : TypeId) (w : World) : IdMap P tk te (w.alloc (.map #[] 0)) w.heap.size [] :=
 ⟨0,.map [],Nat.le_refl _,World.ownsMap_made w P tk _,fun x => by simp [DataW.atKey]⟩
theorem IdMap.lt (h : IdMap P tk te w b ids) : b < w.heap.size := by obtain ⟨n,D,-,h,-⟩ := h;exact h.lt
theorem IdMap.ext (h : IdMap P tk te w b ids) (hE : Ext w w') : IdMap P tk te w' b ids := by
 obtain ⟨n,D,h1,⟨es,clock,hb,r⟩,h2⟩ := h;exact ⟨n,D,h1,⟨es,clock,(Below.block hE b (Array.getElem?_eq_some_iff.1 hb).1).trans hb,r⟩,h2⟩
theorem IdMap.put {i : Nat} {B : Nat} {vs : List Value} (h : IdMap P tk te w b ids) (hP : Put w w' B i vs) (hne : b ≠ B) : IdMap P tk te w' b ids := by
 obtain ⟨n,D,h1,⟨es,clock,hb,r⟩,h2⟩ := h;exact ⟨n,D,h1,⟨es,clock,(hP.chg.block b (Array.getElem?_eq_some_iff.1 hb).1 (by simpa using hne)).trans hb,r⟩,h2⟩
theorem IdMap.look (h : IdMap P tk te w b ids) (hk : P.underlying tk = some (.int .i64)) (he : P.underlying te = some .bool) (ht : P.underlying t = some (.map tk te)) (hz : (zeroValue te).run P w = .ok (.bool false) w) {x : Int} (hx : (Lit.int .i64 x).wf = true) :
  (Instr.lookup t (.map (some b)) (.int .i64 x) false).run P w = .ok (.bool (decide (x ∈ ids))) w := by
 obtain ⟨n,D,-,h1,h2⟩ := h;obtain ⟨v,ps,hrun,hv⟩ := h1.lookup (int_keyed hk) ht hz (plainElem_bool he false) (keyOf_int_mk hk hx);rw [h2 x] at hv;rw [hrun]
 congr 1
 unfold plainElem at hv;rw [he] at hv
 cases v <;> simp at hv
 rw [hv.1]
theorem IdMap.add (h : IdMap P tk te w b ids) (hk : P.underlying tk = some (.int .i64)) (he : P.underlying te = some .bool) (ht : P.underlying t = some (.map tk te)) (hl : ids.length ≤ 1000) {x : Int} (hx : (Lit.int .i64 x).wf = true) :
  ∃ w',(Instr.mapUpdate t (.map (some b)) (.int .i64 x) (.bool true)).run P w = .ok () w' ∧ IdMap P tk te w' b (x :: ids) ∧ w.grownBy w' (some b) := by
 obtain ⟨n,D,h0,h1,h2⟩ := h;obtain ⟨w',hrun,r1,r2⟩ := h1.update (int_keyed hk) ht (Nat.lt_of_le_of_lt (show n ≤ 1000 by omega) (by decide)) (keyOf_int_mk hk hx) (plainElem_bool he true);refine ⟨w',hrun,⟨n + 1,_,by simp;omega,r1,fun y => ?_⟩,r2⟩
 by_cases e : y = x
 ·subst e;rw [Maps.atKey_put_same (h1.isMap) ((int_keyed hk).key (keyOf_int_mk hk hx))];simp
 ·rw [Maps.atKey_put_other (by intro h;injection h with _ h;exact e h),h2];simp [e]
end
section
variable {F : Fence} {P : Program} {N : Nat} {gd : Nat → Option Nat} {K : (Nat → Value) → World → Prop} {ρ : Nat → Value} {w : World}
def NewM (w V : World) (n : Nat) : Prop := w.heap.size = n ∧ Ext w V ∧ (w.heap.size ≤ n ∧ n < V.heap.size) ∧ ∀ P tk te,IdMap P tk te V n []
theorem Wops.absM {L : List Oper} (h : ∀ V n,NewM w V n → Wops F P N gd K L ρ V) : Wops F P N gd K L ρ (w.alloc (.map #[] 0)) :=
 h _ _ ⟨rfl,(Ext.refl w).alloc _,⟨Nat.le_refl _,by simp⟩,fun P tk te => IdMap.made P tk te w⟩
theorem Mops.absM {S : List (List Oper × Option (Oper × Bool))} (h : ∀ V n,NewM w V n → Mops F P N gd K S ρ V) : Mops F P N gd K S ρ (w.alloc (.map #[] 0)) :=
 h _ _ ⟨rfl,(Ext.refl w).alloc _,⟨Nat.le_refl _,by simp⟩,fun P tk te => IdMap.made P tk te w⟩
end
end Go.Wk
namespace Go.Wk
open Go.RowKit
set_option linter.unusedVariables false
def Held (V W W' : World) : Prop := ∀ (b : Nat) (o : Obj),V.heap.size ≤ b → W.heap[b]? = some o → o.isCells = true → W'.heap[b]? = some o
section
variable {V W A B : World}
theorem Held.refl (V W : World) : Held V W W := fun _ _ _ h _ => h
theorem Held.ext (h : Held V W A) (hE : Ext A B) : Held V W B := fun b o hb ho hc => (Below.block hE b (Array.getElem?_eq_some_iff.1 (h b o hb ho hc)).1).trans (h b o hb ho hc)
theorem Held.adm {m : Nat} (h : Held V W A) (hA : Adm m A B) : Held V W B := fun b o hb ho hc => hA.block b o (h b o hb ho hc) (.inr hc)
theorem Held.chg {L : List Nat} (h : Held V W A) (hC : Chg L A B) (hL : ∀ b,V.heap.size ≤ b ∧ b < W.heap.size → b ∉ L) : Held V W B := fun b o hb ho hc =>
 (hC.block b (Array.getElem?_eq_some_iff.1 (h b o hb ho hc)).1 (hL b ⟨hb,(Array.getElem?_eq_some_iff.1 ho).1⟩)).trans (h b o hb ho hc)
theorem Held.put {i k : Nat} {vs : List Value} (h : Held V W A) (p : Put A B k i vs) (hk : k < V.heap.size ∨ W.heap.size ≤ k) : Held V W B := h.chg p.chg fun b hb => by simp;omega
theorem Held.cell (h : Held V W A) {b o : Nat} {v : Value} (hb : V.heap.size ≤ b) (hc : W.cell? ⟨b,o,none⟩ = some v) : A.cell? ⟨b,o,none⟩ = some v := by
 obtain ⟨u,hu,hcl⟩ := cells_of_cell hc;rw [← hc];exact World.cell?_of_block ((h b u hb hu hcl).trans hu.symm)
theorem Held.frozen (h : Held V W A) {b o i : Nat} {v : Value} (hb : V.heap.size ≤ b) (hc : W.cell? ⟨b,o,none⟩ = some v) : A.frozen? ⟨b,i,none⟩ = W.frozen? ⟨b,i,none⟩ := by
 obtain ⟨u,hu,hcl⟩ := cells_of_cell hc;exact World.frozen?_of_block ((h b u hb hu hcl).trans hu.symm)
end
def IterH (P : Program) (gf : Nat) (lb : Array Value) {α : Type} (encs : Nat → α → Array Value) (C : World → Nat → α → Prop) (D : World → Prop) (xs : List α) : Prop :=
 ∀ (l : Nat) (J : Nat → Nat → World → Prop) (Jx : World → Prop) (W0 : World),
  (∀ g k W,J g k W → D W) → (∀ g k W W',Ext W W' → J g k W → J g k W') → (∀ W W',Ext W W' → Jx W → Jx W') →
  (∀ g k W W',Chg [g] W W' → J g k W → J g k W') → (∀ g W,W0.heap.size ≤ g → Ext W0 W → J g 0 W) →
  (∀ g k x V W,xs[k]? = some x → J g k V → Ext V W → C W g x → YieldAt Fence.wide 0 P l (encs g x) W fun e W' => (e = .returned (.bool true) ∧ J g (k + 1) W' ∧ C W' g x ∧ Held V W W') ∨ (e = .returned (.bool false) ∧ Jx W')) →
  CallsV P gf (#[.func (.yield l) #[] #[]] ++ lb) W0 fun _ W' => (∃ g,J g xs.length W') ∨ Jx W'
section
variable {P : Program} {N : Nat} {K : Post} {ρ : Nat → Value} {ds : List Deferred} {w : World}
theorem Wp.rangeH {α : Type} {g : Operand} {ps : Array Nat} {assign body : Code} {gf : Nat} {lb : Array Value} {encs : Nat → α → Array Value} {C : World → Nat → α → Prop} {D : World → Prop} {xs : List α}
  (hit : IterH P gf lb encs C D xs) (hg : evN N ρ g = .func (.func gf) #[] lb) (eg : ∀ args w,(callFunc gf args).run P w = .ok (.enter gf args) w) (hps : ∀ (g : Nat) (x : α),(encs g x).size = ps.size)
  (I : Nat → Nat → World → Prop) (Ix : Code → World → Prop) (hD : ∀ g k W,I g k W → D W)
  (hI0 : (∀ g k,Stab w.heap.size (I g k)) ∧ (∀ g k W W',w.heap.size ≤ g → Chg [g] W W' → I g k W → I g k W') ∧ ∀ g x,Stab w.heap.size (fun W => C W g x)) (hIx : ∀ c,Stab w.heap.size (Ix c)) (h0 : ∀ g W,w.heap.size ≤ g → Adm w.heap.size w W → I g 0 W)
  (hbody : ∀ (l g k : Nat) (x : α) (V W : World),xs[k]? = some x → I g k V → Ext V W → C W g x → w.heap.size ≤ l → w.heap.size ≤ g →
   Wp (Fence.wide.inRound l) P N assign (thenK (fun ρ₁ ds₁ W₁ => KeepsOthers W W₁ ∧ ∀ W₂,Adm w.heap.size W₁ W₂ → (∃ r,W₂.heap[l]? = some (.loop r)) →
    Wp (Fence.wide.inRound l) P N body (roundK (fun W' => I g (k + 1) W' ∧ C W' g x ∧ Held V W W') Ix W₂) ρ₁ ds₁ W₂) (fun _ _ _ _ => False)) (putL ρ (ps.zip (encs g x)).toList) [] W)
  (hdone : ∀ (r g : Nat) (W : World),w.heap.size ≤ r → I g xs.length W → W.heap[r]? = some (.deferred (some [])) → K .normal ρ (markOf r :: ds) W)
  (hstop : ∀ (r : Nat) (c : Code) (W : World),w.heap.size ≤ r → Ix c W → W.heap[r]? = some (.deferred (some [])) → Wp Fence.wide P N c K ρ (markOf r :: ds) W) :
  Wp Fence.wide P N (.rangeFunc g ps assign body) K ρ ds w := by
 obtain ⟨hI,hIg,hC⟩ := hI0;refine wpIn_rangeFunc ?_;intro fn hfn;obtain ⟨rec,hrec⟩ : ∃ rec : LoopState → Option Code → Loop,rec = fun st pe => { state := st,pending := pe,fn,tmps := (actOf N ρ ds).tmps,params := ps,assign,body,defers := w.heap.size } := ⟨_,rfl⟩;obtain ⟨W1,hW1⟩ : ∃ W1,(w.alloc (.deferred (some []))).alloc (.loop (rec .ready none)) = W1 := ⟨_,rfl⟩
 have hL1 : W1.heap[w.heap.size + 1]? = some (.loop (rec .ready none)) := by
  rw [← hW1];have := World.alloc_heap_new (w.alloc (.deferred (some []))) (.loop (rec .ready none));rwa [World.size_alloc] at this
 have hK1 : W1.heap[w.heap.size]? = some (.deferred (some [])) := by
  rw [← hW1];exact (Below.heap_alloc _ _ _ (by simp)).trans (World.alloc_heap_new w _)
 have hE1 : Ext w W1 := by rw [← hW1];exact ((Ext.refl _).alloc _).alloc _
 have hz1 : W1.heap.size = w.heap.size + 2 := by rw [← hW1];simp
 refine ⟨w.heap.size + 1,[markOf w.heap.size],W1,{ target := .fn (.func gf) lb,args := #[.func (.yield (w.heap.size + 1)) #[] #[]] },W1,gf,
  #[.func (.yield (w.heap.size + 1)) #[] #[]] ++ lb,W1,?_,?_,fun _ _ => trivial,?_,fun e => by simp [Fence.wide] at e,?_⟩
 ·rw [← hW1,hrec];exact run_enterLoop_outer _ _ _ _ _
 ·simp only [resolve,eval_act,hg];simp [go_sem]
 ·simp [invoke,go_sem,eg]
 ·have hext : ∀ {X Y : World} {k : Nat} {o : Obj},Ext X Y → X.heap[k]? = some o → Y.heap[k]? = some o := fun h hk => (Below.block h _ (Array.getElem?_eq_some_iff.1 hk).1).trans hk
  refine (callsIn_wide (n := 0 - 1)).2 ((hit (w.heap.size + 1)
   (fun g k W => w.heap.size + 2 ≤ g ∧ I g k W ∧ W.heap[w.heap.size + 1]? = some (.loop (rec .ready none)) ∧ W.heap[w.heap.size]? = some (.deferred (some [])))
   (fun W => ∃ c,Ix c W ∧ W.heap[w.heap.size + 1]? = some (.loop (rec .done (some c))) ∧ W.heap[w.heap.size]? = some (.deferred (some [])))
   W1 (fun g k W h => hD g k W h.2.1)
   (fun g k X Y he h => ⟨h.1,hI g k _ _ (Adm.of_ext he) h.2.1,hext he h.2.2.1,hext he h.2.2.2⟩)
   (fun X Y he h => by obtain ⟨c,h1,h2,h3⟩ := h;exact ⟨c,hIx c _ _ (Adm.of_ext he) h1,hext he h2,hext he h3⟩)
   (fun g k X Y hg2 h => ⟨h.1,hIg g k _ _ (by omega) hg2 h.2.1,(hg2.block _ (Array.getElem?_eq_some_iff.1 h.2.2.1).1 (by simp;omega)).trans h.2.2.1,(hg2.block _ (Array.getElem?_eq_some_iff.1 h.2.2.2).1 (by simp;omega)).trans h.2.2.2⟩)
   (fun g W hg0 hE0 => ⟨by omega,h0 g W (by omega) (Adm.of_ext (hE1.trans hE0)),hext hE0 hL1,hext hE0 hK1⟩) ?_).calls.mono ?_)
  ·rintro g k x V W hx ⟨hgw,hi,hlV,hkV⟩ hVW hCg;have hl := hext hVW hlV;have hk := hext hVW hkV;have hlt : w.heap.size + 1 < W.heap.size := (Array.getElem?_eq_some_iff.1 hl).1;have hy := run_yield (P := P) (args := encs g x) hl (by rw [hrec];exact hps g x);rw [hrec] at hy;refine ⟨fn,_,assign,body,hy,roundIn_of_wpIn (F := Fence.wide) trivial ?_⟩
   dsimp only
   rw [put_fold];refine Go.wpIn_mono (hbody (w.heap.size + 1) g k x V W hx hi hVW hCg (by omega) (by omega)) ?_;rintro e a1 W₁ ⟨ρ₁,ds₁,rfl,hq⟩
   cases e <;> first | exact hq.elim | skip
   obtain ⟨hko,hq⟩ := hq;have hl1 := hko.same _ _ hl rfl;have hk1 := hko.same _ _ hk rfl;refine ⟨_,run_beginRound hl1 (by rw [hrec]),?_⟩;have hlt1 : w.heap.size + 1 < W₁.heap.size := (Array.getElem?_eq_some_iff.1 hl1).1;have hl2 : (W₁.putObj (w.heap.size + 1) (.loop { rec .ready none with state := .busy })).heap[w.heap.size + 1]? = some (.loop { rec .ready none with state := .busy }) := World.putObj_heap_same hlt1;have hk2 : (W₁.putObj (w.heap.size + 1) (.loop { rec .ready none with state := .busy })).heap[w.heap.size]? = some (.deferred (some [])) := (World.putObj_heap_other (by omega)).trans hk1;refine Go.wpIn_mono (hq _ (Adm.putObj _ hl1 rfl (by omega)) ⟨_,hl2⟩) ?_
   have fin : ∀ (jump : Option Code) (W3 : World),KeepsOthers (W₁.putObj (w.heap.size + 1) (.loop { rec .ready none with state := .busy })) W3 →
     (Instr.endRound (w.heap.size + 1) jump).run P W3 = .ok (.bool jump.isNone) (W3.putObj (w.heap.size + 1) (.loop (rec (if jump.isNone then .ready else .done) jump))) ∧
     W3.heap[w.heap.size + 1]? = some (.loop { rec .ready none with state := .busy }) ∧
     (W3.putObj (w.heap.size + 1) (.loop (rec (if jump.isNone then .ready else .done) jump))).heap[w.heap.size + 1]? = some (.loop (rec (if jump.isNone then .ready else .done) jump)) ∧
     (W3.putObj (w.heap.size + 1) (.loop (rec (if jump.isNone then .ready else .done) jump))).heap[w.heap.size]? = some (.deferred (some [])) := fun jump W3 hk3 => by
    have hl3 := hk3.same _ _ hl2 rfl;have := run_endRound (P := P) jump hl3;rw [hrec] at this ⊢;exact ⟨this,by rw [hrec] at hl3;exact hl3,World.putObj_heap_same (Array.getElem?_eq_some_iff.1 hl3).1,(World.putObj_heap_other (by omega)).trans (hk3.same _ _ hk2 rfl)⟩
   rintro e a3 W3 ⟨ρ₃,ds₃,rfl,hp⟩
   cases e with
   | normal =>
     obtain ⟨hk3,hi3⟩ := hp;obtain ⟨hr,hl3,hl4,hk4⟩ := fin none W3 hk3;exact ⟨_,_,hr,.inl ⟨rfl,⟨hgw,hI _ _ _ _ (Adm.putObj _ hl3 rfl (by omega)) hi3.1,hl4,hk4⟩,hC _ _ _ _ (Adm.putObj _ hl3 rfl (by omega)) hi3.2.1,Held.adm hi3.2.2 (Adm.putObj _ hl3 rfl (Nat.le_refl _))⟩⟩
   | ret =>
     obtain ⟨hk3,hi3⟩ := hp;obtain ⟨hr,hl3,hl4,hk4⟩ := fin (some .ret) W3 hk3;exact ⟨_,_,hr,.inr ⟨rfl,.ret,hIx _ _ _ (Adm.putObj _ hl3 rfl (by omega)) hi3,hl4,hk4⟩⟩
   | exit id =>
     obtain ⟨hk3,hi3⟩ := hp;obtain ⟨hr,hl3,hl4,hk4⟩ := fin (some (.exit id)) W3 hk3;exact ⟨_,_,hr,.inr ⟨rfl,.exit id,hIx _ _ _ (Adm.putObj _ hl3 rfl (by omega)) hi3,hl4,hk4⟩⟩
   | goto t =>
     obtain ⟨hk3,hi3⟩ := hp;obtain ⟨hr,hl3,hl4,hk4⟩ := fin (some (.goto t)) W3 hk3;exact ⟨_,_,hr,.inr ⟨rfl,.goto t,hIx _ _ _ (Adm.putObj _ hl3 rfl (by omega)) hi3,hl4,hk4⟩⟩
   | panic ch => exact hp.elim
   | outgrown => exact hp.elim
  ·rintro e W2 ⟨v,rfl,(⟨g,hgw,hi,hl,hk⟩ | ⟨c,hi,hl,hk⟩)⟩
   ·refine ⟨none,_,by have := run_endLoop (P := P) hl (by rw [hrec];simp);rw [hrec] at this;exact this,ρ,_,rfl,hdone _ g _ (Nat.le_refl _) (hI _ _ _ _ (Adm.putObj _ hl rfl (by omega)) hi) ((World.putObj_heap_other (by omega)).trans hk)⟩
   ·exact ⟨some c,_,by have := run_endLoop (P := P) hl (by rw [hrec];simp);rw [hrec] at this;exact this,hstop _ c _ (Nat.le_refl _) (hIx c _ _ (Adm.putObj _ hl rfl (by omega)) hi) ((World.putObj_heap_other (by omega)).trans hk)⟩
end
end Go.Wk
namespace Go.Wk
open Go.RowKit
set_option linter.unusedVariables false
section
variable {F : Fence} {P : Program} {N : Nat} {gd : Nat → Option Nat} {K : (Nat → Value) → World → Prop} {t : PO} {ρ : Nat → Value}
theorem Mtree.absT {X : World} {cs : Array Value} {ty : TypeId} (h : ∀ V : World,Ext X V → X.heap.size < V.heap.size → (∀ i v,cs[i]? = some v → V.cell? ⟨X.heap.size,i,none⟩ = some v) → (∀ i,V.frozen? ⟨X.heap.size,i,none⟩ = false) → V.heap[X.heap.size]? = some (.cells cs ty (0,0)) → Mtree F P N gd K t ρ V) : Mtree F P N gd K t ρ (X.alloc (.cells cs ty)) :=
 h _ ((Ext.refl X).alloc _) (by simp) (fun i v hv => by rw [cell_nw];exact hv) (fun i => frozen_nw ..) (World.alloc_heap_new X _)
theorem Mtree.absTD {X : World} {cs : Array Value} {ty : TypeId} (h : ∀ V : World,Ext X V → X.heap.size < V.heap.size → (∀ i v,cs[i]? = some v → V.cell? ⟨X.heap.size,i,none⟩ = some v) → (∀ i,V.frozen? ⟨X.heap.size,i,none⟩ = false) → V.heap[X.heap.size]? = some (.cells cs ty (0,0)) → Mtree F P N gd K t ρ V) : Mtree F P N gd K t ρ (X.alloc (.cells cs ty)).drew :=
 h _ ((Ext.refl X).alloc _).drew (by simp) (fun i v hv => cell_drew (by rw [cell_nw];exact hv)) (fun i => frozen_nw ..) (World.alloc_heap_new X _)
structure Hd (p : Prop) : Prop where
 h : p
theorem Mtree.stepH {w : World} {o : Oper} {t : PO} (h2 : ∀ K1 : (Nat → Value) → World → Prop,Hd (∀ ρ' w',Ext w w' → Mtree F P N gd K t ρ' w' → K1 ρ' w') → if guardOk gd N ρ o.guard then Wstep F P N K1 o.dst ρ ((execOp (evN N ρ) o).run P w) else K1 (updO ρ o.dst undef) w) : Mtree F P N gd K (.act o false t) ρ w :=
 Mtree.step fun K1 h => h2 K1 ⟨h⟩
theorem Mtree.stepTH {w : World} {o : Oper} {t : PO} (h2 : ∀ K1 : (Nat → Value) → World → Prop,Hd (∀ ρ' w',Mtree F P N gd K t ρ' w' → K1 ρ' w') → if guardOk gd N ρ o.guard then Wstep F P N K1 o.dst ρ ((execOp (evN N ρ) o).run P w) else K1 (updO ρ o.dst undef) w) : Mtree F P N gd K (.act o true t) ρ w :=
 Mtree.stepT fun K1 h => h2 K1 ⟨h⟩
end
end Go.Wk
namespace Go.Wk
open Go.RowKit
theorem endM_cell {P : Program} {N m : Nat} {fn : Func} {R : Value → World → Prop} {ρ : Nat → Value} {ds : List Deferred} {w : World} {t : Nat} {ty : TypeId} {a : Addr} (hr : fn.results = #[.cell t ty]) (ht : t < N) (hm : Marks m ds w) (hp : ρ t = .pointer (some a))
  (h : ∀ w',Shut m w w' → ∃ v,(loadVar ty a).run P w' = .ok v w' ∧ R v w') : endM P N fn m R .ret ρ ds w :=
 ⟨hm,fun w' hS => by obtain ⟨v,h1,h2⟩ := h w' hS;exact ⟨v,run_res_cell hr (by rw [act_get ht,hp]) h1,h2⟩⟩
theorem Chg.shut {L : List Nat} {w W W' : World} (h : Chg L w W) (hS : Shut w.heap.size W W') : Chg L w W' :=
 ⟨hS.os.trans h.os,hS.tape.trans h.tape,hS.output.trans h.output,by rw [hS.size];exact h.size,fun k hk hL => by
  have hlt : k < W.heap.size := Nat.lt_of_lt_of_le hk h.size;rw [hS.block k W.heap[k] (by simp [hlt]) (.inl hk),← h.block k hk hL]
  simp [hlt]⟩
structure RowX (W : World) (b : Nat) (cs : List Value) : Prop where
 ex : ∃ t,RowC W b t cs
theorem RowX.mk2 {W : World} {b : Nat} {a : Array Value} (h : ∃ t,W.heap[b]? = some (.cells a t (0,0))) : RowX W b a.toList := by obtain ⟨t,h⟩ := h;exact ⟨t,h⟩
theorem RowX.ext {W V : World} {b : Nat} {cs : List Value} (h : RowX W b cs) (hE : Ext W V) : RowX V b cs := by obtain ⟨t,h⟩ := h.ex;exact ⟨t,h.ext hE⟩
theorem RowX.put {W V : World} {b k i : Nat} {cs vs : List Value} (h : RowX W b cs) (p : Put W V k i vs) (hb : b ≠ k) : RowX V b cs := by obtain ⟨t,h⟩ := h.ex;exact ⟨t,h.put p hb⟩
theorem RowX.chg {W V : World} {b : Nat} {cs : List Value} {L : List Nat} (h : RowX W b cs) (hC : Chg L W V) (hL : b ∉ L) : RowX V b cs := by obtain ⟨t,h⟩ := h.ex;exact ⟨t,h.chg hC hL⟩
end Go.Wk
namespace Go.Wk
open Go
structure MarksF (m : Nat) (ds : List Deferred) (W : World) : Prop where
 h : Marks m ds W
theorem MarksF.nil {m : Nat} {W : World} : MarksF m [] W := ⟨trivial⟩
theorem marks_same {m : Nat} {W V : World} : ∀ {ds : List Deferred},(∀ r,m ≤ r → r < W.heap.size → V.heap[r]? = W.heap[r]?) → Marks m ds W → Marks m ds V
 | [],_,_ => trivial
 | _ :: _,hs,⟨⟨r,h1,h2,h3,h4⟩,h⟩ => ⟨⟨r,h1,h2,by rw [hs r h1 (Array.getElem?_eq_some_iff.1 h3).1];exact h3,h4⟩,marks_same hs h⟩
theorem MarksF.chg {m : Nat} {W V : World} {ds : List Deferred} {L : List Nat} (a : MarksF m ds W) (hC : Chg L W V) (hL : ∀ b ∈ L,b < m) : MarksF m ds V :=
 ⟨marks_same (fun r h1 h2 => hC.block r h2 fun hm => by have := hL r hm;omega) a.h⟩
theorem MarksF.ext {m : Nat} {W V : World} {ds : List Deferred} (a : MarksF m ds W) (hE : Ext W V) : MarksF m ds V := a.chg ((Chg.refl [] W).ext hE) (by simp)
theorem keeps_setL (b : Nat) : ∀ (vs : List Value) (w : World) (i : Nat),KeepsOthers w (setL w b i vs)
 | [],w,_ => KeepsOthers.of_ext (Ext.refl w)
 | v :: vs,w,i => (KeepsOthers.setCell w ⟨b,i,none⟩ v).trans (keeps_setL b vs _ _)
theorem marks_keeps {m : Nat} {W W' : World} (hK : KeepsOthers W W') : ∀ {ds : List Deferred},Marks m ds W → Marks m ds W'
 | [],_ => trivial
 | _ :: _,⟨⟨r,hm,hd,hh,hn⟩,h⟩ => ⟨⟨r,hm,hd,hK.same _ _ hh rfl,hn⟩,marks_keeps hK h⟩
theorem MarksF.put {m : Nat} {W V : World} {ds : List Deferred} {k i : Nat} {vs : List Value} (a : MarksF m ds W) (p : Put W V k i vs) (_ : 0 ≤ 0) : MarksF m ds V := ⟨marks_keeps (by rw [p.eq];exact keeps_setL k vs W i) a.h⟩
theorem marks_ne {m r : Nat} {W0 : World} (hr : W0.heap.size ≤ r) : ∀ {ds : List Deferred},Marks m ds W0 → ∀ d ∈ ds,d ≠ markOf r
 | [],_,d,hd => by cases hd
 | x :: ds,⟨⟨r',h1,h2,h3,h4⟩,h⟩,d,hd => by
   rcases List.mem_cons.1 hd with rfl | hd
   ·intro e;have := (Array.getElem?_eq_some_iff.1 h3).1;rw [h2] at e;have : r' = r := by unfold markOf at e;injection e with e1 e2;first | omega | (injection e1;omega) | (simp at e1 e2;omega)
    omega
   ·exact marks_ne hr h d hd
theorem MarksF.cons {m r : Nat} {ds : List Deferred} {W0 W : World} (h0 : MarksF m ds W0) (h : MarksF m ds W) (hr : W0.heap.size ≤ r) (hW : W.heap[r]? = some (.deferred (some []))) (hm : m ≤ r) : MarksF m (markOf r :: ds) W :=
 ⟨⟨r,hm,rfl,hW,fun d hd => marks_ne hr h0.h d hd⟩,h.h⟩
theorem marks_to {m m0 : Nat} {W : World} (hm : m0 ≤ m) : ∀ {ds : List Deferred},Marks m ds W → Marks m0 ds W
 | [],_ => trivial
 | _ :: _,⟨⟨r,h1,h2,h3,h4⟩,h⟩ => ⟨⟨r,by omega,h2,h3,h4⟩,marks_to hm h⟩
theorem MarksF.to {m m0 : Nat} {W : World} {ds : List Deferred} (a : MarksF m ds W) (hm : m0 ≤ m) : Marks m0 ds W := marks_to hm a.h
end Go.Wk
namespace Go.Wk
open Go
theorem drew_size (w : World) : w.drew.heap.size = w.heap.size := rfl
structure FromE (X w : World) : Prop where
 h : Ext X w
theorem FromE.ext {X w w' : World} (h : FromE X w) (hE : Ext w w') : FromE X w' := ⟨h.h.trans hE⟩
theorem FromE.extD {X w w' : World} (h : FromE X w.drew) (hE : Ext w w') : FromE X w' := ⟨h.h.trans ⟨hE.os,hE.tape,hE.output,hE.size,hE.block⟩⟩
theorem FromE.drew {X w : World} (h : Ext X w) : FromE X w.drew := ⟨h.drew⟩
theorem chg3 {V : World} {q : Nat} {a b c : Value} : Chg [q] V (((V.setCell ⟨q,0,none⟩ a).setCell ⟨q,1,none⟩ b).setCell ⟨q,2,none⟩ c) := (((Chg.refl [q] V).setC (by simp)).setC (by simp)).setC (by simp)
end Go.Wk
namespace Go.Wk
open Go Go.RowKit
end Go.Wk
namespace Go.Wk
open Go Go.RowKit Go.Maps
set_option linter.unusedVariables false
def IntMap (P : Program) (tk te : TypeId) (w : World) (b k : Nat) (f : Int → Int) : Prop :=
 ∃ (n : Nat) (D : DataW Unit),n ≤ k ∧ w.ownsMap P tk (plainElem P te) b n D ∧ ∀ x,D.atKey (.int .i64 x) (.lit (.int .i64 0)) = .lit (.int .i64 (f x))
section
variable {P : Program} {tk te t : TypeId} {w w' : World} {b k : Nat} {f : Int → Int}
theorem IntMap.made (P : Program) (tk te : TypeId) (w : World) : IntMap P tk te (w.alloc (.map #[] 0)) w.heap.size 0 (fun _ => 0) :=
 ⟨0,.map [],Nat.le_refl _,World.ownsMap_made w P tk _,fun x => by simp [DataW.atKey]⟩
theorem IntMap.lt (h : IntMap P tk te w b k f) : b < w.heap.size := by obtain ⟨n,D,-,h,-⟩ := h;exact h.lt
theorem IntMap.ext (h : IntMap P tk te w b k f) (hE : Ext w w') : IntMap P tk te w' b k f := by
 obtain ⟨n,D,h1,⟨es,clock,hb,r⟩,h2⟩ := h;exact ⟨n,D,h1,⟨es,clock,(Below.block hE b (Array.getElem?_eq_some_iff.1 hb).1).trans hb,r⟩,h2⟩
theorem IntMap.chg {L : List Nat} (h : IntMap P tk te w b k f) (hC : Chg L w w') (hL : b ∉ L) : IntMap P tk te w' b k f := by
 obtain ⟨n,D,h1,⟨es,clock,hb,r⟩,h2⟩ := h;exact ⟨n,D,h1,⟨es,clock,(hC.block b (Array.getElem?_eq_some_iff.1 hb).1 hL).trans hb,r⟩,h2⟩
theorem IntMap.put {i : Nat} {B : Nat} {vs : List Value} (h : IntMap P tk te w b k f) (hP : Put w w' B i vs) (hne : b ≠ B) : IntMap P tk te w' b k f := h.chg hP.chg (by simpa using hne)
theorem IntMap.look (h : IntMap P tk te w b k f) (hk : P.underlying tk = some (.int .i64)) (he : P.underlying te = some (.int .i64)) (ht : P.underlying t = some (.map tk te)) (hz : (zeroValue te).run P w = .ok (.int .i64 0) w) {x : Int} (hx : (Lit.int .i64 x).wf = true) :
  (Instr.lookup t (.map (some b)) (.int .i64 x) false).run P w = .ok (.int .i64 (f x)) w := by
 obtain ⟨n,D,-,h1,h2⟩ := h;obtain ⟨v,ps,hrun,hv⟩ := h1.lookup (int_keyed hk) ht hz (plainElem_int he (by decide)) (keyOf_int_mk hk hx);rw [h2 x] at hv;rw [hrun]
 congr 1
 unfold plainElem at hv;rw [he] at hv
 cases v <;> simp at hv
 rename_i q a
 obtain ⟨⟨rfl,-⟩,h3,-⟩ := hv;rw [h3]
theorem IntMap.add (h : IntMap P tk te w b k f) (hk : P.underlying tk = some (.int .i64)) (he : P.underlying te = some (.int .i64)) (ht : P.underlying t = some (.map tk te)) (hl : k ≤ 1000) {x a : Int} (hx : (Lit.int .i64 x).wf = true) (ha : (Lit.int .i64 a).wf = true) :
  ∃ w',(Instr.mapUpdate t (.map (some b)) (.int .i64 x) (.int .i64 a)).run P w = .ok () w' ∧ IntMap P tk te w' b (k + 1) (fun y => if y = x then a else f y) ∧ w.grownBy w' (some b) := by
 obtain ⟨n,D,h0,h1,h2⟩ := h;obtain ⟨w',hrun,r1,r2⟩ := h1.update (int_keyed hk) ht (Nat.lt_of_le_of_lt (show n ≤ 1000 by omega) (by decide)) (keyOf_int_mk hk hx) (plainElem_int he ha);refine ⟨w',hrun,⟨n + 1,_,by omega,r1,fun y => ?_⟩,r2⟩
 by_cases e : y = x
 ·subst e;rw [Maps.atKey_put_same (h1.isMap) ((int_keyed hk).key (keyOf_int_mk hk hx))];simp
 ·rw [Maps.atKey_put_other (by intro h;injection h with _ h;exact e h),h2];simp [e]
end
section
variable {F : Fence} {P : Program} {N : Nat} {gd : Nat → Option Nat} {K : (Nat → Value) → World → Prop} {ρ : Nat → Value} {w : World}
def NewI (w V : World) (n : Nat) : Prop := w.heap.size = n ∧ Ext w V ∧ (w.heap.size ≤ n ∧ n < V.heap.size) ∧ ∀ P tk te,IntMap P tk te V n 0 (fun _ => 0)
theorem Wops.absI {L : List Oper} (h : ∀ V n,NewI w V n → Wops F P N gd K L ρ V) : Wops F P N gd K L ρ (w.alloc (.map #[] 0)) :=
 h _ _ ⟨rfl,(Ext.refl w).alloc _,⟨Nat.le_refl _,by simp⟩,fun P tk te => IntMap.made P tk te w⟩
end
end Go.Wk
namespace Go.Wk
open Go Go.RowKit
section
variable {F : Fence} {P : Program} {N : Nat} {gd : Nat → Option Nat} {K : (Nat → Value) → World → Prop} {ρ : Nat → Value} {w : World}
theorem Wops.lawG {o : Oper} {L : List Oper} {v : Value} {w' : World} (hg : guardOk gd N ρ o.guard = true) (hrun : (execOp (evN N ρ) o).run P w = .ok (.value v) w') (h : Wops F P N gd K L (updO ρ o.dst v) w') : Wops F P N gd K (o :: L) ρ w := by
 simp only [Wops,hg,if_true,hrun,Wstep];exact h
theorem Wops.skipG {o : Oper} {L : List Oper} (hg : guardOk gd N ρ o.guard = false) (h : Wops F P N gd K L (updO ρ o.dst undef) w) : Wops F P N gd K (o :: L) ρ w := by
 simp only [Wops,hg,Bool.false_eq_true,if_false];exact h
end
end Go.Wk
namespace Go.Wk
open Go.RowKit
set_option linter.unusedVariables false
section
variable {F : Fence} {n : Nat} {P : Program} {ops : Array Oper} {T : List Nat} {J : World → Prop}
def ReadsJ (J : World → Prop) (P : Program) (ops : Array Oper) (o : Oper) (v : Value) (a : Act) : Prop :=
 (Region.wanted o (yielded ops a.tmps) = true ∧ ∀ w',J w' → (execOp a.eval o).run P w' = .ok (.value v) w') ∨
 (Region.wanted o (yielded ops a.tmps) = false ∧ v = undef)
theorem ReadsJ.of_same {o : Oper} {v : Value} {a a' : Act} (hy : ReadsJ J P ops o v a) (he : execOp a'.eval o = execOp a.eval o)
  (hw : Region.wanted o (yielded ops a'.tmps) = Region.wanted o (yielded ops a.tmps)) : ReadsJ J P ops o v a' := by
 unfold ReadsJ at *;rw [he,hw];exact hy
theorem ReadsJ.step (hF : ∀ f,F.fn f) {i : Nat} {o : Oper} {v : Value} {a : Act} {w : World} {K : Act → World → Prop} (hi : ops[i]? = some o) (hd : ∀ c,o.op ≠ .defer c)
  (hJ : J w) (hy : ReadsJ J P ops o v a) (h : K (a.put o.dst v) w) : stepE F n P ops T i K a w := by
 unfold stepE;rw [hi]
 dsimp only
 rcases hy with ⟨hw,hv⟩ | ⟨hw,rfl⟩
 ·rw [if_pos hw];unfold Oper.wpIn;rw [semAt_eq _ _ _ hd,hv w hJ];exact ⟨fun f _ => hF f,fun _ => Ext.refl _,h⟩
 ·rw [if_neg (by simp [hw])];exact h
def monoJ (F : Fence) (n : Nat) (P : Program) (ops : Array Oper) (T : List Nat) (J : World → Prop) (K : Act → World → Prop) : PT → Act → World → Prop
 | .nil,a,w => J w ∧ K a w
 | .read _ _,_,_ => False
 | .pure i t,a,w => J w ∧ ∃ v,ReadsJ J P ops (ops.getD i default) v a ∧ monoJ F n P ops T J K t (a.put (ops.getD i default).dst v) w
 | .act i t,a,w => J w ∧ stepE F n P ops T i (monoJ F n P ops T J K t) a w
 | .both x y,a,w => monoJ F n P ops T J K x a w ∧ monoJ F n P ops T J K y a w
theorem monoJ.j {K : Act → World → Prop} {a : Act} {w : World} : ∀ t : PT,monoJ F n P ops T J K t a w → J w
 | .nil,h => h.1
 | .read _ _,h => h.elim
 | .pure _ _,h => h.1
 | .act _ _,h => h.1
 | .both x _,h => monoJ.j x h.1
end
def Jt (F : Fence) (P : Program) (N : Nat) (gd : Nat → Option Nat) (J : World → Prop) (K : (Nat → Value) → World → Prop) : PO → (Nat → Value) → World → Prop
 | .done,ρ,w => J w ∧ K ρ w
 | .rd _ _,_,_ => False
 | .pu R t,ρ,w => J w ∧ ∃ ρf,(∀ w',J w' → Rops P N gd ρf R ρ w') ∧ Jt F P N gd J K t ρf w
 | .act o _ t,ρ,w => J w ∧ if guardOk gd N ρ o.guard then Wstep F P N (fun ρ' w' => Jt F P N gd J K t ρ' w') o.dst ρ ((execOp (evN N ρ) o).run P w) else Jt F P N gd J K t (updO ρ o.dst undef) w
 | .both a b,ρ,w => Jt F P N gd J K a ρ w ∧ Jt F P N gd J K b ρ w
section
variable {F : Fence} {P : Program} {N : Nat} {gd : Nat → Option Nat} {J : World → Prop} {ρ : Nat → Value} {w : World} {K : (Nat → Value) → World → Prop} {t : PO}
theorem Jt.fin (hJ : J w) (h : K ρ w) : Jt F P N gd J K .done ρ w := ⟨hJ,h⟩
theorem Jt.pures {R : List Oper} {ρf : Nat → Value} (hJ : J w) (h1 : ∀ w',J w' → Rops P N gd ρf R ρ w') (h2 : Jt F P N gd J K t ρf w) : Jt F P N gd J K (.pu R t) ρ w := ⟨hJ,ρf,h1,h2⟩
theorem Jt.two {a b : PO} (h1 : Jt F P N gd J K a ρ w) (h2 : Jt F P N gd J K b ρ w) : Jt F P N gd J K (.both a b) ρ w := ⟨h1,h2⟩
theorem Jt.step {o : Oper} {b : Bool} (hJ : J w) (h2 : ∀ K1 : (Nat → Value) → World → Prop,Hd (∀ ρ' w',Jt F P N gd J K t ρ' w' → K1 ρ' w') → if guardOk gd N ρ o.guard then Wstep F P N K1 o.dst ρ ((execOp (evN N ρ) o).run P w) else K1 (updO ρ o.dst undef) w) : Jt F P N gd J K (.act o b t) ρ w :=
 ⟨hJ,h2 (fun ρ' w' => Jt F P N gd J K t ρ' w') ⟨fun _ _ a => a⟩⟩
theorem Jt.absT {X : World} {cs : Array Value} {ty : TypeId} (h : ∀ V : World,Ext X V → X.heap.size < V.heap.size → (∀ i v,cs[i]? = some v → V.cell? ⟨X.heap.size,i,none⟩ = some v) → (∀ i,V.frozen? ⟨X.heap.size,i,none⟩ = false) → V.heap[X.heap.size]? = some (.cells cs ty (0,0)) → Jt F P N gd J K t ρ V) : Jt F P N gd J K t ρ (X.alloc (.cells cs ty)) :=
 h _ ((Ext.refl X).alloc _) (by simp) (fun i v hv => by rw [cell_nw];exact hv) (fun i => frozen_nw ..) (World.alloc_heap_new X _)
theorem Jt.absTD {X : World} {cs : Array Value} {ty : TypeId} (h : ∀ V : World,Ext X V → X.heap.size < V.heap.size → (∀ i v,cs[i]? = some v → V.cell? ⟨X.heap.size,i,none⟩ = some v) → (∀ i,V.frozen? ⟨X.heap.size,i,none⟩ = false) → V.heap[X.heap.size]? = some (.cells cs ty (0,0)) → Jt F P N gd J K t ρ V) : Jt F P N gd J K t ρ (X.alloc (.cells cs ty)).drew :=
 h _ ((Ext.refl X).alloc _).drew (by simp) (fun i v hv => cell_drew (by rw [cell_nw];exact hv)) (fun i => frozen_nw ..) (World.alloc_heap_new X _)
end
section
variable {F : Fence} {P : Program} {N : Nat} {ops : Array Oper} {ds : List Deferred} {T : List Nat} {J : World → Prop}
end
end Go.Wk
namespace Go.Wk
open Go.RowKit Go.ChangeShapes Go.WideShapes
def Rd (P : Program) (w : World) (t : TypeId) (cs : List Value) : Prop :=
 ∃ (H : Type) (enc : TypeId × Value → H) (fuel : Nat) (x : DataW H × List MemPlace),DataW.trod enc P w 0 (fun _ => true) true fuel t cs = some x ∧ ∀ n ∈ x.1.weights P t,n ≤ reachBytes
section
variable {P : Program} {w : World} {t e : TypeId}
theorem weights_all {H : Type} {P : Program} {e : TypeId} : ∀ {l : List (DataW H)} {d : DataW H},d ∈ l → ∀ n ∈ d.weights P e,n ∈ DataW.weightsAll P e l
 | [],_,h,_,_ => by cases h
 | x :: l,d,h,n,hn => by
   simp only [DataW.weightsAll,List.mem_append]
   rcases List.mem_cons.1 h with rfl | h
   ·exact .inl hn
   ·exact .inr (weights_all h n hn)
theorem Rd.int {k : IntKind} {cs : List Value} (ht : P.underlying t = some (.int k)) (h : Rd P w t cs) : ∃ n,cs = [.int k n] ∧ (Lit.int k n).wf = true := by
 obtain ⟨H,enc,fuel,x,h,-⟩ := h;obtain ⟨n,h1,-,h2⟩ := DataW.trod_int ht h;exact ⟨n,h1,h2⟩
theorem Rd.struct {fs : Array Field} {cs : List Value} (ht : P.underlying t = some (.struct fs)) (h : Rd P w t cs) :
  cs.length = P.cellsOf t ∧ ∀ (j : Nat) (f : Field),fs[j]? = some f → Rd P w f.type ((cs.drop f.offset).take (P.cellsOf f.type)) := by
 obtain ⟨H,enc,fuel,x,h,hw⟩ := h;obtain ⟨xs,n,_,rfl,hl,hlen,hf⟩ := DataW.trod_struct ht h;refine ⟨hl,fun j f hj => ?_⟩;have hj' : fs.toList[j]? = some f := by simpa using hj
 have hjl : j < xs.length := by
  have := (List.getElem?_eq_some_iff.1 hj').1
  simpa [hlen] using this
 have hx : DataW.trod enc P w 0 (fun _ => true) true n f.type ((cs.drop f.offset).take (P.cellsOf f.type)) = some xs[j] := by
  have := hf j f hj
  rwa [List.getElem?_eq_getElem hjl] at this
 refine ⟨H,enc,n,xs[j],hx,fun m hm => hw m ?_⟩;simp only [DataW.weights,ht];refine DataW.weights_mem_each (j := j) (t := f.type) (d := xs[j].1) ?_ ?_ m hm
 ·simp [hj]
 ·rw [List.getElem?_map,List.getElem?_eq_getElem hjl];rfl
def farI : Nat := 1000000000000000
theorem Rd.list {v : Value} (ht : P.underlying t = some (.slice e)) (hc : 0 < P.cellsOf e) (hb : 0 < P.bytesOf e) (h : Rd P w t [v]) :
  ∃ A n c,v = .slice A n c ∧ n ≤ c ∧ c ≤ farI ∧ ∀ i,i < n → ∃ b o cs,A = some ⟨b,o,none⟩ ∧ b < w.heap.size ∧ cs.length = P.cellsOf e ∧ (∀ r,r < P.cellsOf e → w.cell? ⟨b,o + i * P.cellsOf e + r,none⟩ = cs[r]?) ∧ Rd P w e cs := by
 obtain ⟨H,enc,fuel,x,h,hw⟩ := h
 rcases Go.Deep.open_slice ht h with ⟨hcs,rfl⟩ | ⟨a,len,cap,m,n,D,Pl,hcs,-,hl,hm,hmm,rfl,hx⟩
 ·injection hcs with hv _
  exact ⟨none,0,0,hv,Nat.le_refl _,Nat.zero_le _,fun i hi => absurd hi (Nat.not_lt_zero _)⟩
 ·injection hcs with hv _
  simp only [if_true] at hmm;subst hmm
  have hcap : m * P.bytesOf e ≤ reachBytes := by
   have := hw ((((List.range len).map D).length + ((List.range (m - len)).map fun j => D (len + j)).length) * P.bytesOf e) (by simp only [DataW.weights,ht];exact List.mem_cons_self);simp only [List.length_map,List.length_range] at this
   rwa [show len + (m - len) = m by omega] at this
  have hcm : m ≤ m * P.bytesOf e := Nat.le_mul_of_pos_right m hb;refine ⟨some a,len,m,hv,hl,by unfold reachBytes at hcap;unfold farI;omega,fun i hi => ?_⟩;obtain ⟨cs',h1,h2⟩ := hx i (by omega);obtain ⟨_,h4,h5⟩ := World.cells?_some h1;have h0 := h5 0 hc;have hlt0 : 0 < cs'.length := by omega
  rw [List.getElem?_eq_getElem hlt0] at h0;have hbl := cell_lt h0;obtain ⟨cs0,g1,-⟩ := hx 0 (by omega);obtain ⟨_,g4,g5⟩ := World.cells?_some g1;have g0 := g5 0 hc;rw [List.getElem?_eq_getElem (by omega)] at g0;have hsp := World.cell?_spot g0;obtain ⟨b,off,spot⟩ := a
  have hspot : spot = none := by
   rw [Nat.zero_mul] at hsp;exact hsp
  subst hspot;refine ⟨b,off,cs',rfl,by rw [Addr.add_lit,Addr.add_lit] at hbl;exact hbl,h4,fun r hr => ?_,H,enc,n,_,h2,fun k hk => hw k ?_⟩
  ·have := h5 r hr;rw [Addr.add_lit,Addr.add_lit] at this;exact this
  ·simp only [DataW.weights,ht];refine List.mem_cons_of_mem _ (List.mem_append.2 (.inl (weights_all (List.mem_map.2 ⟨i,List.mem_range.2 hi,rfl⟩) k hk)))
end
theorem Rd.of_args {H : Type} {enc : TypeId × Value → H} {P : Program} {W : World} : ∀ {ts : List TypeId} {vs : List Value} {ds : List (DataW H)} {ps : List MemPlace},DataW.TrodAll enc P W 0 (fun _ => true) true ts vs ds ps →
  (DataW.weightsEach P ts ds).all (· ≤ reachBytes) = true → vs.length = ts.length ∧ ∀ (j : Nat) (t : TypeId) (v : Value),ts[j]? = some t → vs[j]? = some v → Rd P W t v.cells.toList
 | [],[],[],_,_,_ => ⟨rfl,fun j t v h => by cases h⟩
 | t :: ts,v :: vs,d :: ds,ps,h,hw => by
   obtain ⟨p,q,⟨fuel,h1⟩,h2,-⟩ := h;simp only [DataW.weightsEach,List.all_append,Bool.and_eq_true] at hw;obtain ⟨hlen,ih⟩ := Rd.of_args h2 hw.2;refine ⟨by simp [hlen],fun j t' v' hj hv => ?_⟩
   cases j with
   | zero =>
     simp only [List.getElem?_cons_zero,Option.some.injEq] at hj hv;subst hj;subst hv;exact ⟨H,enc,fuel,_,h1,fun n hn => by simpa using List.all_eq_true.1 hw.1 n hn⟩
   | succ j => exact ih j t' v' (by simpa using hj) (by simpa using hv)
 | [],_ :: _,_,_,h,_ => by simp [DataW.TrodAll] at h
 | [],[],_ :: _,_,h,_ => by simp [DataW.TrodAll] at h
 | _ :: _,[],_,_,h,_ => by simp [DataW.TrodAll] at h
 | _ :: _,_ :: _,[],_,h,_ => by simp [DataW.TrodAll] at h
theorem trodAll_stays {H : Type} {enc : TypeId × Value → H} {P : Program} (hl : laidOutB P = true) {W W' : World} (hb : Below W.heap.size W W') {sp : Nat → Bool} :
  ∀ {ts : List TypeId} {vs : List Value} {ds : List (DataW H)} {ps : List MemPlace},(∀ t ∈ ts,P.readableRec t = true ∧ t < P.types.size) → DataW.TrodAll enc P W 0 (fun _ => true) true ts vs ds ps →
   (∀ x ∈ ps,x.block < W.heap.size) → (∀ x ∈ ps,sp x.block = true) → DataW.TrodAll enc P W' 0 sp true ts vs ds ps
 | [],[],[],_,_,h,_,_ => h
 | t :: ts,v :: vs,d :: ds,ps,ht,h,hlt,hsp => by
   obtain ⟨p,q,h1,h2,rfl⟩ := h;refine ⟨p,q,?_,trodAll_stays hl hb (fun t' h' => ht t' (List.mem_cons_of_mem _ h')) h2 (fun x hx => hlt x (List.mem_append.2 (.inr hx))) (fun x hx => hsp x (List.mem_append.2 (.inr hx))),rfl⟩;obtain ⟨hr,hrow⟩ := ht t List.mem_cons_self;exact WideElems.Trod_stays hl hr hrow h1 (fun x hx => hb.same (hlt x (List.mem_append.2 (.inl hx)))) (fun x hx => hsp x (List.mem_append.2 (.inl hx)))
 | [],_ :: _,_,_,_,h,_,_ => by simp [DataW.TrodAll] at h
 | [],[],_ :: _,_,_,h,_,_ => by simp [DataW.TrodAll] at h
 | _ :: _,[],_,_,_,h,_,_ => by simp [DataW.TrodAll] at h
 | _ :: _,_ :: _,[],_,_,h,_,_ => by simp [DataW.TrodAll] at h
theorem law_post {H : Type} {enc : TypeId × Value → H} {P : Program} {fn : Func} {s : ChangeSpec} {W W' : World} {args : Array Value} {ds gs : List (DataW H)} {before : List MemPlace} {tb : TypeId}
  (hW : DataW.Whole enc P fn.params.toList s.vars false W args.toList ds gs before) (hl : laidOutB P = true) (hs : s.vars = []) (ht : ∀ t ∈ fn.params.toList,P.readableRec t = true ∧ t < P.types.size)
  (hrt : fn.resultTypes = #[tb]) (hb : P.underlying tb = some .bool)
  (hr : (s.fn H (ds ++ gs)).results = [.lit (.bool true)]) (ha : (s.fn H (ds ++ gs)).args = ds) (hv : (s.fn H (ds ++ gs)).vars = []) (hE : Ext W W') :
  s.post enc P fn false true false false W args (.bool true) W' := by
 have hlt : ∀ x ∈ before,x.block < W.heap.size := fun x hx => hW.lt x hx;have hW2 := hW;obtain ⟨p,q,hA,hV,rfl,hz,hn⟩ := hW2;rw [hs] at hV;obtain ⟨rfl,rfl⟩ := trodVars_none hV;refine ⟨ds,[],p ++ [],[],p,[],hW,?_,?_,?_,hE.frame _,fun h => by cases h⟩
 ·rw [hr,hrt];exact trodAll_mk1 (shut_bool hb true)
 ·rw [ha];exact trodAll_stays hl hE ht hA (fun x hx => hlt x (by simpa using hx)) (fun x hx => by simpa using hlt x (by simpa using hx))
 ·rw [hv,hs];rfl
end Go.Wk
