/- Plans of days: how many days each flaw has, and what closed sets of days prove of the worth. What the search for a day does: it gives the new flaw a day, or shows a closed set of days. Adding flaws to a plan, one after the other: what is left out has a closed set of days; a best plan has one for each flaw that is left out. Spans of days: closed days fill a span; what cannot be planned makes a jam. What a best mending is worth with a flaw on a day; the days of a flaw. Days; what all best mendings mend, and what some do. Surely. The first days for the flaws of all best mendings (data and plain l -/
import Derived.Test.YtnklbepeoicgpaaGreatA1
import Derived.Test.YtnklbepeoicgpaaGreatA2
import Derived.Lib.SliceRun
import Derived.Test.YtnklbepeoicgpaaGreatAw1
set_option linter.all false
namespace Go.Proofs.YtnklbepeoicgpaaGreat
def sumN (f : Nat → Int) : Nat → Int
 | 0 => 0
 | n + 1 => sumN f n + f n
theorem sumN_le {f g : Nat → Int} : ∀ n,(∀ d,d < n → f d ≤ g d) → sumN f n ≤ sumN g n
 | 0,_ => Int.le_refl _
 | n + 1,h => Int.add_le_add (sumN_le n fun d hd => h d (by omega)) (h n (by omega))
theorem sumN_eq {f g : Nat → Int} : ∀ n,(∀ d,d < n → f d = g d) → sumN f n = sumN g n
 | 0,_ => rfl
 | n + 1,h => by unfold sumN;rw [sumN_eq n fun d hd => h d (by omega),h n (by omega)]
theorem sumN_add {f g : Nat → Int} : ∀ n,sumN (fun d => f d + g d) n = sumN f n + sumN g n
 | 0 => rfl
 | n + 1 => by unfold sumN;rw [sumN_add n];omega
theorem sumN_zero : ∀ n,sumN (fun _ => 0) n = 0
 | 0 => rfl
 | n + 1 => by unfold sumN;rw [sumN_zero n];rfl
theorem sumN_pos {f : Nat → Int} (n : Nat) (h : ∀ d,d < n → 0 ≤ f d) : 0 ≤ sumN f n := by rw [← sumN_zero n];exact sumN_le n h
theorem sumN_one {F : Nat → Int} {k : Nat} : ∀ n,sumN (fun j => if j = k then F j else 0) n = if k < n then F k else 0
 | 0 => by rw [if_neg (Nat.not_lt_zero _)];rfl
 | n + 1 => by
   unfold sumN;rw [sumN_one n]
   by_cases e : n = k
   ·subst e;rw [if_neg (Nat.lt_irrefl _),if_pos rfl,if_pos (Nat.lt_succ_self _)];omega
   ·rw [if_neg e]
    by_cases h : k < n
    ·rw [if_pos h,if_pos (by omega)];omega
    ·rw [if_neg h,if_neg (by omega)];omega
theorem sumN_le_at {f g : Nat → Int} {k : Nat} {c : Int} : ∀ n,k < n → (∀ d,d < n → d ≠ k → f d ≤ g d) → f k + c ≤ g k → sumN f n + c ≤ sumN g n
 | 0,hk,_,_ => absurd hk (Nat.not_lt_zero _)
 | n + 1,hk,h,hc => by
   unfold sumN
   by_cases e : n = k
   ·subst e;have := sumN_le (f := f) (g := g) n fun d hd => h d (by omega) (by omega);omega
   ·have := sumN_le_at n (by omega) (fun d hd hne => h d (by omega) hne) hc;have := h n (by omega) e;omega
def cntN (h : Nat → Int) (j : Int) (n : Nat) : Int := sumN (fun d => if h d = j then 1 else 0) n
theorem cntN_pos {h : Nat → Int} {j : Int} {n : Nat} : 0 ≤ cntN h j n := sumN_pos n fun d _ => by split <;> decide
theorem cntN_S {h : Nat → Int} {j : Int} {n : Nat} : cntN h j (n + 1) = cntN h j n + if h n = j then 1 else 0 := rfl
theorem cntN_zero {h : Nat → Int} {j : Int} : ∀ {n : Nat},cntN h j n = 0 → ∀ d,d < n → h d ≠ j
 | 0,_,d,hd => absurd hd (Nat.not_lt_zero _)
 | n + 1,hc,d,hd => by
   rw [cntN_S] at hc;have := cntN_pos (h := h) (j := j) (n := n);have hn : h n ≠ j := by intro e;rw [if_pos e] at hc;omega
   rw [if_neg hn] at hc
   by_cases e : d = n
   ·rw [e];exact hn
   ·exact cntN_zero (n := n) (by omega) d (by omega)
theorem cntN_of_zero {h : Nat → Int} {j : Int} {n : Nat} (hd : ∀ d,d < n → h d ≠ j) : cntN h j n = 0 := by
 unfold cntN;rw [sumN_eq n (g := fun _ => 0) fun d hdn => if_neg (hd d hdn)];exact sumN_zero n
theorem cntN_some {h : Nat → Int} {j : Int} : ∀ {n : Nat},cntN h j n ≠ 0 → ∃ d,d < n ∧ h d = j
 | 0,hc => absurd rfl hc
 | n + 1,hc => by
   by_cases e : h n = j
   ·exact ⟨n,Nat.lt_succ_self _,e⟩
   ·rw [cntN_S,if_neg e,Int.add_zero] at hc;obtain ⟨d,hd,he⟩ := cntN_some hc;exact ⟨d,by omega,he⟩
theorem cntN_ge {h : Nat → Int} {j : Int} {n d : Nat} (hd : d < n) (e : h d = j) : 1 ≤ cntN h j n := by
 have := cntN_pos (h := h) (j := j) (n := n)
 by_cases h0 : cntN h j n = 0
 ·exact absurd e (cntN_zero h0 d hd)
 ·omega
theorem cntN_two {h : Nat → Int} {j : Int} : ∀ {n d e : Nat},cntN h j n ≤ 1 → d < n → e < n → h d = j → h e = j → d = e
 | 0,d,_,_,hd,_,_,_ => absurd hd (Nat.not_lt_zero _)
 | n + 1,d,e,hc,hd,he,h1,h2 => by
   rw [cntN_S] at hc
   by_cases a : d = n
   ·by_cases b : e = n
    ·omega
    ·rw [← a,if_pos h1] at hc;have := cntN_ge (n := d) (d := e) (by omega) h2;omega
   ·have q := cntN_ge (n := n) (d := d) (by omega) h1
    by_cases b : e = n
    ·rw [← b,if_pos h2] at hc;rw [← b] at q;omega
    ·have : 0 ≤ (if h n = j then (1 : Int) else 0) := by split <;> decide
     exact cntN_two (n := n) (by omega) (by omega) (by omega) h1 h2
theorem cntN_upd {h : Nat → Int} {i j : Int} {d : Nat} : ∀ {n : Nat},d < n → cntN (updI h d i) j n = cntN h j n - (if h d = j then 1 else 0) + if i = j then 1 else 0
 | 0,hd => absurd hd (Nat.not_lt_zero _)
 | n + 1,hd => by
   rw [cntN_S,cntN_S]
   by_cases e : n = d
   ·subst e;have : cntN (updI h n i) j n = cntN h j n := by unfold cntN;exact sumN_eq n fun d hd => by have e : updI h n i d = h d := if_neg (show ¬ d = n by omega);rw [e]
    rw [this];unfold updI;rw [if_pos rfl];omega
   ·rw [cntN_upd (n := n) (by omega)];unfold updI;rw [if_neg e];omega
def worthW (W : Int → Int) (h : Nat → Int) (n : Nat) : Int := sumN (fun d => if 0 ≤ h d then W (h d) else 0) n
theorem worth_cnt {W : Int → Int} {h : Nat → Int} {m : Nat} : ∀ n,(∀ d,d < n → h d < m) → worthW W h n = sumN (fun j => cntN h (j : Int) n * W (j : Int)) m
 | 0,_ => by
   rw [sumN_eq m (g := fun _ => 0) fun d _ => by show (0 : Int) * _ = 0;rw [Int.zero_mul],sumN_zero];rfl
 | n + 1,hm => by
   have ih := worth_cnt (W := W) (h := h) n fun d hd => hm d (by omega)
   show worthW W h n + _ = _
   have e : sumN (fun j => cntN h (j : Int) (n + 1) * W (j : Int)) m = sumN (fun j => cntN h (j : Int) n * W (j : Int)) m + sumN (fun j => if h n = (j : Int) then W (j : Int) else 0) m := by
    rw [← sumN_add];refine sumN_eq m fun d _ => ?_;rw [cntN_S,Int.add_mul];congr 1;split <;> simp
   rw [ih,e]
   congr 1
   show (if 0 ≤ h n then W (h n) else 0) = _
   by_cases h0 : 0 ≤ h n
   ·rw [if_pos h0];obtain ⟨k,hk⟩ : ∃ k : Nat,h n = (k : Int) := ⟨(h n).toNat,by omega⟩;have := hm n (by omega)
    rw [hk,sumN_eq m (g := fun j => if j = k then W (j : Int) else 0) fun d _ => by
     by_cases e : d = k
     ·rw [if_pos e,if_pos (by omega)]
     ·rw [if_neg e,if_neg (by omega)],sumN_one,if_pos (by omega)]
   ·rw [if_neg h0,sumN_eq m (g := fun _ => 0) fun d _ => if_neg (by omega),sumN_zero]
structure OkP (N : Int → List Nat) (n m : Nat) (h : Nat → Int) : Prop where
 lt : ∀ d,-1 ≤ h d ∧ h d < m
 day : ∀ d,d < n → 0 ≤ h d → d ∈ N (h d)
 one : ∀ j : Nat,cntN h (j : Int) n ≤ 1
def Clo (N : Int → List Nat) (n : Nat) (h : Nat → Int) (X : Nat → Prop) : Prop := ∀ d,X d → d < n ∧ 0 ≤ h d ∧ ∀ e ∈ N (h d),X e
section
open Classical
noncomputable def maxP (P : Nat → Prop) (W : Int → Int) : Nat → Int
 | 0 => 0
 | m + 1 => if P m then max (maxP P W m) (W m) else maxP P W m
theorem maxP_pos {P : Nat → Prop} {W : Int → Int} : ∀ m,0 ≤ maxP P W m
 | 0 => Int.le_refl _
 | m + 1 => by have := maxP_pos (P := P) (W := W) m;unfold maxP;split <;> omega
theorem maxP_ge {P : Nat → Prop} {W : Int → Int} {i : Nat} (hP : P i) : ∀ m,i < m → W i ≤ maxP P W m
 | 0,h => absurd h (Nat.not_lt_zero _)
 | m + 1,h => by
   unfold maxP
   by_cases e : i = m
   ·subst e;rw [if_pos hP];omega
   ·have := maxP_ge (W := W) hP m (by omega);split <;> omega
theorem maxP_cases {P : Nat → Prop} {W : Int → Int} : ∀ m,maxP P W m = 0 ∨ ∃ i,i < m ∧ P i ∧ maxP P W m = W i
 | 0 => .inl rfl
 | m + 1 => by
   unfold maxP
   by_cases h : P m
   ·rw [if_pos h]
    by_cases hm : maxP P W m ≤ W m
    ·exact .inr ⟨m,Nat.lt_succ_self _,h,by omega⟩
    ·rcases maxP_cases (P := P) (W := W) m with e | ⟨i,h1,h2,h3⟩
     ·exact .inl (by omega)
     ·exact .inr ⟨i,by omega,h2,by omega⟩
   ·rw [if_neg h]
    rcases maxP_cases (P := P) (W := W) m with e | ⟨i,h1,h2,h3⟩
    ·exact .inl e
    ·exact .inr ⟨i,by omega,h2,h3⟩
def CertI (N : Int → List Nat) (n : Nat) (W : Int → Int) (h : Nat → Int) (i : Int) (X : Nat → Prop) : Prop := Clo N n h X ∧ (∀ d ∈ N i,X d) ∧ ∀ d,X d → W i ≤ W (h d)
theorem dual_max {N : Int → List Nat} {n m : Nat} {W : Int → Int} {h g : Nat → Int} {S : Int → Prop} (hh : OkP N n m h) (hg : OkP N n m g) (hS : ∀ d,d < n → 0 ≤ g d → S (g d) ∨ W (g d) = 0)
  (hW : ∀ j,0 ≤ W j) (hc : ∀ i : Nat,i < m → S i → cntN h i n = 0 → ∃ X,CertI N n W h i X) : worthW W g n ≤ worthW W h n := by
 let P : Nat → Nat → Prop := fun d i => ∃ X,CertI N n W h i X ∧ X d
 let y : Nat → Int := fun d => maxP (P d) W m
 let u : Int → Int := fun j => sumN (fun e => if h e = j then W j - y e else 0) n
 have y0 : ∀ d,0 ≤ y d := fun d => maxP_pos m
 have ylo : ∀ d,d < n → 0 ≤ h d → y d ≤ W (h d) := fun d _ h0 => by
  rcases maxP_cases (P := P d) (W := W) m with e | ⟨i,-,⟨X,⟨hX,-,hX3⟩,hX2⟩,e⟩
  ·show maxP _ _ _ ≤ _;rw [e];exact hW _
  ·show maxP _ _ _ ≤ _;rw [e];exact hX3 d hX2
 have yno : ∀ d,h d < 0 → y d = 0 := fun d h0 => by
  rcases maxP_cases (P := P d) (W := W) m with e | ⟨i,-,⟨X,⟨hX,-,-⟩,hX2⟩,e⟩
  ·exact e
  ·have := (hX d hX2).2.1;omega
 have u0 : ∀ j : Int,0 ≤ j → 0 ≤ u j := fun j hj => sumN_pos n fun e he => by
  split
  ·rename_i q;have := ylo e he (by omega);rw [q] at this;omega
  ·exact Int.le_refl _
 have key : ∀ d,d < n → 0 ≤ g d → W (g d) ≤ u (g d) + y d := fun d hd h0 => by
  have hdN := hg.day d hd h0;obtain ⟨j,hj⟩ : ∃ j : Nat,g d = (j : Int) := ⟨(g d).toNat,by omega⟩;have hjm : j < m := by have := (hg.lt d).2;omega
  rw [hj] at hdN ⊢
  by_cases hz : cntN h (j : Int) n = 0
  ·have hS1 := hS d hd h0;rw [hj] at hS1
   by_cases hw0 : W (j : Int) = 0
   ·rw [hw0];have := y0 d;have := u0 (j : Int) (by omega);omega
   obtain ⟨X,hX⟩ := hc j hjm (hS1.resolve_right hw0) hz;have : W (j : Int) ≤ y d := maxP_ge (P := P d) ⟨X,hX,hX.2.1 d hdN⟩ m hjm;have := u0 j (by omega);omega
  ·obtain ⟨e,he,hej⟩ := cntN_some hz
   have hu : u (j : Int) = W (j : Int) - y e := by
    show sumN _ n = _
    rw [sumN_eq n (g := fun k => if k = e then W (j : Int) - y k else 0) fun k hk => by
     by_cases q : k = e
     ·rw [if_pos q,q,if_pos hej]
     ·rw [if_neg q,if_neg fun q2 => q (cntN_two (hh.one j) hk he q2 hej)],sumN_one,if_pos he]
   have : y e ≤ y d := by
    rcases maxP_cases (P := P e) (W := W) m with e0 | ⟨i,him,⟨X,hX,hX2⟩,e0⟩
    ·show maxP _ _ _ ≤ _;rw [e0];exact y0 d
    ·show maxP _ _ _ ≤ _;rw [e0]
     refine maxP_ge (P := P d) ⟨X,hX,(hX.1 e hX2).2.2 d (by rw [hej];exact hdN)⟩ m him
   omega
 -- what h is worth
 have eh : worthW W h n = sumN (fun j => u (j : Int)) m + sumN y n := by
  have e1 : sumN (fun j => u (j : Int)) m = worthW (fun _ => 1) h n * 0 + sumN (fun e => if 0 ≤ h e then W (h e) - y e else 0) n := by
   rw [Int.mul_zero,Int.zero_add]
   have : ∀ k,k ≤ n → sumN (fun j => sumN (fun e => if h e = (j : Int) then W (j : Int) - y e else 0) k) m = sumN (fun e => if 0 ≤ h e then W (h e) - y e else 0) k := by
    intro k
    induction k with
    | zero => intro _;exact sumN_zero m
    | succ k ih =>
      intro hk
      show sumN (fun j => sumN (fun e => if h e = (j : Int) then W (j : Int) - y e else 0) k + if h k = (j : Int) then W (j : Int) - y k else 0) m = _
      rw [sumN_add,ih (by omega)]
      show _ = sumN (fun e => if 0 ≤ h e then W (h e) - y e else 0) k + (if 0 ≤ h k then W (h k) - y k else 0)
      congr 1
      by_cases h0 : 0 ≤ h k
      ·obtain ⟨q,hq⟩ : ∃ q : Nat,h k = (q : Int) := ⟨(h k).toNat,by omega⟩;have := (hh.lt k).2
       rw [if_pos h0,hq,sumN_eq m (g := fun j => if j = q then W (j : Int) - y k else 0) fun d _ => by
        by_cases e : d = q
        ·rw [if_pos e,if_pos (by omega)]
        ·rw [if_neg e,if_neg (by omega)],sumN_one,if_pos (by omega)]
      ·rw [if_neg h0,sumN_eq m (g := fun _ => 0) fun d _ => if_neg (by omega),sumN_zero]
   exact this n (Nat.le_refl _)
  rw [e1,Int.mul_zero,Int.zero_add,← sumN_add];refine sumN_eq n fun d _ => ?_
  split
  ·omega
  ·rw [yno d (by omega)];rfl
 have eg : worthW W g n ≤ worthW u g n + sumN y n := by
  unfold worthW;rw [← sumN_add];refine sumN_le n fun d hd => ?_
  split
  ·rename_i h0;exact key d hd h0
  ·have := y0 d;omega
 have eu : worthW u g n ≤ sumN (fun j => u (j : Int)) m := by
  rw [worth_cnt n fun d _ => (hg.lt d).2];refine sumN_le m fun j _ => ?_;have h1 := hg.one j;have h2 := cntN_pos (h := g) (j := (j : Int)) (n := n);have h3 := u0 (j : Int) (by omega)
  by_cases e : cntN g (j : Int) n = 0
  ·rw [e,Int.zero_mul];exact h3
  ·rw [show cntN g (j : Int) n = 1 by omega,Int.one_mul];exact Int.le_refl _
 omega
end
theorem updI_at {h : Nat → Int} {d : Nat} {i : Int} : updI h d i d = i := if_pos rfl
theorem updI_ne {h : Nat → Int} {d e : Nat} {i : Int} (q : e ≠ d) : updI h d i e = h e := if_neg q
theorem markT_at {t : Nat → Bool} {d : Nat} : markT t d d = true := if_pos rfl
theorem markT_ne {t : Nat → Bool} {d e : Nat} (q : e ≠ d) : markT t d e = t e := if_neg q
theorem markT_true {t : Nat → Bool} {d e : Nat} : markT t d e = true ↔ e = d ∨ t e = true := by
 by_cases q : e = d
 ·subst q;rw [markT_at];simp
 ·rw [markT_ne q];simp [q]
def OneMore (N : Int → List Nat) (n : Nat) (h g : Nat → Int) (i : Int) (Y : Nat → Prop) : Prop :=
 (∀ j : Nat,cntN g (j : Int) n = cntN h (j : Int) n + if i = (j : Int) then 1 else 0) ∧ ∀ d,g d ≠ h d → Y d ∧ 0 ≤ g d ∧ (g d = i ∨ ∃ e,g d = h e) ∧ d ∈ N (g d)
def Swap (N : Int → List Nat) (n : Nat) (h g : Nat → Int) (i : Int) (d : Nat) (Y : Nat → Prop) : Prop :=
 (∀ j : Nat,cntN g (j : Int) n = cntN h (j : Int) n - (if h d = (j : Int) then 1 else 0) + if i = (j : Int) then 1 else 0) ∧ ∀ d,g d ≠ h d → Y d ∧ 0 ≤ g d ∧ (g d = i ∨ ∃ e,g d = h e) ∧ d ∈ N (g d)
structure GiveR (N : Int → List Nat) (L : List Nat) (n : Nat) (i : Int) (h : Nat → Int) (t : Nat → Bool) (r : Gv) : Prop where
 mono : ∀ d,t d = true → r.2.2 d = true
 lt : ∀ d,r.2.2 d = true → t d = true ∨ d < n
 same : r.1 = false → r.2.1 = h
 all : r.1 = false → ∀ d ∈ L,r.2.2 d = true
 clo : r.1 = false → ∀ d,r.2.2 d = true → t d = false → 0 ≤ h d ∧ (∀ e ∈ N (h d),r.2.2 e = true) ∧ ∃ g,Swap N n h g i d fun e => r.2.2 e = true ∧ t e = false
 more : r.1 = true → OneMore N n h r.2.1 i fun e => r.2.2 e = true ∧ t e = false
theorem loopF_R {N : Int → List Nat} {n f : Nat} {g : Int → (Nat → Int) → (Nat → Bool) → Gv}
  (hg : ∀ i h t,0 ≤ i → untr n t < f → (∀ d,-1 ≤ h d) → GiveR N (N i) n i h t (g i h t)) {i : Int} (hi : 0 ≤ i) : ∀ (L : List Nat) h t,untr n t < f + 1 → (∀ d ∈ L,d < n ∧ d ∈ N i) → (∀ d,-1 ≤ h d) →
  GiveR N L n i h t (loopF g i L h t)
 | [],h,t,_,_,_ => ⟨fun d hd => hd,fun d hd => .inl hd,fun _ => rfl,fun _ d hd => absurd hd List.not_mem_nil,(fun _ d h1 h2 => by rw [show (loopF g i [] h t).2.2 d = t d from rfl,h2] at h1;cases h1),(fun e => by cases e)⟩
 | d :: L,h,t,hf,hL,hh => by
   have hdn := (hL d List.mem_cons_self).1;have hdN := (hL d List.mem_cons_self).2;have hL2 : ∀ d ∈ L,d < n ∧ d ∈ N i := fun e he => hL e (List.mem_cons_of_mem _ he);unfold loopF
   by_cases ht : t d = true
   ·rw [if_pos ht];have q := loopF_R hg hi L h t hf hL2 hh
    exact ⟨q.mono,q.lt,q.same,fun e x hx => by
     rcases List.mem_cons.1 hx with rfl | hx
     ·exact q.mono _ ht
     ·exact q.all e x hx,q.clo,q.more⟩
   ·have ht : t d = false := by simpa using ht
    rw [if_neg (by rw [ht];decide)];have hf2 := untr_mark hdn ht
    by_cases h0 : h d < 0
    ·rw [if_pos h0];refine ⟨fun e he => markT_true.2 (.inr he),fun e he => ?_,(fun e => by cases e),(fun e => by cases e),(fun e => by cases e),fun _ => ⟨fun j => ?_,fun e he => ?_⟩⟩
     ·rcases markT_true.1 he with rfl | he
      ·exact .inr hdn
      ·exact .inl he
     ·show cntN (updI h d i) _ n = _
      rw [cntN_upd hdn,if_neg (by omega)];omega
     ·have hed : e = d := by
       by_cases q : e = d
       ·exact q
       ·exact absurd (updI_ne q) he
      subst hed;refine ⟨⟨markT_at,ht⟩,?_,.inl updI_at,?_⟩
      ·show 0 ≤ updI h e i e;rw [updI_at];exact hi
      ·show e ∈ N (updI h e i e);rw [updI_at];exact hdN
    ·rw [if_neg h0];have q := hg (h d) h (markT t d) (by omega) (by omega) hh
     dsimp only
     generalize g (h d) h (markT t d) = r at q
     have hr0 : ∀ e,t e = true → r.2.2 e = true := fun e he => q.mono e (markT_true.2 (.inr he));have hrd : r.2.2 d = true := q.mono d markT_at
     have hrlt : ∀ e,r.2.2 e = true → t e = true ∨ e < n := fun e he => by
      rcases q.lt e he with he | he
      ·rcases markT_true.1 he with rfl | he
       ·exact .inr hdn
       ·exact .inl he
      ·exact .inr he
     by_cases hr : r.1 = true
     ·rw [if_pos hr];have ⟨m1,m2⟩ := q.more hr
      have hsd : r.2.1 d = h d := by
       by_cases e : r.2.1 d = h d
       ·exact e
       ·have := (m2 d e).1.2;rw [markT_at] at this;cases this
      refine ⟨hr0,hrlt,(fun e => by cases e),(fun e => by cases e),(fun e => by cases e),fun _ => ⟨fun j => ?_,fun e he => ?_⟩⟩
      ·show cntN (updI r.2.1 d i) _ n = _
       rw [cntN_upd hdn,m1,hsd];omega
      ·by_cases hed : e = d
       ·subst hed;refine ⟨⟨hrd,ht⟩,?_,.inl updI_at,?_⟩
        ·show 0 ≤ updI r.2.1 e i e;rw [updI_at];exact hi
        ·show e ∈ N (updI r.2.1 e i e);rw [updI_at];exact hdN
       ·have he2 : r.2.1 e ≠ h e := fun x => he ((updI_ne hed).trans x);have ⟨⟨a1,a2⟩,a3,a4,a5⟩ := m2 e he2;have ex : updI r.2.1 d i e = r.2.1 e := updI_ne hed;refine ⟨⟨a1,?_⟩,?_,?_,?_⟩
        ·rw [markT_ne hed] at a2;exact a2
        ·show 0 ≤ updI r.2.1 d i e;rw [ex];exact a3
        ·show updI r.2.1 d i e = i ∨ ∃ e',updI r.2.1 d i e = h e'
         rw [ex]
         rcases a4 with a4 | ⟨e',a4⟩
         ·exact .inr ⟨d,a4⟩
         ·exact .inr ⟨e',a4⟩
        ·show e ∈ N (updI r.2.1 d i e);rw [ex];exact a5
     ·rw [if_neg hr];have hr : r.1 = false := by simpa using hr
      have hs := q.same hr;rw [hs];have q2 := loopF_R hg hi L h r.2.2 (by have := untr_le (n := n) hr0;omega) hL2 hh;refine ⟨fun e he => q2.mono e (hr0 e he),fun e he => (q2.lt e he).elim (hrlt e) .inr,q2.same,fun e x hx => ?_,fun e x hx hx2 => ?_,fun e => ⟨(q2.more e).1,fun x hx => ?_⟩⟩
      ·rcases List.mem_cons.1 hx with rfl | hx
       ·exact q2.mono _ hrd
       ·exact q2.all e x hx
      ·by_cases hx3 : r.2.2 x = true
       ·by_cases hxd : x = d
        ·subst hxd;refine ⟨by omega,fun y hy => q2.mono y (q.all hr y hy),updI h x i,fun j => ?_,fun y hy => ?_⟩
         ·rw [cntN_upd hdn]
         ·have hyd : y = x := by
           by_cases q : y = x
           ·exact q
           ·exact absurd (updI_ne q) hy
          subst hyd;exact ⟨⟨q2.mono _ hrd,ht⟩,by rw [updI_at];exact hi,.inl updI_at,by rw [updI_at];exact hdN⟩
        ·obtain ⟨a1,a2,g',a3,a4⟩ := q.clo hr x hx3 (by rw [markT_ne hxd];exact hx2)
         have hgd : g' d = h d := by
          by_cases e : g' d = h d
          ·exact e
          ·have := (a4 d e).1.2;rw [markT_at] at this;cases this
         refine ⟨a1,fun y hy => q2.mono y (a2 y hy),updI g' d i,fun j => ?_,fun y hy => ?_⟩
         ·rw [cntN_upd hdn,a3,hgd];omega
         ·by_cases hyd : y = d
          ·subst hyd;exact ⟨⟨q2.mono _ hrd,ht⟩,by rw [updI_at];exact hi,.inl updI_at,by rw [updI_at];exact hdN⟩
          ·have ⟨⟨b1,b2⟩,b3,b4,b5⟩ := a4 y fun x => hy ((updI_ne hyd).trans x);rw [markT_ne hyd] at b2;rw [updI_ne hyd];refine ⟨⟨q2.mono _ b1,b2⟩,b3,?_,b5⟩
           rcases b4 with b4 | ⟨e',b4⟩
           ·exact .inr ⟨d,b4⟩
           ·exact .inr ⟨e',b4⟩
       ·obtain ⟨a1,a2,g',a3,a4⟩ := q2.clo e x hx (by simpa using hx3);refine ⟨a1,a2,g',a3,fun y hy => ?_⟩;have ⟨⟨b1,b2⟩,b3⟩ := a4 y hy;refine ⟨⟨b1,?_⟩,b3⟩
        by_cases ty : t y = true
        ·rw [hr0 y ty] at b2;cases b2
        ·simpa using ty
      ·have ⟨⟨b1,b2⟩,b3⟩ := (q2.more e).2 x hx;refine ⟨⟨b1,?_⟩,b3⟩
       by_cases ty : t x = true
       ·rw [hr0 x ty] at b2;cases b2
       ·simpa using ty
theorem giveF_R {N : Int → List Nat} {n : Nat} (hN : ∀ i,∀ d ∈ N i,d < n) : ∀ f i h t,0 ≤ i → untr n t < f → (∀ d,-1 ≤ h d) → GiveR N (N i) n i h t (giveF N f i h t)
 | 0,_,_,_,_,hf,_ => absurd hf (Nat.not_lt_zero _)
 | f + 1,i,h,t,hi,hf,hh => loopF_R (fun i h t hi hf hh => giveF_R hN f i h t hi hf hh) hi (N i) h t hf (fun d hd => ⟨hN i d hd,hd⟩) hh
theorem loopF_clo {N : Int → List Nat} {n : Nat} {X : Nat → Prop} {g : Int → (Nat → Int) → (Nat → Bool) → Gv} (hs : ∀ i h t,(g i h t).1 = false → (g i h t).2.1 = h)
  (hg : ∀ i h t,Clo N n h X → ((∀ d ∈ N i,X d) → (g i h t).1 = false) ∧ ∀ d,X d → (g i h t).2.1 d = h d) (i : Int) : ∀ (L : List Nat) h t,Clo N n h X → ((∀ d ∈ L,X d) → (loopF g i L h t).1 = false) ∧ ∀ d,X d → (loopF g i L h t).2.1 d = h d
 | [],_,_,_ => ⟨fun _ => rfl,fun _ _ => rfl⟩
 | d :: L,h,t,hX => by
   unfold loopF
   by_cases ht : t d = true
   ·rw [if_pos ht];have q := loopF_clo hs hg i L h t hX;exact ⟨fun h => q.1 fun e he => h e (List.mem_cons_of_mem _ he),q.2⟩
   ·rw [if_neg ht]
    by_cases h0 : h d < 0
    ·rw [if_pos h0];have hn : ¬ X d := fun x => by have := (hX d x).2.1;omega
     exact ⟨fun h => absurd (h d List.mem_cons_self) hn,fun e he => updI_ne fun (x : e = d) => hn (x ▸ he)⟩
    ·rw [if_neg h0]
     dsimp only
     have q := hg (h d) h (markT t d) hX;have hs2 := hs (h d) h (markT t d)
     generalize g (h d) h (markT t d) = r at q hs2
     by_cases hr : r.1 = true
     ·rw [if_pos hr];have hn : ¬ X d := fun x => by have := q.1 (hX d x).2.2;rw [hr] at this;cases this
      exact ⟨fun h => absurd (h d List.mem_cons_self) hn,fun e he => (updI_ne fun (x : e = d) => hn (x ▸ he)).trans (q.2 e he)⟩
     ·rw [if_neg hr,hs2 (by simpa using hr)];have q2 := loopF_clo hs hg i L h r.2.2 hX;exact ⟨fun h => q2.1 fun e he => h e (List.mem_cons_of_mem _ he),q2.2⟩
theorem loopF_same {g : Int → (Nat → Int) → (Nat → Bool) → Gv} (hs : ∀ i h t,(g i h t).1 = false → (g i h t).2.1 = h) (i : Int) : ∀ (L : List Nat) h t,(loopF g i L h t).1 = false → (loopF g i L h t).2.1 = h
 | [],_,_,_ => rfl
 | d :: L,h,t,e => by
   unfold loopF at e ⊢
   by_cases ht : t d = true
   ·rw [if_pos ht] at e ⊢;exact loopF_same hs i L h t e
   ·rw [if_neg ht] at e ⊢
    by_cases h0 : h d < 0
    ·rw [if_pos h0] at e;cases e
    ·rw [if_neg h0] at e ⊢
     dsimp only at e ⊢
     have hs2 := hs (h d) h (markT t d)
     generalize g (h d) h (markT t d) = r at e hs2 ⊢
     by_cases hr : r.1 = true
     ·rw [if_pos hr] at e;cases e
     ·rw [if_neg hr] at e ⊢;rw [hs2 (by simpa using hr)] at e ⊢;exact loopF_same hs i L h _ e
theorem giveF_same {N : Int → List Nat} : ∀ f i h t,(giveF N f i h t).1 = false → (giveF N f i h t).2.1 = h
 | 0,_,_,_,_ => rfl
 | f + 1,i,h,t,e => loopF_same (fun i h t e => giveF_same f i h t e) i (N i) h t e
theorem giveF_clo {N : Int → List Nat} {n : Nat} {X : Nat → Prop} : ∀ f i h t,Clo N n h X → ((∀ d ∈ N i,X d) → (giveF N f i h t).1 = false) ∧ ∀ d,X d → (giveF N f i h t).2.1 d = h d
 | 0,_,_,_,_ => ⟨fun _ => rfl,fun _ _ => rfl⟩
 | f + 1,i,h,t,hX => loopF_clo (fun i h t e => giveF_same f i h t e) (fun i h t hX => giveF_clo f i h t hX) i (N i) h t hX
theorem addR_R {N : Int → List Nat} {n m : Nat} {h : Nat → Int} {i : Nat} (hN : ∀ i,∀ d ∈ N i,d < n) (hh : OkP N n m h) : GiveR N (N i) n i h (fun _ => false) (addR N n h i) :=
 giveF_R hN (n + 1) i h _ (by omega) (by have := untr_none n;omega) fun d => (hh.lt d).1
theorem OkP.more {N : Int → List Nat} {n m : Nat} {h g : Nat → Int} {i : Nat} {Y : Nat → Prop} (hh : OkP N n m h) (hi : i < m) (hg : ∀ d,g d ≠ h d → Y d ∧ 0 ≤ g d ∧ (g d = i ∨ ∃ e,g d = h e) ∧ d ∈ N (g d)) (hc : ∀ j : Nat,cntN g (j : Int) n ≤ 1) : OkP N n m g := by
 refine ⟨fun d => ?_,fun d hd h0 => ?_,hc⟩
 ·by_cases e : g d = h d
  ·rw [e];exact hh.lt d
  ·have ⟨_,h1,h2,_⟩ := hg d e
   rcases h2 with h2 | ⟨e,h2⟩
   ·omega
   ·rw [h2];exact hh.lt e
 ·by_cases e : g d = h d
  ·rw [e] at h0 ⊢;exact hh.day d hd h0
  ·exact (hg d e).2.2.2
theorem add_true {N : Int → List Nat} {n m : Nat} {h : Nat → Int} {i : Nat} (hN : ∀ i,∀ d ∈ N i,d < n) (hh : OkP N n m h) (hi : i < m) (h0 : cntN h (i : Int) n = 0) (hb : addB N n h i = true) :
  OkP N n m (addF N n h i) ∧ ∀ j : Nat,cntN (addF N n h i) (j : Int) n = cntN h (j : Int) n + if i = j then 1 else 0 := by
 have q := (addR_R (i := i) hN hh).more hb;have e : addF N n h i = (addR N n h i).2.1 := if_pos hb
 have hc : ∀ j : Nat,cntN (addF N n h i) (j : Int) n = cntN h (j : Int) n + if i = j then 1 else 0 := fun j => by
  rw [e,q.1 j];congr 1
  by_cases x : i = j
  ·rw [if_pos x,if_pos (by omega)]
  ·rw [if_neg x,if_neg (by omega)]
 refine ⟨hh.more hi (Y := fun _ => True) (fun d hd => ?_) fun j => ?_,hc⟩
 ·rw [e] at hd ⊢;exact ⟨trivial,(q.2 d hd).2⟩
 ·rw [hc];have := hh.one j
  split
  ·rename_i x;subst x;omega
  ·omega
theorem add_false {N : Int → List Nat} {n m : Nat} {h : Nat → Int} {i : Nat} (hN : ∀ i,∀ d ∈ N i,d < n) (hh : OkP N n m h) (hi : i < m) (h0 : cntN h (i : Int) n = 0) (hb : addB N n h i = false) :
  addF N n h i = h ∧ ∃ X,Clo N n h X ∧ (∀ d ∈ N i,X d) ∧ ∀ d,X d → ∃ g,OkP N n m g ∧ ∀ j : Nat,cntN g (j : Int) n = cntN h (j : Int) n - (if h d = (j : Int) then 1 else 0) + if i = j then 1 else 0 := by
 have q := addR_R (i := i) hN hh;refine ⟨if_neg (by show ¬ addB N n h i = true;rw [hb];decide),fun d => (addR N n h i).2.2 d = true,fun d hd => ?_,q.all hb,fun d hd => ?_⟩
 ·have := q.clo hb d hd rfl;exact ⟨(q.lt d hd).resolve_left (by decide),this.1,this.2.1⟩
 ·obtain ⟨a1,-,g,a2,a3⟩ := q.clo hb d hd rfl
  have hc : ∀ j : Nat,cntN g (j : Int) n = cntN h (j : Int) n - (if h d = (j : Int) then 1 else 0) + if i = j then 1 else 0 := fun j => by
   rw [a2 j];congr 1
   by_cases x : i = j
   ·rw [if_pos x,if_pos (by omega)]
   ·rw [if_neg x,if_neg (by omega)]
  refine ⟨g,hh.more hi a3 fun j => ?_,hc⟩;rw [hc];have := hh.one j
  split
  ·split
   ·omega
   ·omega
  ·split
   ·rename_i x;subst x;omega
   ·omega
theorem add_clo {N : Int → List Nat} {n : Nat} {h : Nat → Int} {i : Int} {X : Nat → Prop} (hX : Clo N n h X) (d : Nat) (hd : X d) : addF N n h i d = h d := by
 unfold addF
 split
 ·exact (giveF_clo (n + 1) i h (fun _ => false) hX).2 d hd
 ·rfl
theorem Clo.of_same {N : Int → List Nat} {n : Nat} {h g : Nat → Int} {X : Nat → Prop} (hX : Clo N n h X) (e : ∀ d,X d → g d = h d) : Clo N n g X := fun d hd => by
 rw [e d hd];exact hX d hd
structure PlanC (N : Int → List Nat) (n m : Nat) (R : Int → Int → Prop) (p : List Int) (h : Nat → Int) : Prop where
 ok : OkP N n m h
 only : ∀ j : Nat,cntN h (j : Int) n ≠ 0 → (j : Int) ∈ p
 cert : ∀ i ∈ p,cntN h i n = 0 → ∃ X,Clo N n h X ∧ (∀ d ∈ N i,X d) ∧ ∀ d,X d → R (h d) i
theorem noPlan_ok {N : Int → List Nat} {n m : Nat} : OkP N n m noPlan := by
 have hc : ∀ j : Nat,cntN noPlan (j : Int) n = 0 := fun j => cntN_of_zero fun d _ => by show (-1 : Int) ≠ _;omega
 exact ⟨fun d => ⟨Int.le_refl _,by show (-1 : Int) < _;omega⟩,fun d _ h => absurd h (by show ¬ (0 : Int) ≤ -1;omega),fun j => by rw [hc];decide⟩
theorem noPlan_cnt {n j : Nat} : cntN noPlan (j : Int) n = 0 := cntN_of_zero fun d _ => by show (-1 : Int) ≠ _;omega
theorem foldl_C {N : Int → List Nat} {n m : Nat} {R : Int → Int → Prop} (hN : ∀ i,∀ d ∈ N i,d < n) : ∀ (l p : List Int) (h : Nat → Int),(p ++ l).Nodup → (p ++ l).Pairwise R → (∀ x ∈ p ++ l,∃ k : Nat,x = (k : Int) ∧ k < m) → PlanC N n m R p h → PlanC N n m R (p ++ l) (l.foldl (addF N n) h)
 | [],p,h,_,_,_,hp => by rw [List.append_nil];exact hp
 | i :: l,p,h,hd,hR,hm,hp => by
   rw [List.foldl_cons,show p ++ i :: l = (p ++ [i]) ++ l by simp];rw [show p ++ i :: l = (p ++ [i]) ++ l by simp] at hd hR hm;refine foldl_C hN l (p ++ [i]) _ hd hR hm ?_;obtain ⟨k,rfl,hk⟩ := hm i (by simp);have hd1 := (List.nodup_append.1 hd).1;have hR1 := (List.pairwise_append.1 hR).1
   have hnp : ∀ x ∈ p,x ≠ (k : Int) := fun x hx e => by
    have := (List.nodup_append.1 hd1).2.2 x hx _ (List.mem_singleton.2 rfl);exact this e
   have hRk : ∀ x ∈ p,R x (k : Int) := fun x hx => (List.pairwise_append.1 hR1).2.2 x hx _ (List.mem_singleton.2 rfl)
   have h0 : cntN h (k : Int) n = 0 := by
    by_cases e : cntN h (k : Int) n = 0
    ·exact e
    ·exact absurd rfl (hnp _ (hp.only k e))
   have hin : ∀ d,d < n → 0 ≤ h d → h d ∈ p := fun d hd h1 => by
    obtain ⟨j,hj⟩ : ∃ j : Nat,h d = (j : Int) := ⟨(h d).toNat,by omega⟩;rw [hj];exact hp.only j (by have := cntN_ge hd hj;omega)
   have hold : ∀ i ∈ p,cntN h i n = 0 → ∃ X,Clo N n (addF N n h k) X ∧ (∀ d ∈ N i,X d) ∧ ∀ d,X d → R (addF N n h k d) i := fun i hi hz => by
    obtain ⟨X,h1,h2,h3⟩ := hp.cert i hi hz;exact ⟨X,h1.of_same (add_clo h1),h2,fun d hd => by rw [add_clo h1 d hd];exact h3 d hd⟩
   by_cases hb : addB N n h k = true
   ·obtain ⟨h1,h2⟩ := add_true hN hp.ok hk h0 hb;refine ⟨h1,fun j hj => ?_,fun i hi hz => ?_⟩
    ·rw [h2] at hj
     by_cases e : k = j
     ·subst e;simp
     ·rw [if_neg e,Int.add_zero] at hj;exact List.mem_append_left _ (hp.only j hj)
    ·obtain ⟨q,rfl,hq⟩ := hm i (List.mem_append_left _ hi);rw [h2] at hz;have := cntN_pos (h := h) (j := (q : Int)) (n := n)
     by_cases e : k = q
     ·rw [if_pos e] at hz;omega
     ·rw [if_neg e,Int.add_zero] at hz
      rcases List.mem_append.1 hi with hi | hi
      ·exact hold _ hi hz
      ·rw [List.mem_singleton] at hi;omega
   ·have hb : addB N n h k = false := by simpa using hb
    obtain ⟨h1,X,h2,h3,-⟩ := add_false hN hp.ok hk h0 hb;refine ⟨by rw [h1];exact hp.ok,fun j hj => ?_,fun i hi hz => ?_⟩
    ·rw [h1] at hj;exact List.mem_append_left _ (hp.only j hj)
    ·rcases List.mem_append.1 hi with hi | hi
     ·rw [h1] at hz;exact hold i hi hz
     ·rw [List.mem_singleton] at hi;subst hi;rw [h1];exact ⟨X,h2,h3,fun d hd => hRk _ (hin d (h2 d hd).1 (h2 d hd).2.1)⟩
theorem planF_C {N : Int → List Nat} {n m : Nat} {R : Int → Int → Prop} {l : List Int} (hN : ∀ i,∀ d ∈ N i,d < n) (hd : l.Nodup) (hR : l.Pairwise R) (hm : ∀ x ∈ l,∃ k : Nat,x = (k : Int) ∧ k < m) : PlanC N n m R l (planF N n l) := by
 have q := foldl_C hN l [] noPlan hd hR hm ⟨noPlan_ok,fun j hj => absurd noPlan_cnt hj,fun i hi => absurd hi List.not_mem_nil⟩;exact q
def canF (N : Int → List Nat) (n : Nat) : List Int → (Nat → Int) → Bool
 | [],_ => true
 | i :: l,h => addB N n h i && canF N n l (addF N n h i)
theorem canF_true {N : Int → List Nat} {n m : Nat} (hN : ∀ i,∀ d ∈ N i,d < n) : ∀ (l : List Int) (h : Nat → Int),OkP N n m h → l.Nodup → (∀ x ∈ l,∃ k : Nat,x = (k : Int) ∧ k < m ∧ cntN h x n = 0) → canF N n l h = true →
  OkP N n m (l.foldl (addF N n) h) ∧ ∀ j : Nat,cntN (l.foldl (addF N n) h) (j : Int) n = cntN h (j : Int) n + if (j : Int) ∈ l then 1 else 0
 | [],h,hh,_,_,_ => ⟨hh,fun j => by simp⟩
 | i :: l,h,hh,hd,hm,hc => by
   obtain ⟨k,rfl,hk,h0⟩ := hm i List.mem_cons_self;unfold canF at hc;rw [Bool.and_eq_true] at hc;obtain ⟨a1,a2⟩ := add_true hN hh hk h0 hc.1;have hd2 := List.nodup_cons.1 hd;rw [List.foldl_cons]
   obtain ⟨b1,b2⟩ := canF_true hN l _ a1 hd2.2 (fun x hx => by
    obtain ⟨q,rfl,hq,hz⟩ := hm x (List.mem_cons_of_mem _ hx);refine ⟨q,rfl,hq,?_⟩
    rw [a2,hz,if_neg (by rintro rfl;exact hd2.1 hx)];rfl) hc.2
   refine ⟨b1,fun j => ?_⟩;rw [b2,a2]
   by_cases e : k = j
   ·subst e;rw [if_pos rfl,if_neg hd2.1,if_pos List.mem_cons_self];omega
   ·rw [if_neg e]
    by_cases hj : (j : Int) ∈ l
    ·rw [if_pos hj,if_pos (List.mem_cons_of_mem _ hj)];omega
    ·rw [if_neg hj,if_neg (by rw [List.mem_cons];rintro (x | x);omega;exact hj x)];omega
theorem max_cert {N : Int → List Nat} {n m : Nat} {W : Int → Int} {h : Nat → Int} (hN : ∀ i,∀ d ∈ N i,d < n) (hh : OkP N n m h) (hW : ∀ j : Nat,j < m → 0 < W j) (hmax : ∀ g,OkP N n m g → worthW W g n ≤ worthW W h n) (i : Nat) (hi : i < m) (h0 : cntN h (i : Int) n = 0) : ∃ X,CertI N n W h i X := by
 by_cases hb : addB N n h i = true
 ·exfalso
  obtain ⟨h1,h2⟩ := add_true hN hh hi h0 hb;have q := hmax _ h1;rw [worth_cnt n fun d _ => (h1.lt d).2,worth_cnt n fun d _ => (hh.lt d).2] at q
  have := sumN_le_at (f := fun j => cntN h (j : Int) n * W (j : Int)) (g := fun j => cntN (addF N n h i) (j : Int) n * W (j : Int)) (k := i) (c := 1) m hi (fun j _ hj => by
   rw [h2,if_neg (Ne.symm hj),Int.add_zero];exact Int.le_refl _) (by
   rw [h2,if_pos rfl,h0];have := hW i hi;omega)
  omega
 ·obtain ⟨-,X,h2,h3,h4⟩ := add_false hN hh hi h0 (by simpa using hb);refine ⟨X,h2,h3,fun d hd => ?_⟩;obtain ⟨g,g1,g2⟩ := h4 d hd;have hX := h2 d hd;obtain ⟨k,hk⟩ : ∃ k : Nat,h d = (k : Int) := ⟨(h d).toNat,by omega⟩;have hkm : k < m := by have := (hh.lt d).2;omega
  have q := hmax g g1;rw [worth_cnt n fun d _ => (g1.lt d).2,worth_cnt n fun d _ => (hh.lt d).2] at q;rw [hk] at g2 ⊢;have hki : k ≠ i := fun e => by have := cntN_ge hX.1 hk;rw [e] at this;omega
  have e : sumN (fun j => cntN g (j : Int) n * W (j : Int)) m = sumN (fun j => cntN h (j : Int) n * W (j : Int)) m + sumN (fun j => if j = k then - W (j : Int) else 0) m + sumN (fun j => if j = i then W (j : Int) else 0) m := by
   rw [← sumN_add,← sumN_add];refine sumN_eq m fun j _ => ?_;rw [g2]
   by_cases e1 : j = k
   ·subst e1;rw [if_pos rfl,if_neg (by omega),if_pos rfl,if_neg hki,Int.add_zero,Int.add_zero,Int.sub_mul];omega
   ·rw [if_neg (show ¬ (k : Int) = j by omega),if_neg e1]
    by_cases e2 : j = i
    ·subst e2;rw [if_pos rfl,if_pos rfl,h0];omega
    ·rw [if_neg (Ne.symm e2),if_neg e2];simp
  rw [e,sumN_one,sumN_one,if_pos hkm,if_pos hi] at q;omega
structure SpanT (t : Tr) (n : Nat) : Prop where
 sp : ∀ k (h : k < t.fl.length),0 ≤ t.fl[k].lo ∧ t.fl[k].hi < n
theorem openN_in {cl : List Int} {lo hi : Int} {d : Nat} (h0 : 0 ≤ lo) : d ∈ openN cl lo hi ↔ lo ≤ (d : Int) ∧ (d : Int) ≤ hi ∧ (d : Int) ∉ cl := by
 unfold openN;rw [List.mem_filter,List.mem_range'_1];simp only [Bool.not_eq_true',decide_eq_false_iff_not]
 constructor
 ·rintro ⟨h1,h2⟩;exact ⟨by omega,by omega,h2⟩
 ·rintro ⟨h1,h2,h3⟩;exact ⟨by omega,h3⟩
theorem trN_at {t : Tr} {i : Nat} (hi : i < t.fl.length) : t.N (i : Int) = openN t.cl t.fl[i].lo t.fl[i].hi := by
 unfold Tr.N;rw [Int.toNat_natCast,List.getElem?_eq_getElem hi]
theorem trN_lt {t : Tr} {n : Nat} (hT : SpanT t n) (i : Int) (d : Nat) (hd : d ∈ t.N i) : d < n := by
 unfold Tr.N at hd
 cases e : t.fl[i.toNat]? with
 | none => rw [e] at hd;cases hd
 | some f =>
   rw [e] at hd;obtain ⟨hk,rfl⟩ := List.getElem?_eq_some_iff.1 e;have := hT.sp _ hk;have := (openN_in this.1).1 hd;omega
theorem filter_sum {p : Nat → Bool} : ∀ n,(((List.range n).filter p).length : Int) = sumN (fun d => if p d = true then 1 else 0) n
 | 0 => rfl
 | n + 1 => by
   rw [List.range_succ,List.filter_append,List.length_append,Int.natCast_add,filter_sum n]
   show _ = _ + (if p n = true then (1 : Int) else 0)
   congr 1
   by_cases h : p n = true
   ·rw [List.filter_cons_of_pos h,if_pos h];rfl
   ·rw [List.filter_cons_of_neg h,if_neg h];rfl
theorem openN_sum {cl : List Int} {a b n : Nat} (hb : b < n) : ((openN cl (a : Int) (b : Int)).length : Int) = sumN (fun d => if a ≤ d ∧ d ≤ b ∧ (d : Int) ∉ cl then 1 else 0) n := by
 have e : openN cl (a : Int) (b : Int) = (List.range n).filter fun d => decide (a ≤ d ∧ d ≤ b ∧ (d : Int) ∉ cl) := by
  unfold openN;rw [Int.toNat_natCast]
  by_cases hab : a ≤ b
  ·rw [show ((b : Int) + 1 - (a : Int)).toNat = b + 1 - a by omega,List.range_eq_range',show n = a + ((b + 1 - a) + (n - b - 1)) by omega,← List.range'_append_1,← List.range'_append_1,List.filter_append,List.filter_append]
   have e1 : (List.range' 0 a).filter (fun d => decide (a ≤ d ∧ d ≤ b ∧ (d : Int) ∉ cl)) = [] := by
    rw [List.filter_eq_nil_iff];intro x hx;have := List.mem_range'_1.1 hx;simp;omega
   have e2 : (List.range' (0 + a + (b + 1 - a)) (n - b - 1)).filter (fun d => decide (a ≤ d ∧ d ≤ b ∧ (d : Int) ∉ cl)) = [] := by
    rw [List.filter_eq_nil_iff];intro x hx;have := List.mem_range'_1.1 hx;simp;omega
   rw [e1,e2,List.nil_append,List.append_nil,Nat.zero_add];refine List.filter_congr fun x hx => ?_;have := List.mem_range'_1.1 hx
   by_cases hc : (x : Int) ∈ cl
   ·rw [decide_eq_true hc,decide_eq_false (by rintro ⟨-,-,q⟩;exact q hc)];rfl
   ·rw [decide_eq_false hc,decide_eq_true ⟨by omega,by omega,hc⟩];rfl
  ·rw [show ((b : Int) + 1 - (a : Int)).toNat = 0 by omega]
   symm
   rw [show (List.range' a 0).filter (fun d : Nat => !decide ((d : Int) ∈ cl)) = [] from rfl,List.filter_eq_nil_iff];intro x _;simp;omega
 rw [e,filter_sum];exact sumN_eq n fun d _ => by simp only [decide_eq_true_eq]
theorem sumN_all {f g : Nat → Int} : ∀ n,(∀ d,d < n → f d ≤ g d) → sumN f n = sumN g n → ∀ d,d < n → f d = g d
 | 0,_,_,d,hd => absurd hd (Nat.not_lt_zero _)
 | n + 1,h,e,d,hd => by
   have h1 := sumN_le (f := f) (g := g) n fun d hd => h d (by omega);have h2 := h n (by omega);have e : sumN f n + f n = sumN g n + g n := e
   by_cases q : d = n
   ·subst q;omega
   ·exact sumN_all n (fun d hd => h d (by omega)) (by omega) d (by omega)
def inA (fl : List Fl) (a b x : Int) : Bool := match fl[x.toNat]? with | some f => decide (a ≤ f.lo ∧ f.hi ≤ b) | none => false
theorem inA_at {fl : List Fl} {a b : Int} {i : Nat} (hi : i < fl.length) : inA fl a b (i : Int) = decide (a ≤ fl[i].lo ∧ fl[i].hi ≤ b) := by
 unfold inA;rw [Int.toNat_natCast,List.getElem?_eq_getElem hi]
def inW (fl : List Fl) (a b x : Int) : Int := if inA fl a b x = true then 1 else 0
theorem day_in {t : Tr} {n a b d : Nat} {h : Nat → Int} (hT : SpanT t n) (hh : OkP t.N n t.fl.length h) (hd : d < n) (h0 : 0 ≤ h d) (hw : inA t.fl a b (h d) = true) : a ≤ d ∧ d ≤ b ∧ (d : Int) ∉ t.cl := by
 obtain ⟨j,hj⟩ : ∃ j : Nat,h d = (j : Int) := ⟨(h d).toNat,by omega⟩;have hjm : j < t.fl.length := by have := (hh.lt d).2;omega
 have h1 := hh.day d hd h0;rw [hj] at h1 hw;rw [trN_at hjm,openN_in (hT.sp j hjm).1] at h1;rw [inA_at hjm,decide_eq_true_iff] at hw;exact ⟨by omega,by omega,h1.2.2⟩
theorem full_iff {t : Tr} {n a b : Nat} {h : Nat → Int} (hT : SpanT t n) (hh : OkP t.N n t.fl.length h) (hb : b < n) :
  worthW (inW t.fl a b) h n = ((openN t.cl (a : Int) (b : Int)).length : Int) ↔ ∀ d,a ≤ d → d ≤ b → (d : Int) ∉ t.cl → 0 ≤ h d ∧ inA t.fl a b (h d) = true := by
 rw [openN_sum hb]
 constructor
 ·intro e d h1 h2 h3
  have q : (if 0 ≤ h d then inW t.fl a b (h d) else 0) = (if a ≤ d ∧ d ≤ b ∧ (d : Int) ∉ t.cl then 1 else 0) := sumN_all (f := fun d => if 0 ≤ h d then inW t.fl a b (h d) else 0) (g := fun d => if a ≤ d ∧ d ≤ b ∧ (d : Int) ∉ t.cl then 1 else 0) n (fun d hd => by
   show (if 0 ≤ h d then inW t.fl a b (h d) else 0) ≤ (if a ≤ d ∧ d ≤ b ∧ (d : Int) ∉ t.cl then (1 : Int) else 0)
   by_cases h0 : 0 ≤ h d
   ·rw [if_pos h0];unfold inW
    by_cases hw : inA t.fl a b (h d) = true
    ·rw [if_pos hw,if_pos (day_in hT hh hd h0 hw)];decide
    ·rw [if_neg hw];split <;> decide
   ·rw [if_neg h0];split <;> decide) e d (by omega)
  rw [if_pos (show a ≤ d ∧ d ≤ b ∧ (d : Int) ∉ t.cl from ⟨h1,h2,h3⟩)] at q
  by_cases h0 : 0 ≤ h d
  ·rw [if_pos h0] at q;unfold inW at q
   by_cases hw : inA t.fl a b (h d) = true
   ·exact ⟨h0,hw⟩
   ·rw [if_neg hw] at q;cases q
  ·rw [if_neg h0] at q;cases q
 ·intro hc;refine sumN_eq n fun d hd => ?_
  by_cases ho : a ≤ d ∧ d ≤ b ∧ (d : Int) ∉ t.cl
  ·rw [if_pos ho];have := hc d ho.1 ho.2.1 ho.2.2;rw [if_pos this.1];unfold inW;rw [if_pos this.2]
  ·rw [if_neg ho]
   by_cases h0 : 0 ≤ h d
   ·rw [if_pos h0];unfold inW
    by_cases hw : inA t.fl a b (h d) = true
    ·exact absurd (day_in hT hh hd h0 hw) ho
    ·rw [if_neg hw]
   ·rw [if_neg h0]
theorem window {t : Tr} {n : Nat} {h : Nat → Int} {X : Nat → Prop} (hT : SpanT t n) (hh : OkP t.N n t.fl.length h) (hX : Clo t.N n h X) : ∀ (k a b : Nat),n ≤ k + (b - a) → a ≤ b → b < n → (∀ d,a ≤ d → d ≤ b → (d : Int) ∉ t.cl → X d) →
  ∃ a' b',a' ≤ a ∧ b ≤ b' ∧ b' < n ∧ ∀ d,a' ≤ d → d ≤ b' → (d : Int) ∉ t.cl → X d ∧ inA t.fl a' b' (h d) = true
 | 0,a,b,hk,hab,hb,_ => by omega
 | k + 1,a,b,hk,hab,hb,hc => by
   by_cases hall : ∀ d,a ≤ d → d ≤ b → (d : Int) ∉ t.cl → inA t.fl a b (h d) = true
   ·exact ⟨a,b,Nat.le_refl _,Nat.le_refl _,hb,fun d h1 h2 h3 => ⟨hc d h1 h2 h3,hall d h1 h2 h3⟩⟩
   ·obtain ⟨d,hd⟩ := Classical.not_forall.1 hall;obtain ⟨h1,hd⟩ := Classical.not_imp.1 hd;obtain ⟨h2,hd⟩ := Classical.not_imp.1 hd;obtain ⟨h3,hd⟩ := Classical.not_imp.1 hd;have hX1 := hX d (hc d h1 h2 h3);obtain ⟨j,hj⟩ : ∃ j : Nat,h d = (j : Int) := ⟨(h d).toNat,by omega⟩;have hjm : j < t.fl.length := by have := (hh.lt d).2;omega
    have hday := hh.day d (by omega) hX1.2.1;have hcl := hX1.2.2;rw [hj] at hday hcl hd;rw [trN_at hjm] at hday hcl;have hs := hT.sp j hjm;have hday := (openN_in hs.1).1 hday;rw [inA_at hjm,decide_eq_true_iff] at hd;obtain ⟨p,hp⟩ : ∃ p : Nat,t.fl[j].lo = (p : Int) := ⟨t.fl[j].lo.toNat,by omega⟩;obtain ⟨q,hq⟩ : ∃ q : Nat,t.fl[j].hi = (q : Int) := ⟨t.fl[j].hi.toNat,by omega⟩;rw [hp,hq] at hs hday hd
    obtain ⟨a',b',w1,w2,w3,w4⟩ := window hT hh hX k (min a p) (max b q) (by omega) (by omega) (by omega) (fun e e1 e2 e3 => by
     by_cases he : a ≤ e ∧ e ≤ b
     ·exact hc e he.1 he.2 e3
     ·exact hcl e ((openN_in (by omega)).2 ⟨by omega,by omega,e3⟩))
    exact ⟨a',b',by omega,by omega,w3,w4⟩
theorem window_of {t : Tr} {n i : Nat} {h : Nat → Int} {X : Nat → Prop} (hT : SpanT t n) (hle : ∀ k (h : k < t.fl.length),t.fl[k].lo ≤ t.fl[k].hi) (hh : OkP t.N n t.fl.length h) (hX : Clo t.N n h X) (hi : i < t.fl.length) (hN : ∀ d ∈ t.N i,X d) :
  ∃ a b : Nat,a ≤ b ∧ b < n ∧ inA t.fl a b (i : Int) = true ∧ ∀ d,a ≤ d → d ≤ b → (d : Int) ∉ t.cl → X d ∧ inA t.fl a b (h d) = true := by
 have hs := hT.sp i hi;have hl := hle i hi;obtain ⟨p,hp⟩ : ∃ p : Nat,t.fl[i].lo = (p : Int) := ⟨t.fl[i].lo.toNat,by omega⟩;obtain ⟨q,hq⟩ : ∃ q : Nat,t.fl[i].hi = (q : Int) := ⟨t.fl[i].hi.toNat,by omega⟩
 obtain ⟨a,b,h1,h2,h3,h4⟩ := window hT hh hX n p q (by omega) (by omega) (by omega) (fun d d1 d2 d3 => hN d (by
  rw [trN_at hi];exact (openN_in hs.1).2 ⟨by omega,by omega,d3⟩))
 exact ⟨a,b,by omega,h3,by rw [inA_at hi,decide_eq_true_iff];omega,h4⟩
def jamN (fl : List Fl) (a b : Int) (l : List Int) : Int := ((l.filter (inA fl a b)).length : Int)
end Go.Proofs.YtnklbepeoicgpaaGreat
namespace Go.Proofs.YtnklbepeoicgpaaGreat
open Go.RowKit Go.Wk Go.Proofs
attribute [local irreducible] Go.Wk.Wops Go.Wk.Wp Go.Wk.Mtree Go.Wk.Mops
set_option maxHeartbeats 8000000
set_option maxRecDepth 20000
theorem FlawsS.adm {w V : World} {S m : Nat} {v : Value} {fl : List Fl} (h : FlawsS w S v fl) (hA : Adm m w V) : FlawsS V S v fl := ⟨h.v.cells fun _ _ _ _ hc => hA.cell hc⟩
theorem OwnI.adm {w V : World} {base m : Nat} {v : Value} {l : List Int} (h : OwnI w base v l) (hA : Adm m w V) : OwnI V base v l := ownsRow_adm h hA
theorem keepN_mem {l : List Int} {fl : List Fl} {f : Fl} : ∀ {k : Nat},f ∈ keepN l fl k → f ∈ fl
 | 0,h => by cases h
 | k + 1,h => by
   unfold keepN at h
   split at h
   ·exact keepN_mem h
   ·rcases List.mem_append.1 h with h | h
    ·exact keepN_mem h
    ·cases e : fl[k]? with
     | none => rw [e] at h;cases h
     | some g => rw [e] at h;obtain rfl : f = g := by simpa using h
                 exact List.mem_of_getElem? e
theorem PlanT.without {t : Tr} {n : Nat} (h : PlanT t n) (l : List Int) : PlanT (withoutT t l) n :=
 ⟨h.tn,h.n1,h.n2,h.cl,by have := keepN_len (l := l) (fl := t.fl) t.fl.length;have := h.fl;show (keepN l t.fl t.fl.length).length ≤ 12;omega,
  fun k hk => by obtain ⟨j,hj,e⟩ := List.mem_iff_getElem.1 (keepN_mem (List.getElem_mem hk));rw [← e];exact h.sp j hj,
  fun k hk => by obtain ⟨j,hj,e⟩ := List.mem_iff_getElem.1 (keepN_mem (List.getElem_mem hk));rw [← e];exact h.mr j hj⟩
def onF (t : Tr) (n i d : Nat) : Int := mAt t.fl (i : Int) + meritF (closedT (withoutT t [(i : Int)]) (d : Int)) n
def daysP (t : Tr) (n i d : Nat) : Bool := decide (onF t n i d = meritF t n)
def daysL (t : Tr) (n i : Nat) : List Int := ((t.N (i : Int)).filter (daysP t n i)).map fun d : Nat => (d : Int)
def posF (fl : List Fl) (id : Int) : Int := match fl.findIdx? fun f => decide (f.id = id) with | some i => (i : Int) | none => -1
theorem FindP.eq {fl : List Fl} {id r : Int} (h : FindP fl id r) : r = posF fl id := by
 unfold posF
 rcases h with ⟨i,rfl,hi,he,hn⟩ | ⟨rfl,hn⟩
 ·have : fl.findIdx? (fun f => decide (f.id = id)) = some i := by
   rw [List.findIdx?_eq_some_iff_getElem];exact ⟨hi,decide_eq_true he,fun j hj => by simpa using hn j hj⟩
  rw [this]
 ·have : fl.findIdx? (fun f => decide (f.id = id)) = none := by
   rw [List.findIdx?_eq_none_iff];intro x hx;obtain ⟨j,hj,rfl⟩ := List.mem_iff_getElem.1 hx;exact decide_eq_false (hn j hj)
  rw [this]
theorem posF_cases (fl : List Fl) (id : Int) : (∃ i : Nat,∃ h : i < fl.length,posF fl id = (i : Int) ∧ fl[i].id = id) ∨ (posF fl id = -1 ∧ ∀ f ∈ fl,f.id ≠ id) := by
 unfold posF
 cases e : fl.findIdx? fun f => decide (f.id = id) with
 | none =>
   rw [List.findIdx?_eq_none_iff] at e;exact .inr ⟨rfl,fun f hf => by have := e f hf;simpa using this⟩
 | some i =>
   rw [List.findIdx?_eq_some_iff_getElem] at e;obtain ⟨hi,h1,-⟩ := e;exact .inl ⟨i,hi,rfl,by simpa using h1⟩
structure Own2 (W : World) (B0 : Nat) (vA : Value) (ZA : List Int) (vB : Value) (ZB : List Int) : Prop where
 a : OwnI W B0 vA ZA
 b : OwnI W B0 vB ZB
 ne : ∀ k,vA.ownBlock = some k → vB.ownBlock = some k → False
section
variable {W V : World} {B0 : Nat} {vA vB : Value} {ZA ZB : List Int}
theorem Own2.ext (h : Own2 W B0 vA ZA vB ZB) (hE : Ext W V) : Own2 V B0 vA ZA vB ZB := ⟨h.a.ext hE,h.b.ext hE,h.ne⟩
theorem Own2.nil : Own2 W B0 (.slice none 0 0) [] (.slice none 0 0) [] := ⟨World.ownsRow_nil _ _ _ _,World.ownsRow_nil _ _ _ _,fun k h _ => by cases h⟩
end
def idAt (fl : List Fl) (k : Nat) : Int := match fl[k]? with | some f => f.id | none => 0
theorem idAt_at {fl : List Fl} {k : Nat} (h : k < fl.length) : idAt fl k = fl[k].id := by unfold idAt;rw [List.getElem?_eq_getElem h]
theorem Own2.blk {W : World} {B0 : Nat} {vA vB : Value} {ZA ZB : List Int} (h : Own2 W B0 vA ZA vB ZB) (hb : B0 ≤ W.heap.size) : ∃ g,B0 ≤ g ∧ (∀ k,vA.ownBlock = some k → k = g) ∧ ∀ k,vB.ownBlock = some k → k ≠ g := by
 cases e : vA.ownBlock with
 | none => exact ⟨W.heap.size + 7,by omega,fun k h => (by cases h),fun k hk => by have := (World.ownsRow.lt h.b k hk).2;omega⟩
 | some g => exact ⟨g,(World.ownsRow.lt h.a g e).1,fun k hk => by injection hk with hk;exact hk.symm,fun k hk he => h.ne k (by rw [he];exact e) hk⟩
def RowsP {α : Type} (k : Nat) (enc : α → List Value) (w : World) (P : Nat → Prop) (v : Value) (xs : List α) : Prop :=
 ∃ (A : Option Addr) (c : Nat),v = .slice A xs.length c ∧ (xs ≠ [] → ∃ b o,A = some ⟨b,o,none⟩ ∧ P b ∧ b < w.heap.size ∧ ∀ i (h : i < xs.length) r u,(enc xs[i])[r]? = some u → w.cell? ⟨b,o + i * k + r,none⟩ = some u) ∧ xs.length ≤ c
def IntsP (w : World) (P : Nat → Prop) (v : Value) (xs : List Int) : Prop :=
 ∃ (A : Option Addr) (c : Nat),v = .slice A xs.length c ∧ (xs ≠ [] → ∃ b o,A = some ⟨b,o,none⟩ ∧ P b ∧ b < w.heap.size ∧ ∀ k (h : k < xs.length),w.cell? ⟨b,o + k,none⟩ = some (.int .i64 xs[k])) ∧ xs.length ≤ c
section
variable {α : Type} {k : Nat} {enc : α → List Value} {w w' : World} {P Q : Nat → Prop} {v : Value} {xs : List α} {L : List Nat}
theorem RowsP.chg (h : RowsP k enc w P v xs) (hC : Chg L w w') (hL : ∀ b,P b → b < w.heap.size → b ∉ L) : RowsP k enc w' P v xs := by
 obtain ⟨A,c,hv,hx,hcap⟩ := h
 exact ⟨A,c,hv,fun hne => by
  obtain ⟨b,o,hA,h1,h2,h3⟩ := hx hne
  exact ⟨b,o,hA,h1,Nat.lt_of_lt_of_le h2 hC.size,fun i hi r u hu => Chg.cell hC (h3 i hi r u hu) (hL b h1 h2)⟩,hcap⟩
theorem RowsP.mono (h : RowsP k enc w P v xs) (hP : ∀ b,P b → b < w.heap.size → Q b) : RowsP k enc w Q v xs := by
 obtain ⟨A,c,hv,hx,hcap⟩ := h
 exact ⟨A,c,hv,fun hne => by
  obtain ⟨b,o,hA,h1,h2,h3⟩ := hx hne
  exact ⟨b,o,hA,hP b h1 h2,h2,h3⟩,hcap⟩
end
section
variable {w w' : World} {P Q : Nat → Prop} {v : Value} {xs : List Int} {L : List Nat}
theorem IntsP.chg (h : IntsP w P v xs) (hC : Chg L w w') (hL : ∀ b,P b → b < w.heap.size → b ∉ L) : IntsP w' P v xs := by
 obtain ⟨A,c,hv,hx,hcap⟩ := h
 exact ⟨A,c,hv,fun hne => by
  obtain ⟨b,o,hA,h1,h2,h3⟩ := hx hne
  exact ⟨b,o,hA,h1,Nat.lt_of_lt_of_le h2 hC.size,fun i hi => Chg.cell hC (h3 i hi) (hL b h1 h2)⟩,hcap⟩
theorem IntsP.mono (h : IntsP w P v xs) (hP : ∀ b,P b → b < w.heap.size → Q b) : IntsP w Q v xs := by
 obtain ⟨A,c,hv,hx,hcap⟩ := h
 exact ⟨A,c,hv,fun hne => by
  obtain ⟨b,o,hA,h1,h2,h3⟩ := hx hne
  exact ⟨b,o,hA,hP b h1 h2,h2,h3⟩,hcap⟩
theorem IntsP.intsV (h : IntsP w P v xs) : IntsV w w.heap.size v xs := by
 obtain ⟨A,c,hv,hx,hcap⟩ := h
 exact ⟨A,c,hv,fun hne => by
  obtain ⟨b,o,hA,h1,h2,h3⟩ := hx hne
  exact ⟨b,o,hA,h2,h3⟩,hcap⟩
end
structure TourX (W : World) (P : Nat → Prop) (v : Value) (t : Tr) : Prop where
 ex : ∃ cv fv,v = .agg #[.int .i64 t.n,cv,fv] ∧ IntsP W P cv t.cl ∧ RowsP 4 encF W P fv t.fl
section
variable {W V : World} {P Q : Nat → Prop} {v : Value} {t : Tr} {L : List Nat}
theorem TourX.chg (h : TourX W P v t) (hC : Chg L W V) (hL : ∀ b,P b → b < W.heap.size → b ∉ L) : TourX V P v t := by obtain ⟨x,z,h1,h2,h3⟩ := h.ex;exact ⟨x,z,h1,h2.chg hC hL,h3.chg hC hL⟩
theorem TourX.ext (h : TourX W P v t) (hE : Ext W V) : TourX V P v t := h.chg ((Chg.refl [] W).ext hE) (by simp)
theorem TourX.mono (h : TourX W P v t) (hP : ∀ b,P b → b < W.heap.size → Q b) : TourX W Q v t := by obtain ⟨x,z,h1,h2,h3⟩ := h.ex;exact ⟨x,z,h1,h2.mono hP,h3.mono hP⟩
end
theorem setL_cells (b : Nat) : ∀ (vs : List Value) (w : World) (i : Nat),w.setCells b i vs = setL w b i vs
 | [],_,_ => rfl
 | v :: vs,w,i => by rw [World.setCells,setL,setL_cells b vs]
def zerosI (m : Nat) : List Value := List.replicate m (.int .i64 0)
theorem run_clearI (w : World) (ty : TypeId) (b o m c : Nat) (hm : 0 < m) (hc : ∀ j,j < m → (w.cell? ⟨b,o + j,none⟩).isSome = true) (hf : ∀ j,j < m → w.frozen? ⟨b,o + j,none⟩ = false) :
  (Builtin.clear_ #[22] ty #[.slice (some ⟨b,o,none⟩) m c]).run Tryz.prog w = .ok (.tuple #[]) (setL w b o (zerosI m)) := by
 have hzc : (Builtin.zeroCells (Value.int .i64 0).cells m).toList = zerosI m := by
  unfold zerosI;apply List.ext_getElem
  ·simp [Builtin.zeroCells,Value.cells]
  ·intro i h1 h2;simp [Builtin.zeroCells,Value.cells];rw [Nat.mod_one];rfl
 have hst := run_storeCells_cells (P := Tryz.prog) b o (zerosI m) 0 w (by simpa [zerosI] using hc) (by simpa [zerosI] using hf) (by intro v hv';unfold zerosI at hv';rw [List.eq_of_mem_replicate hv'];rfl);simp only [Nat.add_zero] at hst;rw [setL_cells] at hst;have hz : (zeroValue 3).run Tryz.prog w = .ok (.int .i64 0) w := by simp [go_sem]
 obtain ⟨m,rfl⟩ : ∃ k,m = k + 1 := ⟨m - 1,by omega⟩;simp [Builtin.clear_,run_underlying Tryz.underlying22,hz,hzc,hst]
def filI (p : Int → Bool) (l : List Int) : List Int := l.filter fun a => !p a
theorem filI_all {p : Int → Bool} {al : List Int} (h : ∀ a ∈ al,p a = false) : filI p al = al := List.filter_eq_self.2 fun a ha => by rw [h a ha];rfl
theorem filI_T {p : Int → Bool} {al : List Int} {j : Nat} (h : j < al.length) (hp : p al[j] = true) : filI p (al.take (j + 1)) = filI p (al.take j) := by
 unfold filI;rw [take_snoc h,List.filter_append,List.filter_cons_of_neg (by rw [hp];decide)];simp
theorem filI_F {p : Int → Bool} {al : List Int} {j : Nat} (h : j < al.length) (hp : p al[j] = false) : filI p (al.take (j + 1)) = filI p (al.take j) ++ [al[j]] := by
 unfold filI;rw [take_snoc h,List.filter_append,List.filter_cons_of_pos (by rw [hp];rfl)];simp
theorem RowJ.someZ {W : World} {b i m : Nat} {xs : List Int} (h : RowJ W b xs) (hm : i + m ≤ xs.length) : ∀ j,j < m → (W.cell? ⟨b,i + j,none⟩).isSome = true := fun j hj => by
 rw [h.c (i + j) (by omega)];rfl
theorem set_mid {F mt R : List Int} {m0 x : Int} : (F ++ m0 :: mt ++ x :: R).set F.length x = (F ++ [x]) ++ (mt ++ [x]) ++ R := by
 rw [List.append_assoc,List.set_append_right _ _ (Nat.le_refl _),Nat.sub_self];simp
theorem exec_clear {P : Program} {ev : Operand → Value} {o : Oper} {s : Operand} {t : TypeId} (ho : o.op = .call { callee := .builtin .clear,args := #[s],argTypes := #[t] }) {v vs : Value} {w w' : World}
  (h : (Builtin.clear_ #[t] o.type #[vs]).run P w = .ok v w') (h1 : ev s = vs) : (execOp ev o).run P w = .ok (.value v) w' := by
 unfold execOp;simp only [ho,resolve,invoke,builtin,Sem.run_bind,Sem.run_pure,Result.andThen_ok,List.map_toArray,List.map_cons,List.map_nil,h1,h]
theorem indexJ_c (b n c : Nat) (xs : List Int) (p : Int → Bool) (gf : Nat) (lb : Array Value) (w : World) (hx : RowJ w b xs) (hn : xs.length = n) (hl : n ≤ 1000000000)
  (heg : ∀ args w,(callFunc gf args).run Tryz.prog w = .ok (.enter gf args) w)
  (hp : ∀ a ∈ xs,∀ W,Ext w W → CallsV Tryz.prog gf (#[.int .i64 a] ++ lb) W fun v W' => v = .bool (p a) ∧ Ext W W') :
  CallsV Tryz.prog 159 #[.slice (some ⟨b,0,none⟩) n c,.func (.func gf) #[] lb] w fun v w' =>
   ∃ r : Int,v = .int .i64 r ∧ (r = -1 → ∀ a ∈ xs,p a = false) ∧ (¬ r = -1 → ∃ (k : Nat) (h : k < xs.length),r = (k : Int) ∧ p xs[k] = true ∧ ∀ a ∈ xs.take k,p a = false) ∧ Ext w w' := by
 replace hn : ∃ _u : Unit,_ := ⟨(),hn⟩;refine Wp.fn Tryz.func159 rfl Tryz.ntmps159 (by simp) ?_;have xw := Ext.refl w;refine Wp.keep [0,1] ?_;rintro r1 ⟨j,B,-⟩;simp [go_sem] at j B;refine sRg fun K' gd hK => ?_;go_simp;apply hK;clear hK K' gd;refine Wp.keep [0,1] ?_;rintro r2 ⟨o,E,-⟩;simp [go_sem,j,B] at o E;clear j B;refine Wp.seq ?_;refine sRg fun K' gd hK => ?_;go_simp;apply hK;clear hK K' gd;refine Wp.keep [0,1,7,8] ?_;rintro r3 ⟨s,F,P,ae,-⟩;simp [go_sem,o,E] at s F P ae;clear o E;refine Wp.block ?_;refine Wp.loop (fun k ρ ds wk => AllEq [0,1,7] ρ r3 ∧ ds = [] ∧ (Ext w wk) ∧ (ρ 8 = .int .i64 (k : Int) ∧ (∃ _u : Unit,∀ a ∈ xs.take k,p a = false))) (n) ?_ ?_
 ·refine ⟨AllEq.refl _ _,rfl,Ext.refl _,?_⟩;exact ⟨by rw [ae];rfl,(),fun a ha => by rw [List.take_zero] at ha;cases ha⟩
 ·rintro k r4 _ wk hk ⟨hA,rfl,xl1,⟨e8,hq⟩⟩;obtain ⟨t,G,Q,-⟩ := hA;rw [s] at t;rw [F] at G;rw [P] at Q;replace xw := Ext.trans xw xl1;refine sRg fun K' gd hK => ?_;go_simp;apply hK;clear hK K' gd;refine Wp.keep [0,1,7,8,9] ?_;rintro r5 ⟨d,e,f,g,i,-⟩;simp [go_sem,t,G,Q,e8] at d e f g i;clear t G Q e8;refine Wp.seq ?_
  by_cases hk : k < n
  ·refine cTt ?_;have hkn : (k : Int) < (n : Int) := by omega
   have hkx : k < xs.length := by have := hn.choose_spec;omega
   have y0 := xw.cell (hx.c k hkx);obtain ⟨x,hxe⟩ : ∃ x,∃ _u : Unit,gI xs k = x ∧ xs[k] = x := ⟨_,(),rfl,(gI_lt hkx).symm⟩;rw [hxe.choose_spec.1] at y0;have hxm : x ∈ xs := by rw [← hxe.choose_spec.2];exact List.getElem_mem hkx
   by_cases hp1 : p x = true
   ·skip;refine skN ?_;refine sBk ?_;refine sRg fun K' gd hK => ?_;go_simp;apply hK;clear hK K' gd;refine Wp.keep [0,1,5,7,8] ?_;rintro r6 ⟨u,H,L,R,V,-⟩;simp [go_sem,d,e,f,g,i] at u H L R V;clear d e f g i;refine sRg fun K' gd hK => ?_;refine cu6 fun K1 hK1 => ?_;go_simp;refine Wcall (.inl rfl) (hp x hxm _ xw) ?_;rintro v w2 ⟨rfl,hE⟩;go_simp;apply hK1;clear hK1 K1;replace xw := xw.trans hE;replace xl1 := xl1.trans hE;clear hE;try simp only [Wops_nil,updO_some,updO_none]
    apply hK;clear hK K' gd;refine Wp.keep [0,1,5,7,8,16] ?_;rintro r8 ⟨y,I,M,S,X,A,-⟩;simp [go_sem,u,H,L,R,V] at y I M S X A;clear u H L R V;refine cTt ?_;refine sRg fun K' gd hK => ?_;go_simp;apply hK;clear hK K' gd;refine Wp.keep [4] ?_;rintro r9 ⟨ab,-⟩;simp [go_sem,y,I,M,S,X,A] at ab;clear y I M S X A;refine Wp.ret ?_;refine bRe ?_;refine tRe ?_;refine tRe ?_;refine bRe ?_;refine tRe ?_;refine endK_tmp Tryz.results159 (by decide) ?_;rw [ab];exact ⟨_,rfl,fun q => absurd q (by omega),fun _ => ⟨k,hkx,rfl,by rw [hxe.choose_spec.2];exact hp1,hq.choose_spec⟩,xw⟩
   ·skip;refine skN ?_;refine sBk ?_;refine sRg fun K' gd hK => ?_;go_simp;apply hK;clear hK K' gd;refine Wp.keep [0,1,5,7,8] ?_;rintro r10 ⟨l,C,J,N,T,-⟩;simp [go_sem,d,e,f,g,i] at l C J N T;clear d e f g i;refine sRg fun K' gd hK => ?_;refine cu6 fun K1 hK1 => ?_;go_simp;refine Wcall (.inl rfl) (hp x hxm _ xw) ?_;rintro v w2 ⟨rfl,hE⟩;go_simp;apply hK1;clear hK1 K1;replace xw := xw.trans hE;replace xl1 := xl1.trans hE;clear hE;try simp only [Wops_nil,updO_some,updO_none]
    apply hK;clear hK K' gd;refine Wp.keep [0,1,5,7,8,16] ?_;rintro r12 ⟨m,D,K,O,U,z,-⟩;simp [go_sem,l,C,J,N,T] at m D K O U z;clear l C J N T;refine cFf ?_;refine Wp.skip ?_;refine bNo ?_;refine tNo ?_;refine lRg fun K' gd hK => ?_;go_simp;apply hK;clear hK K' gd;refine Ends.keep [0,1,7,8] ?_;rintro r13 ⟨Y,Z,ac,ad,-⟩;simp [go_sem,m,D,K,O,U,z] at Y Z ac ad;clear m D K O U z;refine Ends.mk ?_;refine thenK_normal ⟨by omega,⟨by rw [Y,s],by rw [Z,F],by rw [ac,P],trivial⟩,rfl,xl1,?_⟩;exact ⟨by rw [ad,IntWalk.i64_in _ (by omega)];rfl,(),fun a ha => by rw [take_snoc hkx,List.mem_append] at ha;rcases ha with ha | ha;exact hq.choose_spec a ha;obtain rfl : a = xs[k] := (by simpa using ha);rw [hxe.choose_spec.2];simpa using hp1⟩
  ·refine cFf ?_;have hkn : k = n := by omega
   refine Wp.exit ?_;refine tEx ?_;refine tEx ?_;refine blockK_here ?_;refine tNo ?_;refine sRg fun K' gd hK => ?_;go_simp;apply hK;clear hK K' gd;refine Wp.keep [4] ?_;rintro r14 ⟨aa,-⟩;simp [go_sem,d,e,f,g,i] at aa;clear d e f g i;refine Wp.ret ?_;refine endK_tmp Tryz.results159 (by decide) ?_;rw [aa];exact ⟨-1,rfl,fun _ a ha => hq.choose_spec a (by rw [hkn,List.take_of_length_le (by have := hn.choose_spec;omega)];exact ha),fun q => absurd rfl q,xw⟩
theorem deleteJ_c (b n c : Nat) (al : List Int) (p : Int → Bool) (gf : Nat) (lb : Array Value) (w : World) (hx : RowJ w b al) (hn : al.length = n) (hnc : n ≤ c) (hl : n ≤ 1000000000)
  (heg : ∀ args w,(callFunc gf args).run Tryz.prog w = .ok (.enter gf args) w)
  (hp : ∀ a ∈ al,∀ W,Chg [b] w W → CallsV Tryz.prog gf (#[.int .i64 a] ++ lb) W fun v W' => v = .bool (p a) ∧ Ext W W') :
  CallsV Tryz.prog 89 #[.slice (some ⟨b,0,none⟩) n c,.func (.func gf) #[] lb] w fun v w' =>
   (v = .slice (some ⟨b,0,none⟩) (filI p al).length c ∧ ∀ i,i < (filI p al).length → w'.cell? ⟨b,i,none⟩ = some (.int .i64 (gI (filI p al) i))) ∧ Chg [b] w w' := by
 refine Wp.fn Tryz.func89 rfl Tryz.ntmps89 (by simp) ?_;have xw := Ext.refl w;refine Wp.keep [0,1] ?_;rintro r1 ⟨o,O,-⟩;simp [go_sem] at o O;have xq := Chg.refl [b] w;refine sRg fun K' gd hK => ?_;go_simp;apply hK;clear hK K' gd;refine Wp.keep [0,1] ?_;rintro r2 ⟨D,Y,-⟩;simp [go_sem,o,O] at D Y;clear o O;refine sRg fun K' gd hK => ?_;refine cu3 fun K1 hK1 => ?_;go_simp;refine Wcall (.inl rfl) (indexJ_c b n c al p gf lb _ (hx.ext xw) hn hl heg (fun a ha W hW => hp a ha W (xq.ext hW))) ?_;rintro v w2 ⟨r,rfl,hI1,hI2,hE⟩;go_simp;apply hK1;clear hK1 K1;replace xw := xw.trans hE;replace xq := Chg.ext xq hE;clear hE;go_simp;apply hK;clear hK K' gd;refine Wp.keep [0,1,5] ?_;rintro r4 ⟨f,g,h,-⟩;simp [go_sem,D,Y] at f g h;clear D Y
 by_cases hr : r = -1
 ·skip;have hall := filI_all (hI1 hr);have hxr := hx.ext xw;subst hr;refine Wp.seq ?_;refine sRg fun K' gd hK => ?_;go_simp;apply hK;clear hK K' gd;refine Wp.keep [0,1,5,12] ?_;rintro r5 ⟨H,ab,aq,J,-⟩;simp [go_sem,f,g,h] at H ab aq J;clear f g h;refine cTt ?_;refine sRg fun K' gd hK => ?_;go_simp;apply hK;clear hK K' gd;refine Wp.keep [4] ?_;rintro r6 ⟨aM,-⟩;simp [go_sem,H,ab,aq,J] at aM;clear H ab aq J;refine Wp.ret ?_;refine tRe ?_;refine endK_tmp Tryz.results89 (by decide) ?_;rw [aM];refine ⟨⟨by rw [hall,hn],?_⟩,xq⟩;rw [hall];exact hxr.c
 ·skip;obtain ⟨k,hk,rfl,hpk,hbef⟩ := hI2 hr;have hwk : IntKind.i64.wrap ((k : Int) + 1) = ((k + 1 : Nat) : Int) := by rw [IntWalk.i64_in _ (by omega)];omega
  obtain ⟨k5,hk5⟩ : ∃ k5 : Nat,∃ _u : Unit,k + 1 = k5 := ⟨_,(),rfl⟩;rw [hk5.choose_spec] at hwk;have hf0 : ∃ _u : Unit,filI p (al.take k5) = al.take k ∧ al.take k ++ [al[k]] ++ al.drop k5 = al := ⟨(),by rw [← hk5.choose_spec,filI_T hk hpk];exact filI_all hbef,by rw [← hk5.choose_spec,← take_snoc hk,List.take_append_drop]⟩;clear hI1 hI2;refine Wp.seq ?_;refine sRg fun K' gd hK => ?_;go_simp;apply hK;clear hK K' gd;refine Wp.keep [0,1,5,12] ?_;rintro r7 ⟨I,ac,ar,K,-⟩;simp [go_sem,f,g,h] at I ac ar K;clear f g h;refine cFf ?_;refine skN ?_;refine Wp.seq ?_;refine sRg fun K' gd hK => ?_;go_simp;apply hK;clear hK K' gd;refine Wp.keep [0,1,5,6] ?_;rintro r8 ⟨l,m,aP,aS,-⟩;simp [go_sem,I,ac,ar,K] at l m aP aS;clear I ac ar K;refine Wp.block ?_;refine Wp.loop (fun u ρ ds wu => AllEq [0,1] ρ r8 ∧ ds = [] ∧ (Chg [b] w2 wu) ∧ (∃ (j : Nat) (Fj mid R : List Int),ρ 5 = .int .i64 (Fj.length : Int) ∧ ρ 6 = .int .i64 (j : Int) ∧ RowJ wu b (Fj ++ mid ++ R) ∧ (∃ _u : Unit,j = k5 + u ∧ Fj = filI p (al.take j) ∧ R = al.drop j ∧ mid.length + Fj.length = j ∧ mid ≠ []))) (n - k5) ?_ ?_
  ·refine ⟨AllEq.refl _ _,rfl,Chg.refl _ _,?_⟩;exact ⟨k5,al.take k,[al[k]],al.drop k5,by rw [aP,List.length_take];congr 1;omega,by rw [aS],by rw [hf0.choose_spec.2];exact hx.ext xw,(),rfl,hf0.choose_spec.1.symm,rfl,by have := hk5.choose_spec;simp;omega,by simp⟩
  ·rintro u r9 _ wu hu ⟨hA,rfl,xo,⟨j,Fj,mid,R,e5,e6,hR,hI⟩⟩;obtain ⟨d,e,-⟩ := hA;rw [l] at d;rw [m] at e;clear xw;replace xq := Chg.more xq xo (by intro b hm;simp only [List.mem_cons,List.not_mem_nil,or_false] at hm;first | (left;omega) | (right;simp [hm];done) | (rcases hm with hm | hm <;> first | (left;omega) | (right;simp [hm])));have hjn : j ≤ n := by obtain ⟨h1,h2,h3,h4,h5⟩ := hI.choose_spec;have := hk5.choose_spec;omega
   have hFj : Fj.length < j := by obtain ⟨h1,h2,h3,h4,h5⟩ := hI.choose_spec;have := List.length_pos_iff.2 h5;omega
   by_cases hju : (j : Int) < (n : Int)
   ·skip;obtain ⟨x,R2,hxR,hxe⟩ : ∃ x R2,R = x :: R2 ∧ ∃ _u : Unit,al[j]? = some x ∧ R2 = al.drop (j + 1) := by obtain ⟨h1,h2,h3,h4,h5⟩ := hI.choose_spec;exact ⟨al[j]'(by omega),al.drop (j + 1),h3.trans (drop_cons (by omega)),(),List.getElem?_eq_getElem _,rfl⟩
    subst hxR;obtain ⟨m0,mt,hm0⟩ : ∃ m0 mt,mid = m0 :: mt := by obtain ⟨h1,h2,h3,h4,h5⟩ := hI.choose_spec;exact List.exists_cons_of_ne_nil h5
    subst hm0;have hml : ∃ _u : Unit,(Fj ++ m0 :: mt).length = j := ⟨(),by obtain ⟨h1,h2,h3,h4,h5⟩ := hI.choose_spec;rw [List.length_append];omega⟩;have hcl : j < (Fj ++ m0 :: mt ++ x :: R2).length := by have := hml.choose_spec;rw [List.length_append];simp at this ⊢;omega
    have hcx : ∃ _u : Unit,gI (Fj ++ m0 :: mt ++ x :: R2) j = x := ⟨(),by rw [gI_lt hcl,List.getElem_append_right (by have := hml.choose_spec;omega)];simp [hml.choose_spec]⟩;have y0 := hR.c j hcl;rw [hcx.choose_spec] at y0;have hxm : x ∈ al := List.mem_of_getElem? hxe.choose_spec.1;have hjp : j < al.length := by omega
    have hxg : ∃ _u : Unit,al[j] = x := ⟨(),by have := hxe.choose_spec.1;rw [List.getElem?_eq_getElem hjp] at this;injection this⟩
    by_cases hq : p x = true
    ·skip;refine Wp.seq ?_;refine sRg fun K' gd hK => ?_;go_simp;apply hK;clear hK K' gd;refine Wp.keep [0,1,5,6,19] ?_;rintro r10 ⟨s,P,af,au,L,-⟩;simp [go_sem,d,e,e5,e6] at s P af au L;clear d e e5 e6;refine cTt ?_;refine skN ?_;refine sBk ?_;refine sRg fun K' gd hK => ?_;go_simp;apply hK;clear hK K' gd;refine Wp.keep [0,1,5,6,7] ?_;rintro r11 ⟨t,Q,ag,av,aD,-⟩;simp [go_sem,s,P,af,au,L] at t Q ag av aD;clear s P af au L;refine sRg fun K' gd hK => ?_;refine cu3 fun K1 hK1 => ?_;go_simp;refine Wcall (.inl rfl) (hp x hxm _ xq) ?_;rintro v w3 ⟨rfl,hE⟩;go_simp;apply hK1;clear hK1 K1;replace hR := hR.ext hE;replace xq := Chg.ext xq hE;replace xo := Chg.ext xo hE;clear hE;go_simp;apply hK;clear hK K' gd;refine Wp.keep [0,1,5,6,7,29] ?_;rintro r13 ⟨y,S,ah,aw,aE,ad,-⟩;simp [go_sem,t,Q,ag,av,aD] at y S ah aw aE ad
     clear t Q ag av aD;refine cFf ?_;refine Wp.skip ?_;refine bNo ?_;refine tNo ?_;refine lRg fun K' gd hK => ?_;go_simp;apply hK;clear hK K' gd;refine Ends.keep [0,1,5,6] ?_;rintro r14 ⟨aH,aJ,aN,aQ,-⟩;simp [go_sem,y,S,ah,aw,aE,ad] at aH aJ aN aQ;clear y S ah aw aE ad;refine Ends.mk ?_;refine thenK_normal ⟨by omega,⟨by rw [aH,l],by rw [aJ,m],trivial⟩,rfl,xo,?_⟩;exact ⟨j + 1,Fj,(m0 :: mt) ++ [x],R2,by rw [aN],by rw [aQ,IntWalk.i64_in _ (by omega)];rfl,by simpa using hR,(),by have := hI.choose_spec.1;omega,by rw [filI_T hjp (by rw [hxg.choose_spec];exact hq)];exact hI.choose_spec.2.1,hxe.choose_spec.2,by have := hI.choose_spec.2.2.2.1;rw [List.length_append];simp;simp at this;omega,by simp⟩
    ·skip;refine Wp.seq ?_;refine sRg fun K' gd hK => ?_;go_simp;apply hK;clear hK K' gd;refine Wp.keep [0,1,5,6,19] ?_;rintro r15 ⟨z,T,ai,ax,M,-⟩;simp [go_sem,d,e,e5,e6] at z T ai ax M;clear d e e5 e6;refine cTt ?_;refine skN ?_;refine sBk ?_;refine sRg fun K' gd hK => ?_;go_simp;apply hK;clear hK K' gd;refine Wp.keep [0,1,5,6,7] ?_;rintro r16 ⟨A,U,aj,ay,aF,-⟩;simp [go_sem,z,T,ai,ax,M] at A U aj ay aF;clear z T ai ax M;refine sRg fun K' gd hK => ?_;refine cu3 fun K1 hK1 => ?_;go_simp;refine Wcall (.inl rfl) (hp x hxm _ xq) ?_;rintro v w3 ⟨rfl,hE⟩;go_simp;apply hK1;clear hK1 K1;replace hR := hR.ext hE;replace xq := Chg.ext xq hE;replace xo := Chg.ext xo hE;clear hE;go_simp;apply hK;clear hK K' gd;refine Wp.keep [0,1,5,6,7,29] ?_;rintro r18 ⟨B,V,ak,az,aG,ae,-⟩;simp [go_sem,A,U,aj,ay,aF] at B V ak az aG ae
     clear A U aj ay aF;refine cTt ?_;have hFl : Fj.length < (Fj ++ m0 :: mt ++ x :: R2).length := by rw [List.length_append,List.length_append];simp;omega
     have hFn : (Fj.length : Int) < (n : Int) := by omega
     have hwF : IntKind.i64.wrap ((Fj.length : Int) + 1) = ((Fj.length + 1 : Nat) : Int) := by rw [IntWalk.i64_in _ (by omega)];omega
     have fb := hR.fz;have z0 := hR.c Fj.length hFl;refine sRg fun K' gd hK => ?_;refine cu5 fun K1 hK1 => ?_;go_simp;apply hK1;clear hK1 K1;refine Wops.absS (b := b) (i := Fj.length) [_] (some1 z0) fun P9 hP9 => ?_;replace xq := Put.more xq hP9 (.inr (by simp));replace xo := Put.more xo hP9 (.inr (by simp));try simp only [Wops_nil,updO_some,updO_none]
     apply hK;clear hK K' gd;refine Wp.keep [0,1,5,6] ?_;rintro r19 ⟨C,X,am,aA,-⟩;simp [go_sem,B,V,ak,az,aG,ae] at C X am aA;clear B V ak az aG ae;have hR2 := hR.store hP9 hFl;rw [set_mid] at hR2;refine lRg fun K' gd hK => ?_;go_simp;apply hK;clear hK K' gd;refine Ends.keep [0,1,5,6] ?_;rintro r20 ⟨E,Z,an,aB,-⟩;simp [go_sem,C,X,am,aA] at E Z an aB;clear C X am aA;refine Ends.mk ?_;refine bNo ?_;refine tNo ?_;refine lRg fun K' gd hK => ?_;go_simp;apply hK;clear hK K' gd;refine Ends.keep [0,1,5,6] ?_;rintro r21 ⟨aI,aK,aO,aR,-⟩;simp [go_sem,E,Z,an,aB] at aI aK aO aR;clear E Z an aB;refine Ends.mk ?_;refine thenK_normal ⟨by omega,⟨by rw [aI,l],by rw [aK,m],trivial⟩,rfl,xo,?_⟩;exact ⟨j + 1,Fj ++ [x],mt ++ [x],R2,by rw [aO];congr 1;simp,by rw [aR,IntWalk.i64_in _ (by omega)];rfl,hR2,(),by have := hI.choose_spec.1;omega,by rw [filI_F hjp (by rw [hxg.choose_spec];simpa using hq),hxg.choose_spec,← hI.choose_spec.2.1],hxe.choose_spec.2,by have := hI.choose_spec.2.2.2.1;simp at this ⊢;omega,by simp⟩
   ·skip;have hje : j = n := by omega
    have hfin : ∃ _u : Unit,Fj = filI p al ∧ (Fj ++ mid ++ R).length = n := ⟨(),by obtain ⟨h1,h2,h3,h4,h5⟩ := hI.choose_spec;exact ⟨by rw [h2,List.take_of_length_le (by omega)],by rw [List.length_append,List.length_append,h3,List.length_drop];omega⟩⟩;have hFc : (Fj.length : Int) ≤ (n : Int) := by omega
    have hcF : ¬ c = Fj.length := by omega
    have hFc2 : (Fj.length : Int) ≤ (c : Int) := by omega
    refine Wp.seq ?_;refine sRg fun K' gd hK => ?_;go_simp;apply hK;clear hK K' gd;refine Wp.keep [0,1,5,6,19] ?_;rintro r22 ⟨F,aa,ao,aC,N,-⟩;simp [go_sem,d,e,e5,e6] at F aa ao aC N;clear d e e5 e6;refine cFf ?_;refine Wp.exit ?_;refine tEx ?_;refine tEx ?_;refine blockK_here ?_;refine tNo ?_;refine sRg fun K' gd hK => ?_;refine cu4 fun K1 hK1 => ?_;refine Wops.cut 3 fun K2 hK2 => ?_;simp only [tSC,tZ];go_simp;refine hK2 _ _ ?_;clear hK2 K2;simp only [dSC,dZ];obtain hrun := run_clearI wu 22 b Fj.length (n - Fj.length) (c - Fj.length) (by omega) (hR.someZ (by rw [hfin.choose_spec.2];omega)) (fun j _ => hR.fz _);refine Wops.law rfl (exec_clear rfl hrun (by go_simp)) ?_;simp only [updO_some,Wops_nil];apply hK1;clear hK1 K1;refine Wops.absS (b := b) (i := Fj.length) (zerosI (n - Fj.length)) (by unfold zerosI;rw [List.length_replicate];exact hR.someZ (by rw [hfin.choose_spec.2];omega)) fun Pc hPc => ?_;replace xq := Put.more xq hPc (.inr (by simp));replace xo := Put.more xo hPc (.inr (by simp));try simp only [Wops_nil,updO_some,updO_none]
    apply hK;clear hK K' gd;refine Wp.keep [0,5] ?_;rintro r23 ⟨G,ap,-⟩;simp [go_sem,F,aa,ao,aC,N] at G ap;clear F aa ao aC N;refine sRg fun K' gd hK => ?_;go_simp;apply hK;clear hK K' gd;refine Wp.keep [4] ?_;rintro r24 ⟨aL,-⟩;simp [go_sem,G,ap] at aL;clear G ap;refine Wp.ret ?_;refine endK_tmp Tryz.results89 (by decide) ?_;rw [aL];refine ⟨⟨by rw [← hfin.choose_spec.1],?_⟩,xq⟩;rw [← hfin.choose_spec.1];intro i hi;rw [hPc.old i (.inl (by omega))];have q := hR.c i (by rw [List.append_assoc,List.length_append];omega);rw [gI_lt (by rw [List.append_assoc,List.length_append];omega)] at q;rw [gI_lt hi,q]
    congr 2
    simp only [List.append_assoc];rw [List.getElem_append_left hi]
theorem index0_c (A : Option Addr) (c gf : Nat) (lb : Array Value) (w : World) :
  CallsV Tryz.prog 159 #[.slice A 0 c,.func (.func gf) #[] lb] w fun v w' => v = .int .i64 (-1) ∧ Ext w w' := by
 refine Wp.fn Tryz.func159 rfl Tryz.ntmps159 (by simp) ?_;have xw := Ext.refl w;refine Wp.keep [0,1] ?_;rintro r1 ⟨a,f,-⟩;simp [go_sem] at a f;refine sRg fun K' gd hK => ?_;go_simp;apply hK;clear hK K' gd;refine Wp.keep [0,1] ?_;rintro r2 ⟨b,g,-⟩;simp [go_sem,a,f] at b g;clear a f;refine Wp.seq ?_;refine sRg fun K' gd hK => ?_;go_simp;apply hK;clear hK K' gd;refine Wp.keep [0,1,7,8] ?_;rintro r3 ⟨o,p,r,s,-⟩;simp [go_sem,b,g] at o p r s;clear b g;refine Wp.block ?_;refine Wp.loop (fun k ρ ds wk => AllEq [0,1,7] ρ r3 ∧ ds = [] ∧ (Ext w wk) ∧ (ρ 8 = .int .i64 0)) (0) ?_ ?_
 ·refine ⟨AllEq.refl _ _,rfl,Ext.refl _,?_⟩;exact s
 ·rintro k r4 _ wk hk ⟨hA,rfl,xl1,e8⟩;obtain ⟨d,h,j,-⟩ := hA;rw [o] at d;rw [p] at h;rw [r] at j;replace xw := Ext.trans xw xl1;refine sRg fun K' gd hK => ?_;go_simp;apply hK;clear hK K' gd;refine Wp.keep [0,1,7,8,9] ?_;rintro r5 ⟨e,i,l,m,n,-⟩;simp [go_sem,d,h,j,e8] at e i l m n;clear d h j e8;refine Wp.seq ?_;refine cFf ?_;refine Wp.exit ?_;refine tEx ?_;refine tEx ?_;refine blockK_here ?_;refine tNo ?_;refine sRg fun K' gd hK => ?_;go_simp;apply hK;clear hK K' gd;refine Wp.keep [4] ?_;rintro r6 ⟨q,-⟩;simp [go_sem,e,i,l,m,n] at q;clear e i l m n;refine Wp.ret ?_;refine endK_tmp Tryz.results159 (by decide) ?_;rw [q];exact ⟨rfl,xw⟩
theorem delete0_c (A : Option Addr) (c gf : Nat) (lb : Array Value) (w : World) :
  CallsV Tryz.prog 89 #[.slice A 0 c,.func (.func gf) #[] lb] w fun v w' => v = .slice A 0 c ∧ Ext w w' := by
 refine Wp.fn Tryz.func89 rfl Tryz.ntmps89 (by simp) ?_;have xw := Ext.refl w;refine Wp.keep [0,1] ?_;rintro r1 ⟨a,g,-⟩;simp [go_sem] at a g;refine sRg fun K' gd hK => ?_;go_simp;apply hK;clear hK K' gd;refine Wp.keep [0,1] ?_;rintro r2 ⟨b,h,-⟩;simp [go_sem,a,g] at b h;clear a g;refine sRg fun K' gd hK => ?_;refine cu3 fun K1 hK1 => ?_;go_simp;refine Wcall (.inl rfl) (index0_c A c gf lb _) ?_;rintro v w2 ⟨rfl,hE⟩;go_simp;apply hK1;clear hK1 K1;replace xw := xw.trans hE;clear hE;go_simp;apply hK;clear hK K' gd;refine Wp.keep [0,1,5] ?_;rintro r4 ⟨d,i,k,-⟩;simp [go_sem,b,h] at d i k;clear b h;refine Wp.seq ?_;refine sRg fun K' gd hK => ?_;go_simp;apply hK;clear hK K' gd;refine Wp.keep [0,1,5,12] ?_;rintro r5 ⟨e,j,l,f,-⟩;simp [go_sem,d,i,k] at e j l f;clear d i k;refine cTt ?_;refine sRg fun K' gd hK => ?_;go_simp;apply hK;clear hK K' gd;refine Wp.keep [4] fun r6 hkeep => ?_
 obtain ⟨m,-⟩ := hkeep;simp [go_sem,e,j,l,f] at m;clear e j l f;refine Wp.ret ?_;refine tRe ?_;refine endK_tmp Tryz.results89 (by decide) ?_;rw [m];exact ⟨rfl,xw⟩
theorem deleteO2_c (v : Value) (Z : List Int) (p : Int → Bool) (gf base g : Nat) (lb : Array Value) (w : World) (hO : OwnI w base v Z) (hg : ∀ k,v.ownBlock = some k → k = g) (hl : Z.length ≤ 1000000000)
  (heg : ∀ args w,(callFunc gf args).run Tryz.prog w = .ok (.enter gf args) w)
  (hp : ∀ a ∈ Z,∀ W,Chg [g] w W → CallsV Tryz.prog gf (#[.int .i64 a] ++ lb) W fun v W' => v = .bool (p a) ∧ Ext W W') :
  CallsV Tryz.prog 89 #[v,.func (.func gf) #[] lb] w fun v' w' => (IntsB w' base v' (filI p Z) ∧ v'.ownBlock = v.ownBlock) ∧ Chg [g] w w' := by
 by_cases hne : Z = []
 ·subst hne;obtain ⟨A,c,rfl⟩ := OwnI.slice hO;exact (delete0_c A c gf lb w).mono fun v' w' ⟨h,hE⟩ => ⟨⟨by rw [h];exact ⟨A,c,rfl,fun h => absurd rfl h,Nat.zero_le _⟩,by rw [h];rfl⟩,(Chg.refl [g] w).ext hE⟩
 ·obtain ⟨b,c,rfl,hb,hc,hR⟩ := hO.rowJ hne;obtain rfl : b = g := hg b rfl
  exact (deleteJ_c b Z.length c Z p gf lb w hR rfl hc hl heg hp).mono fun v' w' ⟨⟨h1,h2⟩,h3⟩ => ⟨⟨by
   rw [h1]
   exact ⟨_,c,rfl,fun hne => ⟨b,0,rfl,hb,Nat.lt_of_lt_of_le (cell_lt (hR.c 0 (List.length_pos_iff.2 hR.ne))) h3.size,fun k hk => by rw [Nat.zero_add,← gI_lt hk];exact h2 k hk⟩,Nat.le_trans (List.length_filter_le _ _) hc⟩,by rw [h1];rfl⟩,h3⟩
def openT (t : Tr) (d : Int) : Tr := ⟨t.n,filI (fun x => decide (x = d)) t.cl,t.fl⟩
theorem PlanT.opened {t : Tr} {n : Nat} (h : PlanT t n) (d : Int) : PlanT (openT t d) n :=
 ⟨h.tn,h.n1,h.n2,by have := List.length_filter_le (fun a => !(fun x => decide (x = d)) a) t.cl;have := h.cl;show (List.filter _ t.cl).length ≤ _;omega,h.fl,h.sp,h.mr⟩
def widerT (t : Tr) (i : Nat) (lo hi : Int) : Tr := ⟨t.n,t.cl,match t.fl[i]? with | some f => t.fl.set i ⟨f.id,lo,hi,f.m⟩ | none => t.fl⟩
theorem widerT_at {t : Tr} {i : Nat} {lo hi : Int} (h : i < t.fl.length) : (widerT t i lo hi).fl = t.fl.set i ⟨t.fl[i].id,lo,hi,t.fl[i].m⟩ := by unfold widerT;rw [List.getElem?_eq_getElem h]
theorem PlanT.wider {t : Tr} {n i : Nat} {lo hi : Int} (h : PlanT t n) (hi' : i < t.fl.length) (hs : 0 ≤ lo ∧ hi < n) : PlanT (widerT t i lo hi) n := by
 have e := widerT_at (lo := lo) (hi := hi) hi';refine ⟨h.tn,h.n1,h.n2,h.cl,by rw [e,List.length_set];exact h.fl,?_,?_⟩
 ·rw [e];intro k hk;rw [List.length_set] at hk;rw [List.getElem_set]
  split
  ·exact hs
  ·exact h.sp k hk
 ·rw [e];intro k hk;rw [List.length_set] at hk;rw [List.getElem_set]
  split
  ·exact h.mr i hi'
  ·exact h.mr k hk
section
variable {W V : World} {b : Nat} {l : List Fl}
theorem RowG.ext (h : RowG W b l) (hE : Ext W V) : RowG V b l := ⟨fun i hi r u hu => hE.cell (h.c i hi r u hu),hE.fz (h.c 0 (List.length_pos_iff.2 h.ne) 0 _ rfl) h.fz,h.ne⟩
theorem RowG.put {k i : Nat} {vs : List Value} (h : RowG W b l) (p : Put W V k i vs) (hk : b ≠ k) : RowG V b l := ⟨fun i hi r u hu => Put.cell p (h.c i hi r u hu) hk,fun j => (p.fz _).trans (h.fz j),h.ne⟩
theorem RowG.days {i : Nat} {lo hi : Int} (h : RowG W b l) (hi' : i < l.length) (p : Put W V b (i * 4 + 1) [.int .i64 lo,.int .i64 hi]) : RowG V b (l.set i ⟨l[i].id,lo,hi,l[i].m⟩) := by
 refine ⟨fun k hk r u hu => ?_,fun j => (p.fz _).trans (h.fz j),fun e => by have := congrArg List.length e;simp at this;exact h.ne this⟩;rw [List.length_set] at hk;rw [List.getElem_set] at hu
 by_cases e : i = k
 ·subst e;rw [if_pos rfl] at hu
  match r,hu with
  | 0,hu => rw [p.old _ (by simp)];exact h.c i hi' 0 u hu
  | 1,hu => exact p.new 0 u (by injection hu with hu;subst hu;rfl)
  | 2,hu => exact p.new 1 u (by injection hu with hu;subst hu;rfl)
  | 3,hu => rw [p.old _ (by simp)];exact h.c i hi' 3 u hu
  | r + 4,hu => exact absurd hu (by simp [encF])
 ·rw [if_neg e] at hu;have hr : r < 4 := (List.getElem?_eq_some_iff.1 hu).1;rw [p.old _ (by simp;omega)];exact h.c k hk r u hu
end
def ListAt (fl : List Fl) (ids : List Int) (k : Nat) : Prop := 0 ≤ posF fl (gI ids k) ∧ (0 < k → gI ids (k - 1) < gI ids k)
instance (fl : List Fl) (ids : List Int) (k : Nat) : Decidable (ListAt fl ids k) := by unfold ListAt;infer_instance
def ListOk (fl : List Fl) (ids : List Int) : Prop := ∀ k,k < ids.length → ListAt fl ids k
instance (fl : List Fl) (ids : List Int) : Decidable (ListOk fl ids) := by unfold ListOk;infer_instance
theorem IntsV.cellAt {w : World} {B b o n c : Nat} {xs : List Int} (h : IntsV w B (.slice (some ⟨b,o,none⟩) n c) xs) {k : Nat} (hk : k < xs.length) : w.cell? ⟨b,o + k,none⟩ = some (.int .i64 (gI xs k)) := by
 obtain ⟨b',o',c',e,-,hc⟩ := h.get hk
 injection e with e1
 injection e1 with e1
 injection e1 with e1 e2
 subst e1;subst e2;exact hc k hk
theorem listed_c (t : Tr) (ids : List Int) (v iv : Value) (w : World) (hV : TourV w w.heap.size v t) (hI : IntsV w w.heap.size iv ids) (hf : FitT t) (hl : ids.length ≤ 1000) :
  CallsV Tryz.prog 160 #[v,iv] w fun v' w' => (∃ lv,v' = .tuple #[lv,.bool (decide (ListOk t.fl ids))] ∧ IntsB w' w.heap.size lv (if ListOk t.fl ids then ids.map (posF t.fl) else [])) ∧ Ext w w' := by
 obtain ⟨A,c,A2,c2,rfl,hI1,hF⟩ := hV.open';obtain ⟨A1,c1,rfl,-,-⟩ := id hI;have hTS : TourS w w.heap.size (.agg #[.int .i64 t.n,.slice A t.cl.length c,.slice A2 t.fl.length c2]) t := ⟨hV⟩;have hIS : IntsS w w.heap.size (.slice A1 ids.length c1) ids := ⟨hI⟩;clear hV hI hI1 hF;have hff := hf.fl;refine Wp.fn Tryz.func160 rfl Tryz.ntmps160 (by simp) ?_;have xw := Ext.refl w;refine Wp.keep [0,1] ?_;rintro r1 ⟨S,ar,-⟩;simp [go_sem] at S ar;refine sRg fun K' gd hK => ?_;refine cu1 fun K1 hK1 => ?_;go_simp;apply hK1;clear hK1 K1;refine Wops.absA fun z n2 y => ?_;obtain ⟨q2,y,s2,J,f2,r2⟩ := y;try simp only [q2] at J f2 r2 ⊢
 replace hTS := hTS.ext y;replace hIS := hIS.ext y;replace xw := xw.trans y;have K := J 0 _ rfl;have L := J 1 _ rfl;have M := J 2 _ rfl;clear J y;clear r2;go_simp;apply hK;clear hK K' gd;refine Wp.keep [1,2] ?_;rintro r2 ⟨az,aJ,-⟩;simp [go_sem,S,ar] at az aJ;clear S ar;have hTS_xa := hTS;have hIS_xa := hIS;have xw_xa := xw;have c2_0_xa := K;have c2_1_xa := L;have c2_2_xa := M;have xa := Ext.refl z;refine sRg fun K' gd hK => ?_;go_simp;apply hK;clear hK K' gd;refine Wp.keep [1,2,6] ?_;rintro r3 ⟨aB,aL,aY,-⟩;simp [go_sem,az,aJ] at aB aL aY;clear az aJ;refine Wp.seq ?_;obtain ⟨B0,hB0,hB1,hB2⟩ : ∃ B,w.heap.size ≤ B ∧ B ≤ z.heap.size ∧ z.heap.size ≤ B := ⟨z.heap.size,by omega,Nat.le_refl _,Nat.le_refl _⟩;refine sRg fun K' gd hK => ?_;go_simp;apply hK;clear hK K' gd;refine Wp.keep [1,2,6,10,11,12] ?_;rintro r4 ⟨P,Q,br,N,O,be,-⟩;simp [go_sem,aB,aL,aY] at P Q br N O be;clear aB aL aY;refine Wp.block ?_;refine Wp.loop (fun k ρ ds wk => AllEq [1,2,10,11] ρ r4 ∧ ds = [] ∧ (Ext z wk) ∧ (∃ v Z,ρ 12 = .int .i64 (k : Int) ∧ ρ 6 = v ∧ OwnI wk B0 v Z ∧ (∃ _u : Unit,Z = (ids.take k).map (posF t.fl) ∧ Z.length = k ∧ ∀ j,j < k → ListAt t.fl ids j))) (ids.length) ?_ ?_
 ·refine ⟨AllEq.refl _ _,rfl,xa,?_⟩;exact ⟨_,[],by rw [be];rfl,br,World.ownsRow_nil _ _ _ _,(),rfl,rfl,fun j hj => absurd hj (Nat.not_lt_zero _)⟩
 ·rintro k r5 _ wk hk ⟨hA,rfl,xo,⟨v6,Z,e12,e6,hO,hq⟩⟩;obtain ⟨aC,aM,aa,ai,-⟩ := hA;rw [P] at aC;rw [Q] at aM;rw [N] at aa;rw [O] at ai;have zxo := Below.size xo;have hTS := hTS_xa;have hIS := hIS_xa;have xw := xw_xa;have K := c2_0_xa;have L := c2_1_xa;have M := c2_2_xa;replace hTS := hTS.ext xo;replace hIS := hIS.ext xo;replace xw := Ext.trans xw xo;replace K := Ext.cell xo K;replace L := Ext.cell xo L;replace M := Ext.cell xo M;obtain ⟨A6,k6,rfl⟩ := OwnI.slice hO;refine sRg fun K' gd hK => ?_;go_simp;apply hK;clear hK K' gd;refine Wp.keep [1,2,6,10,11,12,13] ?_;rintro r6 ⟨G,H,I,C,D,E,F,-⟩;simp [go_sem,aC,aM,e6,aa,ai,e12] at G H I C D E F;clear aC aM e6 aa ai e12;refine Wp.seq ?_
  by_cases hk : k < ids.length
  ·refine cTt ?_;have hkl : (k : Int) < (ids.length : Int) := by omega
   obtain ⟨b,o,cc,ev,hb,hcc⟩ := hIS.v.get hk
   injection ev with ev1 _ ev2
   subst ev1;subst ev2;have x1 := hcc k hk;refine skN ?_;refine sBk ?_;refine sRg fun K' gd hK => ?_;go_simp;apply hK;clear hK K' gd;refine Wp.keep [1,2,6,7,8,10,11,12] ?_;rintro r7 ⟨aD,aN,aZ,a0,a1,ab,aj,aq,-⟩;simp [go_sem,G,H,I,C,D,E,F] at aD aN aZ a0 a1 ab aj aq;clear G H I C D E F;refine sRg fun K' gd hK => ?_;refine cu3 fun K1 hK1 => ?_;go_simp;refine Wcall (.inl rfl) (find_c t (gI ids k) _ _ (hTS.v.more (Below.size (XE))) (by omega)) ?_;rintro v w3 ⟨⟨r,rfl,hr⟩,hE⟩;replace hr : ∃ _u : Unit,_ := ⟨(),hr.eq⟩;go_simp;apply hK1;clear hK1 K1;have z8 := Below.size hE;replace hIS := hIS.ext hE;replace hO := hO.ext hE;replace xw := xw.trans hE;replace xo := xo.trans hE;replace x1 := hE.cell x1;clear hE;go_simp;apply hK;clear hK K' gd;refine Wp.keep [1,2,6,7,8,9,10,11,12] ?_;rintro r9 ⟨g,l,m,p,q,s,a,d,f,-⟩;simp [go_sem,aD,aN,aZ,a0,a1,ab,aj,aq] at g l m p q s a d f;clear aD aN aZ a0 a1 ab aj aq
   by_cases h1 : r < 0
   ·skip;refine Wp.seq ?_;refine sRh fun K' gd hK hg => ?_;have g2 : gd 2 = some 22 := hg 2;have g5 : gd 5 = some 25 := hg 5;clear hg;go_simp;apply hK;clear hK K' gd g2 g5;refine Wp.keep [1,2,6,9,10,11,12,34] ?_;rintro r10 ⟨au,aE,aS,a2,T,ac,ak,aO,-⟩;simp [go_sem,g,l,m,p,q,s,a,d,f] at au aE aS a2 T ac ak aO;clear g l m p q s a d f;refine cTt ?_;have hno : ∃ _u : Unit,¬ ListOk t.fl ids := ⟨(),fun h => by have := (h k hk).1;have := hr.choose_spec;omega⟩;refine sRg fun K' gd hK => ?_;go_simp;apply hK;clear hK K' gd;refine Wp.keep [4,5] ?_;rintro r11 ⟨bj,bm,-⟩;simp [go_sem,au,aE,aS,a2,T,ac,ak,aO] at bj bm;clear au aE aS a2 T ac ak aO;refine Wp.ret ?_;refine tRe ?_;refine bRe ?_;refine tRe ?_;refine tRe ?_;refine bRe ?_;refine tRe ?_;refine endK_tmp2 Tryz.results160 (by decide) (by decide) ?_;rw [bj,bm];exact ⟨⟨_,by rw [decide_eq_false hno.choose_spec],by rw [if_neg hno.choose_spec];exact IntsB.nil _ _⟩,xw⟩
   ·skip
    by_cases h3 : 0 < k
    ·skip;obtain ⟨j,hj⟩ : ∃ j,∃ _u : Unit,k = j + 1 := ⟨k - 1,(),by omega⟩;have hj2 : ∃ _u : Unit,j < ids.length := ⟨(),by have := hj.choose_spec;omega⟩;have x2 := hIS.v.cellAt hj2.choose_spec;have hk0 : (0 : Int) < (k : Int) := by omega
     have hkw : IntKind.i64.wrap ((k : Int) - 1) = (j : Int) := by have := hj.choose_spec;rw [IntWalk.i64_in _ (by omega)];omega
     have hjl : (j : Int) < (ids.length : Int) := by have := hj2.choose_spec;omega
     by_cases h4 : gI ids k ≤ gI ids j
     ·skip;refine Wp.seq ?_;refine sRh fun K' gd hK hg => ?_;have g2 : gd 2 = some 22 := hg 2;have g5 : gd 5 = some 25 := hg 5;clear hg;go_simp;apply hK;clear hK K' gd g2 g5;refine Wp.keep [1,2,6,9,10,11,12,34] ?_;rintro r12 ⟨av,aF,aT,a3,U,ad,al,aP,-⟩;simp [go_sem,g,l,m,p,q,s,a,d,f] at av aF aT a3 U ad al aP;clear g l m p q s a d f;refine cTt ?_;have hno : ∃ _u : Unit,¬ ListOk t.fl ids := ⟨(),fun h => by have := (h k hk).2 h3;rw [show k - 1 = j by have := hj.choose_spec;omega] at this;omega⟩;refine sRg fun K' gd hK => ?_;go_simp;apply hK;clear hK K' gd;refine Wp.keep [4,5] ?_;rintro r13 ⟨bk,bn,-⟩;simp [go_sem,av,aF,aT,a3,U,ad,al,aP] at bk bn;clear av aF aT a3 U ad al aP;refine Wp.ret ?_;refine tRe ?_;refine bRe ?_;refine tRe ?_;refine tRe ?_;refine bRe ?_;refine tRe ?_;refine endK_tmp2 Tryz.results160 (by decide) (by decide) ?_;rw [bk,bn];exact ⟨⟨_,by rw [decide_eq_false hno.choose_spec],by rw [if_neg hno.choose_spec];exact IntsB.nil _ _⟩,xw⟩
     ·skip;refine Wp.seq ?_;refine sRh fun K' gd hK hg => ?_;have g2 : gd 2 = some 22 := hg 2;have g5 : gd 5 = some 25 := hg 5;clear hg;go_simp;apply hK;clear hK K' gd g2 g5;refine Wp.keep [1,2,6,9,10,11,12,34] ?_;rintro r14 ⟨aw,aG,aU,a4,V,ae,am,aQ,-⟩;simp [go_sem,g,l,m,p,q,s,a,d,f] at aw aG aU a4 V ae am aQ;clear g l m p q s a d f;refine cFf ?_;refine skN ?_;refine lRg fun K' gd hK => ?_;refine cu3 fun K1 hK1 => ?_;go_simp;apply hK1;clear hK1 K1;refine Wops.absA fun bs n37 u => ?_;obtain ⟨q37,u,s37,a6,f37,r37⟩ := u;try simp only [q37] at a6 f37 r37 ⊢
      replace hO := hO.ext u;replace xw := xw.trans u;replace xo := xo.trans u;replace x1 := u.cell x1;clear u f37;have R := a6 0 _ rfl;clear a6;refine cu1 fun K1 hK1 => ?_;obtain ⟨v',w7,hrun,hO2,hgr,-⟩ := app_run ints_T hO ⟨n37,0,none⟩ 1 1 [.int .i64 r] 22 rfl (news_one R) (one_one rfl) (by omega) (by omega);refine Wops.law rfl (exec_append2 rfl hrun (by go_simp) (by go_simp)) ?_;simp only [updO_some,Wops_nil];apply hK1;clear hK1 K1;replace xw := Chg.to xw (grown_chg hgr) (lt_ge (World.ownsRow.lt hO) (by omega));replace xo := Chg.to xo (grown_chg hgr) (lt_ge (World.ownsRow.lt hO) (by omega));have hO3 : OwnI w7 B0 v' (Z ++ [r]) := by unfold OwnI;rw [encI_add,List.length_append];exact hO2
      clear hO2;go_simp;apply hK;clear hK K' gd;refine Ends.keep [1,2,6,10,11,12] ?_;rintro r16 ⟨ax,aH,aV,W,af,an,-⟩;simp [go_sem,aw,aG,aU,a4,V,ae,am,aQ] at ax aH aV W af an;clear aw aG aU a4 V ae am aQ;refine Ends.mk ?_;refine bNo ?_;refine tNo ?_;refine lRg fun K' gd hK => ?_;go_simp;apply hK;clear hK K' gd;refine Ends.keep [1,2,6,10,11,12] ?_;rintro r17 ⟨bf,bh,bp,a8,ba,bc,-⟩;simp [go_sem,ax,aH,aV,W,af,an] at bf bh bp a8 ba bc;clear ax aH aV W af an;refine Ends.mk ?_;refine thenK_normal ⟨by omega,⟨by rw [bf,P],by rw [bh,Q],by rw [a8,N],by rw [ba,O],trivial⟩,rfl,xo,?_⟩;exact ⟨_,Z ++ [r],by rw [bc,IntWalk.i64_in _ (by omega)];rfl,bp,hO3,(),by rw [take_snoc hk,List.map_append,hq.choose_spec.1,hr.choose_spec,gI_lt hk];rfl,by rw [List.length_append,hq.choose_spec.2.1];rfl,fun i hi => by by_cases e : i = k;(subst e;exact ⟨by have := hr.choose_spec;omega,fun _ => by rw [show i - 1 = j by have := hj.choose_spec;omega];omega⟩);exact hq.choose_spec.2.2 i (by omega)⟩
    ·skip;have hk0 : ¬ (0 : Int) < (k : Int) := by omega
     clear hcc;refine Wp.seq ?_;refine sRh fun K' gd hK hg => ?_;have g2 : gd 2 = some 22 := hg 2;have g5 : gd 5 = some 25 := hg 5;clear hg;go_simp;apply hK;clear hK K' gd g2 g5;refine Wp.keep [1,2,6,9,10,11,12,34] ?_;rintro r18 ⟨ay,aI,aW,a5,X,ag,ao,aR,-⟩;simp [go_sem,g,l,m,p,q,s,a,d,f] at ay aI aW a5 X ag ao aR;clear g l m p q s a d f;refine cFf ?_;refine skN ?_;refine lRg fun K' gd hK => ?_;refine cu3 fun K1 hK1 => ?_;go_simp;apply hK1;clear hK1 K1;refine Wops.absA fun bt n37 x => ?_;obtain ⟨q37,x,s37,a7,f37,r37⟩ := x;try simp only [q37] at a7 f37 r37 ⊢
     replace hO := hO.ext x;replace xw := xw.trans x;replace xo := xo.trans x;replace x1 := x.cell x1;clear x f37;have R := a7 0 _ rfl;clear a7;refine cu1 fun K1 hK1 => ?_;obtain ⟨v',w7,hrun,hO2,hgr,-⟩ := app_run ints_T hO ⟨n37,0,none⟩ 1 1 [.int .i64 r] 22 rfl (news_one R) (one_one rfl) (by omega) (by omega);refine Wops.law rfl (exec_append2 rfl hrun (by go_simp) (by go_simp)) ?_;simp only [updO_some,Wops_nil];apply hK1;clear hK1 K1;replace xw := Chg.to xw (grown_chg hgr) (lt_ge (World.ownsRow.lt hO) (by omega));replace xo := Chg.to xo (grown_chg hgr) (lt_ge (World.ownsRow.lt hO) (by omega));have hO3 : OwnI w7 B0 v' (Z ++ [r]) := by unfold OwnI;rw [encI_add,List.length_append];exact hO2
     clear hO2;go_simp;apply hK;clear hK K' gd;refine Ends.keep [1,2,6,10,11,12] ?_;rintro r20 ⟨aA,aK,aX,Y,ah,ap,-⟩;simp [go_sem,ay,aI,aW,a5,X,ag,ao,aR] at aA aK aX Y ah ap;clear ay aI aW a5 X ag ao aR;refine Ends.mk ?_;refine bNo ?_;refine tNo ?_;refine lRg fun K' gd hK => ?_;go_simp;apply hK;clear hK K' gd;refine Ends.keep [1,2,6,10,11,12] ?_;rintro r21 ⟨bg,bi,bq,a9,bb,bd,-⟩;simp [go_sem,aA,aK,aX,Y,ah,ap] at bg bi bq a9 bb bd;clear aA aK aX Y ah ap;refine Ends.mk ?_;refine thenK_normal ⟨by omega,⟨by rw [bg,P],by rw [bi,Q],by rw [a9,N],by rw [bb,O],trivial⟩,rfl,xo,?_⟩;exact ⟨_,Z ++ [r],by rw [bd,IntWalk.i64_in _ (by omega)];rfl,bq,hO3,(),by rw [take_snoc hk,List.map_append,hq.choose_spec.1,hr.choose_spec,gI_lt hk];rfl,by rw [List.length_append,hq.choose_spec.2.1];rfl,fun i hi => by by_cases e : i = k;(subst e;exact ⟨by have := hr.choose_spec;omega,fun h => absurd h h3⟩);exact hq.choose_spec.2.2 i (by omega)⟩
  ·refine cFf ?_;have hkk : k = ids.length := by omega
   have hyes : ∃ _u : Unit,ListOk t.fl ids ∧ Z = ids.map (posF t.fl) := ⟨(),fun j hj => hq.choose_spec.2.2 j (by omega),by rw [hq.choose_spec.1,hkk,List.take_length]⟩;refine Wp.exit ?_;refine tEx ?_;refine tEx ?_;refine blockK_here ?_;refine tNo ?_;refine sRg fun K' gd hK => ?_;go_simp;apply hK;clear hK K' gd;refine Wp.keep [4,5] ?_;rintro r22 ⟨bl,bo,-⟩;simp [go_sem,G,H,I,C,D,E,F] at bl bo;clear G H I C D E F;refine Wp.ret ?_;refine endK_tmp2 Tryz.results160 (by decide) (by decide) ?_;rw [bl,bo];exact ⟨⟨_,by rw [decide_eq_true hyes.choose_spec.1],by rw [if_pos hyes.choose_spec.1,← hyes.choose_spec.2];exact (OwnI.intsB hO).less (by omega)⟩,xw⟩
def listE (t : Tr) (ids : List Int) : Int := if checkT t ≠ 0 then checkT t else if ListOk t.fl ids then 0 else 1
def listI (t : Tr) (ids : List Int) : List Int := if listE t ids = 0 then ids.map (posF t.fl) else []
def jamB (t : Tr) (l : List Int) (lo hi : Int) : Bool := decide (((openN t.cl lo hi).length : Int) < jamN t.fl lo hi l)
def jamS (t : Tr) (ids : List Int) : Option (Nat × Nat) := if listE t ids = 0 then (spanU t.n.toNat t.n.toNat).find? fun p => jamB t (listI t ids) p.1 p.2 else none
def NoJ (t : Tr) (l : List Int) (n j : Nat) : Prop := ∀ p ∈ (spanU n n).take j,jamB t l (p.1 : Int) (p.2 : Int) = false
theorem NoJ.step {t : Tr} {l : List Int} {n j : Nat} {x : Nat × Nat} (h : NoJ t l n j) (hx : (spanU n n)[j]? = some x) (hf : jamB t l (x.1 : Int) (x.2 : Int) = false) : NoJ t l n (j + 1) := by
 obtain ⟨hj,rfl⟩ := List.getElem?_eq_some_iff.1 hx;intro p hp;rw [List.take_succ,List.getElem?_eq_getElem hj,List.mem_append] at hp
 rcases hp with hp | hp
 ·exact h p hp
 ·obtain rfl : p = (spanU n n)[j] := by simpa using hp
  exact hf
theorem NoJ.none {t : Tr} {ids : List Int} {n : Nat} (hE : listE t ids = 0) (hn : t.n.toNat = n) (h : NoJ t (listI t ids) n (spanU n n).length) : jamS t ids = none := by
 unfold jamS;rw [if_pos hE,hn,List.find?_eq_none];intro p hp;rw [h p (by rw [List.take_length];exact hp)];decide
theorem NoJ.some {t : Tr} {ids : List Int} {n j : Nat} {x : Nat × Nat} (hE : listE t ids = 0) (hn : t.n.toNat = n) (h : NoJ t (listI t ids) n j) (hx : (spanU n n)[j]? = some x) (hf : jamB t (listI t ids) (x.1 : Int) (x.2 : Int) = true) : jamS t ids = some x := by
 obtain ⟨hj,rfl⟩ := List.getElem?_eq_some_iff.1 hx;unfold jamS;rw [if_pos hE,hn,List.find?_eq_some_iff_append];refine ⟨hf,(spanU n n).take j,(spanU n n).drop (j + 1),?_,fun a ha => by rw [h a ha];rfl⟩;rw [← List.drop_eq_getElem_cons hj,List.take_append_drop]
def okDay (t : Tr) (lo hi x : Int) : Bool := decide ((lo ≤ x ∧ x ≤ hi) ∧ x ∉ t.cl)
theorem isOpen_c (t : Tr) (lo hi x : Int) (A : Option Addr) (c : Nat) (fv : Value) (w : World) (hI : IntsV w w.heap.size (.slice A t.cl.length c) t.cl) (hcl : t.cl.length ≤ 1000000000000000) :
  CallsV Tryz.prog 144 #[.agg #[.int .i64 t.n,.slice A t.cl.length c,fv],.agg #[.int .i64 lo,.int .i64 hi],.int .i64 x] w fun v w' => v = .bool (okDay t lo hi x) ∧ Ext w w' := by
 have hIS : IntsS w w.heap.size (.slice A t.cl.length c) t.cl := ⟨hI⟩;clear hI;refine Wp.fn Tryz.func144 rfl Tryz.ntmps144 (by simp) ?_;have xw := Ext.refl w;refine Wp.keep [0,1,2] ?_;rintro r1 ⟨j,k,l,-⟩;simp [go_sem] at j k l;refine sRg fun K' gd hK => ?_;refine cu1 fun K1 hK1 => ?_;go_simp;apply hK1;clear hK1 K1;refine Wops.absA fun r n3 g => ?_;obtain ⟨q3,g,s3,m,f3,r3⟩ := g;try simp only [q3] at m f3 r3 ⊢
 replace hIS := hIS.ext g;replace xw := xw.trans g;have e := m 1 _ rfl;clear m g;clear r3;refine cu1 fun K1 hK1 => ?_;go_simp;apply hK1;clear hK1 K1;refine Wops.absA fun s n4 f => ?_;obtain ⟨q4,f,s4,i,f4,r4⟩ := f;try simp only [q4] at i f4 r4 ⊢
 replace hIS := hIS.ext f;replace xw := xw.trans f;replace e := f.cell e;have u := i 0 _ rfl;have y := i 1 _ rfl;clear i f;clear r4;go_simp;apply hK;clear hK K' gd;refine Wp.keep [2,3,4] ?_;rintro r2 ⟨a,b,d,-⟩;simp [go_sem,j,k,l] at a b d;clear j k l
 by_cases h1 : lo ≤ x ∧ x ≤ hi
 ·skip
  by_cases h2 : x ∈ t.cl
  ·skip;refine sRh fun K' gd hK hg => ?_;have g6 : gd 6 = some 13 := hg 6;clear hg;refine cu6 fun K1 hK1 => ?_;go_simp;refine Wcall (.inl rfl) (within_T h1 _) ?_;rintro v w2 ⟨rfl,hE⟩;go_simp;apply hK1;clear hK1 K1;replace hIS := hIS.ext hE;replace xw := xw.trans hE;replace e := hE.cell e;clear hE;refine cu5 fun K1 hK1 => ?_;go_simp;refine Wcall (.inl rfl) (contains_c (.slice A t.cl.length c) t.cl x _ (hIS.v.more (Below.size (XE))) hcl) ?_;rintro v w3 ⟨hv,hE⟩;rw [decide_eq_true h2] at hv;subst hv;go_simp;apply hK1;clear hK1 K1;replace xw := xw.trans hE;clear hE;go_simp;apply hK;clear hK K' gd g6;refine Wp.keep [6] ?_;rintro r5 ⟨p,-⟩;simp [go_sem,a,b,d] at p;clear a b d;refine Wp.ret ?_;refine endK_tmp Tryz.results144 (by decide) ?_;rw [p];exact ⟨by unfold okDay;rw [decide_eq_false fun h => h.2 h2],xw⟩
  ·skip;refine sRh fun K' gd hK hg => ?_;have g6 : gd 6 = some 13 := hg 6;clear hg;refine cu6 fun K1 hK1 => ?_;go_simp;refine Wcall (.inl rfl) (within_T h1 _) ?_;rintro v w2 ⟨rfl,hE⟩;go_simp;apply hK1;clear hK1 K1;replace hIS := hIS.ext hE;replace xw := xw.trans hE;replace e := hE.cell e;clear hE;refine cu5 fun K1 hK1 => ?_;go_simp;refine Wcall (.inl rfl) (contains_c (.slice A t.cl.length c) t.cl x _ (hIS.v.more (Below.size (XE))) hcl) ?_;rintro v w3 ⟨hv,hE⟩;rw [decide_eq_false h2] at hv;subst hv;go_simp;apply hK1;clear hK1 K1;replace xw := xw.trans hE;clear hE;go_simp;apply hK;clear hK K' gd g6;refine Wp.keep [6] ?_;rintro r8 ⟨q,-⟩;simp [go_sem,a,b,d] at q;clear a b d;refine Wp.ret ?_;refine endK_tmp Tryz.results144 (by decide) ?_;rw [q];exact ⟨by unfold okDay;rw [decide_eq_true ⟨h1,h2⟩],xw⟩
 ·skip;refine sRh fun K' gd hK hg => ?_;have g6 : gd 6 = some 13 := hg 6;clear hg;refine cu6 fun K1 hK1 => ?_;go_simp;refine Wcall (.inl rfl) (within_F h1 _) ?_;rintro v w2 ⟨rfl,hE⟩;go_simp;apply hK1;clear hK1 K1;replace xw := xw.trans hE;clear hE;refine cu5 fun K1 hK1 => ?_;go_simp;apply hK1;clear hK1 K1;go_simp;apply hK;clear hK K' gd g6;refine Wp.keep [6] ?_;rintro r10 ⟨o,-⟩;simp [go_sem,a,b,d] at o;clear a b d;refine Wp.ret ?_;refine endK_tmp Tryz.results144 (by decide) ?_;rw [o];exact ⟨by unfold okDay;rw [decide_eq_false fun h => h1 h.1],xw⟩
def takN (xs : List Int) (k : Nat) (d : Nat) : Bool := (List.range k).any fun j => decide (gI xs j = (d : Int))
theorem takN_true {xs : List Int} {k d : Nat} : takN xs k d = true ↔ ∃ j,j < k ∧ gI xs j = (d : Int) := by
 unfold takN;rw [List.any_eq_true]
 constructor
 ·rintro ⟨j,hj,e⟩;exact ⟨j,List.mem_range.1 hj,of_decide_eq_true e⟩
 ·rintro ⟨j,hj,e⟩;exact ⟨j,List.mem_range.2 hj,decide_eq_true e⟩
theorem takN_none {xs : List Int} {k : Nat} (h : gI xs k < 0) : takN xs (k + 1) = takN xs k := by
 funext d
 rw [Bool.eq_iff_iff,takN_true,takN_true]
 constructor
 ·rintro ⟨j,hj,e⟩
  by_cases q : j = k
  ·subst q;omega
  ·exact ⟨j,by omega,e⟩
 ·rintro ⟨j,hj,e⟩;exact ⟨j,by omega,e⟩
theorem takN_mark {xs : List Int} {k x : Nat} (h : gI xs k = (x : Int)) : takN xs (k + 1) = markT (takN xs k) x := by
 funext d
 rw [Bool.eq_iff_iff,takN_true];unfold markT
 by_cases e : d = x
 ·subst e;rw [if_pos rfl];exact ⟨fun _ => rfl,fun _ => ⟨k,by omega,h⟩⟩
 ·rw [if_neg e,takN_true]
  constructor
  ·rintro ⟨j,hj,q⟩
   by_cases q2 : j = k
   ·subst q2;omega
   ·exact ⟨j,by omega,q⟩
  ·rintro ⟨j,hj,q⟩;exact ⟨j,by omega,q⟩
def badK (t : Tr) (xs : List Int) (k : Nat) : Bool := match t.fl[k]? with
 | some f => decide (gI xs k ≠ -1) && (!okDay t f.lo f.hi (gI xs k) || takN xs k (gI xs k).toNat)
 | none => false
theorem badK_at {t : Tr} {xs : List Int} {k : Nat} (hk : k < t.fl.length) : badK t xs k = (decide (gI xs k ≠ -1) && (!okDay t t.fl[k].lo t.fl[k].hi (gI xs k) || takN xs k (gI xs k).toNat)) := by unfold badK;rw [List.getElem?_eq_getElem hk]
def wrongI (t : Tr) (xs : List Int) : Int := match (List.range xs.length).find? (badK t xs) with | some i => (i : Int) | none => -1
theorem wrongI_none {t : Tr} {xs : List Int} (h : ∀ j,j < xs.length → badK t xs j = false) : wrongI t xs = -1 := by
 unfold wrongI
 have : (List.range xs.length).find? (badK t xs) = none := by
  rw [List.find?_eq_none];intro j hj;rw [h j (List.mem_range.1 hj)];decide
 rw [this]
theorem wrongI_some {t : Tr} {xs : List Int} {k : Nat} (hk : k < xs.length) (h : ∀ j,j < k → badK t xs j = false) (hb : badK t xs k = true) : wrongI t xs = (k : Int) := by
 unfold wrongI
 have : (List.range xs.length).find? (badK t xs) = some k := by
  rw [List.find?_eq_some_iff_append];refine ⟨hb,List.range k,(List.range' (k + 1) (xs.length - k - 1)),?_,fun a ha => by rw [h a (List.mem_range.1 ha)];rfl⟩;rw [List.range_eq_range',List.range_eq_range',show xs.length = k + (1 + (xs.length - k - 1)) by omega,← List.range'_append_1,← List.range'_append_1];simp
 rw [this]
theorem wrong_c (t : Tr) (n : Nat) (xs : List Int) (v xv : Value) (w : World) (hP : PlanT t n) (hV : TourV w w.heap.size v t) (hX : IntsV w w.heap.size xv xs) (hl : xs.length = t.fl.length) :
  CallsV Tryz.prog 87 #[v,xv] w fun v' w' => v' = .int .i64 (wrongI t xs) ∧ Ext w w' := by
 obtain ⟨A,c,A2,c2,rfl,hI,hF⟩ := hV.open';obtain ⟨A1,c1,rfl,-,-⟩ := id hX;have hIS : IntsS w w.heap.size (.slice A t.cl.length c) t.cl := ⟨hI⟩;have hFS : FlawsS w w.heap.size (.slice A2 t.fl.length c2) t.fl := ⟨hF⟩;have hXS : IntsS w w.heap.size (.slice A1 xs.length c1) xs := ⟨hX⟩;clear hV hI hF hX;replace hl : ∃ _u : Unit,_ := ⟨(),hl⟩;have hcl9 := hP.cl;have hm12 := hP.fl;have hn60 := hP.n2;refine Wp.fn Tryz.func87 rfl Tryz.ntmps87 (by simp) ?_;have xw := Ext.refl w;refine Wp.keep [0,1] ?_;rintro r1 ⟨N,Z,-⟩;simp [go_sem] at N Z;refine sRg fun K' gd hK => ?_;refine cu1 fun K1 hK1 => ?_;go_simp;apply hK1;clear hK1 K1;refine Wops.absA fun bu n2 y => ?_;obtain ⟨q2,y,s2,I,f2,r2⟩ := y;try simp only [q2] at I f2 r2 ⊢
 replace hIS := hIS.ext y;replace hFS := hFS.ext y;replace hXS := hXS.ext y;replace xw := xw.trans y;have a := I 0 _ rfl;have d := I 1 _ rfl;have f := I 2 _ rfl;clear I y;clear r2;go_simp;apply hK;clear hK K' gd;refine Wp.keep [1,2] ?_;rintro r2 ⟨aa,ah,-⟩;simp [go_sem,N,Z] at aa ah;clear N Z;refine sRg fun K' gd hK => ?_;refine cu1 fun K1 hK1 => ?_;go_simp;apply hK1;clear hK1 K1;refine Wops.absA fun be n5 g => ?_;obtain ⟨q5,g,s5,bt,f5,r5⟩ := g;try simp only [q5] at bt f5 r5 ⊢
 replace hIS := hIS.ext g;replace hFS := hFS.ext g;replace hXS := hXS.ext g;replace xw := xw.trans g;replace a := g.cell a;replace d := g.cell d;replace f := g.cell f;clear g;have rx5 := RowX.mk2 r5;clear r5;try simp only [Wops_nil,updO_some,updO_none]
 apply hK;clear hK K' gd;refine Wp.keep [1,2,5] ?_;rintro r3 ⟨ab,ak,aA,-⟩;simp [go_sem,aa,ah] at ab ak aA;clear aa ah;refine Wp.seq ?_;have hR0 : RowT be n5 60 (takN xs 0) := by have q := (tried_of rx5).r;have e : takN xs 0 = fun _ => false := rfl;rw [e];exact q
 refine sRg fun K' gd hK => ?_;go_simp;apply hK;clear hK K' gd;refine Wp.keep [2,5,8,9,10] ?_;rintro r4 ⟨J,K,L,M,bg,-⟩;simp [go_sem,ab,ak,aA] at J K L M bg;clear ab ak aA;refine Wp.block ?_;refine Wp.loop (fun k ρ ds wk => AllEq [2,5,8,9] ρ r4 ∧ ds = [] ∧ (Chg [n5] be wk) ∧ (ρ 10 = .int .i64 (k : Int) ∧ RowT wk n5 60 (takN xs k) ∧ (∃ _u : Unit,∀ j,j < k → badK t xs j = false))) (xs.length) ?_ ?_
 ·refine ⟨AllEq.refl _ _,rfl,Chg.refl _ _,?_⟩;exact ⟨by rw [bg];rfl,hR0,(),fun j hj => absurd hj (Nat.not_lt_zero _)⟩
 ·rintro k r5 _ wk hk ⟨hA,rfl,xl3,⟨e10,hR,hq⟩⟩;obtain ⟨al,aB,a1,bb,-⟩ := hA;rw [J] at al;rw [K] at aB;rw [L] at a1;rw [M] at bb;replace hIS := hIS.chg xl3 XB;replace hFS := hFS.chg xl3 XB;replace hXS := hXS.chg xl3 XB;replace xw := Chg.to xw xl3 XL;replace a := Chg.cell xl3 a XN;replace d := Chg.cell xl3 d XN;replace f := Chg.cell xl3 f XN;refine sRg fun K' gd hK => ?_;go_simp;apply hK;clear hK K' gd;refine Wp.keep [2,5,8,9,10,11] ?_;rintro r6 ⟨m,p,s,u,h,l,-⟩;simp [go_sem,al,aB,a1,bb,e10] at m p s u h l;clear al aB a1 bb e10;refine Wp.seq ?_
  by_cases hk : k < xs.length
  ·refine cTt ?_;have hkl : (k : Int) < (xs.length : Int) := by omega
   have hkf : k < t.fl.length := by have := hl.choose_spec;omega
   have hkf2 : (k : Int) < (t.fl.length : Int) := by omega
   obtain ⟨b,o,cc,ev,hb,hcc⟩ := hXS.v.get hk
   injection ev with ev1 _ ev2
   subst ev1;subst ev2;have d1 := hcc k hk;clear hcc;obtain ⟨b2,o2,eA,hb2,x0,x1,x2,x3⟩ := FlawsV.at hFS.v hkf;subst eA;have hbk : ∃ _u : Unit,badK t xs k = (decide (gI xs k ≠ -1) && (!okDay t t.fl[k].lo t.fl[k].hi (gI xs k) || takN xs k (gI xs k).toNat)) := ⟨(),badK_at hkf⟩
   by_cases hm1 : gI xs k = -1
   ·skip;rw [hm1] at d1;refine skN ?_;refine sBk ?_;refine sRg fun K' gd hK => ?_;go_simp;apply hK;clear hK K' gd;refine Wp.keep [2,5,6,7,8,9,10] ?_;rintro r7 ⟨am,aC,aK,aS,a2,bc,V,-⟩;simp [go_sem,m,p,s,u,h,l] at am aC aK aS a2 bc V;clear m p s u h l;refine Wp.seq ?_;refine sRg fun K' gd hK => ?_;go_simp;apply hK;clear hK K' gd;refine Wp.keep [2,5,6,7,8,9,10,16] ?_;rintro r8 ⟨an,aD,aL,aT,a3,bd,W,Y,-⟩;simp [go_sem,am,aC,aK,aS,a2,bc,V] at an aD aL aT a3 bd W Y;clear am aC aK aS a2 bc V;refine cTt ?_;refine Wp.exit ?_;refine tEx ?_;refine blockK_here ?_;refine tNo ?_;refine lRg fun K' gd hK => ?_;go_simp;apply hK;clear hK K' gd;refine Ends.keep [2,5,8,9,10] ?_;rintro r9 ⟨bj,bo,bq,bs,bh,-⟩;simp [go_sem,an,aD,aL,aT,a3,bd,W,Y] at bj bo bq bs bh;clear an aD aL aT a3 bd W Y;refine Ends.mk ?_;refine thenK_normal ⟨by omega,⟨by rw [bj,J],by rw [bo,K],by rw [bq,L],by rw [bs,M],trivial⟩,rfl,xl3,?_⟩
    exact ⟨by rw [bh,IntWalk.i64_in _ (by omega)];rfl,by rw [takN_none (by omega)];exact hR,(),fun j hj => by by_cases e : j = k;(subst e;rw [hbk.choose_spec];rw [hm1];rfl);exact hq.choose_spec j (by omega)⟩
   ·skip
    by_cases ho : okDay t t.fl[k].lo t.fl[k].hi (gI xs k) = true
    ·skip;obtain ⟨x,hx⟩ : ∃ x : Nat,∃ _u : Unit,gI xs k = (x : Int) ∧ x < 60 := ⟨(gI xs k).toNat,(),by have q := of_decide_eq_true ho;have := hP.sp k hkf;omega⟩;have hx60 := hx.choose_spec.2;have hx61 : (x : Int) < 60 := by omega
     have hxn : ¬ (x : Int) = -1 := by omega
     rw [hx.choose_spec.1] at d1;have ho2 : ∃ _u : Unit,okDay t t.fl[k].lo t.fl[k].hi (x : Int) = true := ⟨(),by rw [← hx.choose_spec.1];exact ho⟩;have z1 := hR.c x hx60;refine skN ?_;refine sBk ?_;refine sRg fun K' gd hK => ?_;go_simp;apply hK;clear hK K' gd;refine Wp.keep [2,5,6,7,8,9,10] ?_;rintro r10 ⟨ac,ar,aE,aM,aU,a4,O,-⟩;simp [go_sem,m,p,s,u,h,l] at ac ar aE aM aU a4 O;clear m p s u h l;refine Wp.seq ?_;refine sRg fun K' gd hK => ?_;go_simp;apply hK;clear hK K' gd;refine Wp.keep [2,5,6,7,8,9,10,16] ?_;rintro r11 ⟨C,D,E,F,G,H,z,B,-⟩;simp [go_sem,ac,ar,aE,aM,aU,a4,O] at C D E F G H z B;clear ac ar aE aM aU a4 O;refine cFf ?_
     by_cases ht : takN xs k x = true
     ·skip;rw [ht] at z1;refine skN ?_;refine Wp.seq ?_;refine Wp.seqDraw (.inl rfl) mixed [([0,1,2,3,4],none),([5,6,7],some (8,false)),([9,10],none),([11,12,13,14],none)] (by kernel_rfl) fun K' gd hK hg => ?_;have g10 : gd 10 = some 27 := hg 10;clear hg;simp only [pick,nth,List.map_cons,List.map_nil,Option.map_none,Option.map_some];refine Mops.absD fun D4 hD4 zD4 => ?_;replace hIS := hIS.ext hD4;replace xw := xw.trans hD4;replace xl3 := Chg.ext xl3 hD4;replace a := hD4.cell a;replace d := hD4.cell d;replace f := hD4.cell f;replace x1 := hD4.cell x1;replace x2 := hD4.cell x2;replace z1 := hD4.cell z1;clear hD4;refine mNo ?_
      refine mAc ?_
      intro K1 hK1;go_simp;refine Wcall (.inl rfl) (isOpen_c t t.fl[k].lo t.fl[k].hi (x : Int) A c (.slice (some ⟨b2,o2,none⟩) t.fl.length c2) _ (hIS.v.more (Below.size (XE))) hcl9) ?_;rintro v w3 ⟨hv,hE⟩;rw [ho2.choose_spec] at hv;subst hv;go_simp;refine hK1 _ _ (by assumption) ?_;clear hK1 K1;replace xw := xw.trans hE;replace xl3 := Chg.ext xl3 hE;replace z1 := hE.cell z1;clear hE;apply Mops.none
      ·intro w' hE';go_simp;with_reducible rfl
      refine mNo ?_
      refine Mops.done ?_;apply hK;clear hK K' gd g10;refine Wp.keep [2,5,6,7,8,9,10,31] ?_;rintro r13 ⟨ad,au,aF,aN,aV,a5,P,ao,-⟩;simp [go_sem,C,D,E,F,G,H,z,B] at ad au aF aN aV a5 P ao;clear C D E F G H z B;refine cTt ?_;refine sRg fun K' gd hK => ?_;go_simp;apply hK;clear hK K' gd;refine Wp.keep [4] ?_;rintro r14 ⟨bk,-⟩;simp [go_sem,ad,au,aF,aN,aV,a5,P,ao] at bk;clear ad au aF aN aV a5 P ao;refine Wp.ret ?_;refine tRe ?_;refine bRe ?_;refine tRe ?_;refine tRe ?_;refine bRe ?_;refine tRe ?_;refine endK_tmp Tryz.results87 (by decide) ?_;rw [bk];exact ⟨by rw [wrongI_some hk hq.choose_spec (by rw [hbk.choose_spec,hx.choose_spec.1,ho2.choose_spec,Int.toNat_natCast,ht];simpa using hxn)],xw⟩
     ·skip;rw [show takN xs k x = false by simpa using ht] at z1;refine skN ?_;refine Wp.seq ?_;refine Wp.seqDraw (.inl rfl) mixed [([0,1,2,3,4],none),([5,6,7],some (8,false)),([9,10],none),([11,12,13,14],none)] (by kernel_rfl) fun K' gd hK hg => ?_;have g10 : gd 10 = some 27 := hg 10;clear hg;simp only [pick,nth,List.map_cons,List.map_nil,Option.map_none,Option.map_some];refine Mops.absD fun D5 hD5 zD5 => ?_;replace hIS := hIS.ext hD5;replace hR := hR.ext hD5;replace xw := xw.trans hD5;replace xl3 := Chg.ext xl3 hD5;replace a := hD5.cell a;replace d := hD5.cell d;replace f := hD5.cell f;replace d1 := hD5.cell d1;replace x1 := hD5.cell x1;replace x2 := hD5.cell x2;replace z1 := hD5.cell z1;clear hD5;refine mNo ?_
      refine mAc ?_
      intro K1 hK1;go_simp;refine Wcall (.inl rfl) (isOpen_c t t.fl[k].lo t.fl[k].hi (x : Int) A c (.slice (some ⟨b2,o2,none⟩) t.fl.length c2) _ (hIS.v.more (Below.size (XE))) hcl9) ?_;rintro v w3 ⟨hv,hE⟩;rw [ho2.choose_spec] at hv;subst hv;go_simp;refine hK1 _ _ (by assumption) ?_;clear hK1 K1;replace hR := hR.ext hE;replace xw := xw.trans hE;replace xl3 := Chg.ext xl3 hE;replace d1 := hE.cell d1;replace x1 := hE.cell x1;replace x2 := hE.cell x2;replace z1 := hE.cell z1;clear hE;apply Mops.none
      ·intro w' hE';go_simp;with_reducible rfl
      refine mNo ?_
      refine Mops.done ?_;apply hK;clear hK K' gd g10;refine Wp.keep [2,5,6,7,8,9,10,31] ?_;rintro r16 ⟨ae,av,aG,aO,aW,a6,Q,ap,-⟩;simp [go_sem,C,D,E,F,G,H,z,B] at ae av aG aO aW a6 Q ap;clear C D E F G H z B;refine cFf ?_;have ft := hR.fz;refine skN ?_;refine lRg fun K' gd hK => ?_;refine cu3 fun K1 hK1 => ?_;go_simp;apply hK1;clear hK1 K1;refine Wops.absS (b := n5) (i := x) [_] (hR.some hx60) fun P1 hP1 => ?_;replace xw := Put.to xw hP1 (by omega);replace xl3 := Put.more xl3 hP1 (.inr (by simp));replace d1 := hP1.cell d1 (by omega);replace x1 := hP1.cell x1 (by omega);replace x2 := hP1.cell x2 (by omega);try simp only [Wops_nil,updO_some,updO_none]
      apply hK;clear hK K' gd;refine Ends.keep [2,5,8,9,10] ?_;rintro r17 ⟨af,aw,aX,a7,R,-⟩;simp [go_sem,ae,av,aG,aO,aW,a6,Q,ap] at af aw aX a7 R;clear ae av aG aO aW a6 Q ap;refine Ends.mk ?_;refine bNo ?_;refine tNo ?_;refine lRg fun K' gd hK => ?_;go_simp;apply hK;clear hK K' gd;refine Ends.keep [2,5,8,9,10] ?_;rintro r18 ⟨bi,bn,bp,br,bf,-⟩;simp [go_sem,af,aw,aX,a7,R] at bi bn bp br bf;clear af aw aX a7 R;refine Ends.mk ?_;refine thenK_normal ⟨by omega,⟨by rw [bi,J],by rw [bn,K],by rw [bp,L],by rw [br,M],trivial⟩,rfl,xl3,?_⟩;exact ⟨by rw [bf,IntWalk.i64_in _ (by omega)];rfl,by rw [takN_mark hx.choose_spec.1];exact hR.mark hP1,(),fun j hj => by by_cases e : j = k;(subst e;rw [hbk.choose_spec];rw [hx.choose_spec.1,ho2.choose_spec,Int.toNat_natCast,show takN xs j x = false by simpa using ht];simp);exact hq.choose_spec j (by omega)⟩
    ·skip;refine skN ?_;refine sBk ?_;refine sRg fun K' gd hK => ?_;go_simp;apply hK;clear hK K' gd;refine Wp.keep [2,5,6,7,8,9,10] ?_;rintro r19 ⟨ag,ax,aH,aP,aY,a8,S,-⟩;simp [go_sem,m,p,s,u,h,l] at ag ax aH aP aY a8 S;clear m p s u h l;refine Wp.seq ?_;refine sRg fun K' gd hK => ?_;go_simp;apply hK;clear hK K' gd;refine Wp.keep [2,5,6,7,8,9,10,16] ?_;rintro r20 ⟨ai,ay,aI,aQ,aZ,a9,T,X,-⟩;simp [go_sem,ag,ax,aH,aP,aY,a8,S] at ai ay aI aQ aZ a9 T X;clear ag ax aH aP aY a8 S;refine cFf ?_;refine skN ?_;refine Wp.seq ?_;refine Wp.seqDraw (.inl rfl) mixed [([0,1,2,3,4],none),([5,6,7],some (8,false)),([9,10],none),([11,12,13,14],none)] (by kernel_rfl) fun K' gd hK hg => ?_;have g10 : gd 10 = some 27 := hg 10;clear hg;simp only [pick,nth,List.map_cons,List.map_nil,Option.map_none,Option.map_some];refine Mops.absD fun D7 hD7 zD7 => ?_;replace hIS := hIS.ext hD7;replace xw := xw.trans hD7;replace xl3 := Chg.ext xl3 hD7;replace a := hD7.cell a
     replace d := hD7.cell d;replace f := hD7.cell f;replace x1 := hD7.cell x1;replace x2 := hD7.cell x2;clear hD7;refine mNo ?_
     refine mAc ?_
     intro K1 hK1;go_simp;refine Wcall (.inl rfl) (isOpen_c t t.fl[k].lo t.fl[k].hi (gI xs k) A c (.slice (some ⟨b2,o2,none⟩) t.fl.length c2) _ (hIS.v.more (Below.size (XE))) hcl9) ?_;rintro v w3 ⟨hv,hE⟩;rw [show okDay t t.fl[k].lo t.fl[k].hi (gI xs k) = false by simpa using ho] at hv;subst hv;go_simp;refine hK1 _ _ (by assumption) ?_;clear hK1 K1;replace xw := xw.trans hE;replace xl3 := Chg.ext xl3 hE;clear hE;apply Mops.none
     ·intro w' hE';go_simp;with_reducible rfl
     apply Mops.none
     ·intro w' hE';go_simp;with_reducible rfl
     refine Mops.done ?_;apply hK;clear hK K' gd g10;refine Wp.keep [2,5,6,7,8,9,10,31] ?_;rintro r22 ⟨aj,az,aJ,aR,a0,ba,U,aq,-⟩;simp [go_sem,ai,ay,aI,aQ,aZ,a9,T,X] at aj az aJ aR a0 ba U aq;clear ai ay aI aQ aZ a9 T X;refine cTt ?_;refine sRg fun K' gd hK => ?_;go_simp;apply hK;clear hK K' gd;refine Wp.keep [4] ?_;rintro r23 ⟨bl,-⟩;simp [go_sem,aj,az,aJ,aR,a0,ba,U,aq] at bl;clear aj az aJ aR a0 ba U aq;refine Wp.ret ?_;refine tRe ?_;refine bRe ?_;refine tRe ?_;refine tRe ?_;refine bRe ?_;refine tRe ?_;refine endK_tmp Tryz.results87 (by decide) ?_;rw [bl];exact ⟨by rw [wrongI_some hk hq.choose_spec (by rw [hbk.choose_spec,show okDay t t.fl[k].lo t.fl[k].hi (gI xs k) = false by simpa using ho];simpa using hm1)],xw⟩
  ·refine cFf ?_;refine Wp.exit ?_;refine tEx ?_;refine tEx ?_;refine blockK_here ?_;refine tNo ?_;refine sRg fun K' gd hK => ?_;go_simp;apply hK;clear hK K' gd;refine Wp.keep [4] ?_;rintro r24 ⟨bm,-⟩;simp [go_sem,m,p,s,u,h,l] at bm;clear m p s u h l;refine Wp.ret ?_;refine endK_tmp Tryz.results87 (by decide) ?_;rw [bm];exact ⟨by rw [wrongI_none fun j hj => hq.choose_spec j (by omega)],xw⟩
structure Tk where
 id : Int
 day : Int
 fl : List Int
def TakersV (w : World) (B : Nat) (v : Value) (xs : List Tk) : Prop :=
 ∃ (A : Option Addr) (c : Nat),v = .slice A xs.length c ∧ (xs ≠ [] → ∃ b o,A = some ⟨b,o,none⟩ ∧ b < B ∧ ∀ i (h : i < xs.length),w.cell? ⟨b,o + i * 3,none⟩ = some (.int .i64 xs[i].id) ∧ w.cell? ⟨b,o + i * 3 + 1,none⟩ = some (.int .i64 xs[i].day) ∧
  ∃ fv,w.cell? ⟨b,o + i * 3 + 2,none⟩ = some fv ∧ IntsV w B fv xs[i].fl) ∧ xs.length ≤ c
section
variable {w V : World} {B B' : Nat} {v : Value} {xs : List Tk}
theorem TakersV.cells (h : TakersV w B v xs) (hc : ∀ b i u,b < B → w.cell? ⟨b,i,none⟩ = some u → V.cell? ⟨b,i,none⟩ = some u) : TakersV V B v xs := by
 obtain ⟨A,c,hv,hx,hcap⟩ := h
 exact ⟨A,c,hv,fun hne => by
  obtain ⟨b,o,hA,hlt,h1⟩ := hx hne
  exact ⟨b,o,hA,hlt,fun i hi => by obtain ⟨g1,g2,fv,g3,g4⟩ := h1 i hi;exact ⟨hc _ _ _ hlt g1,hc _ _ _ hlt g2,fv,hc _ _ _ hlt g3,g4.cells hc⟩⟩,hcap⟩
theorem TakersV.more (h : TakersV w B v xs) (hB : B ≤ B') : TakersV w B' v xs := by
 obtain ⟨A,c,hv,hx,hcap⟩ := h
 exact ⟨A,c,hv,fun hne => by
  obtain ⟨b,o,hA,hlt,h1⟩ := hx hne
  exact ⟨b,o,hA,by omega,fun i hi => by obtain ⟨g1,g2,fv,g3,g4⟩ := h1 i hi;exact ⟨g1,g2,fv,g3,g4.more hB⟩⟩,hcap⟩
theorem TakersV.ext (h : TakersV w w.heap.size v xs) (hE : Ext w V) : TakersV V V.heap.size v xs := (h.cells fun _ _ _ _ hc => hE.cell hc).more hE.size
theorem TakersV.at {A : Option Addr} {n c : Nat} (h : TakersV w B (.slice A n c) xs) {k : Nat} (hk : k < xs.length) : ∃ b o A1 c1,A = some ⟨b,o,none⟩ ∧ b < B ∧ w.cell? ⟨b,o + k * 3,none⟩ = some (.int .i64 xs[k].id) ∧ w.cell? ⟨b,o + k * 3 + 1,none⟩ = some (.int .i64 xs[k].day) ∧
  w.cell? ⟨b,o + k * 3 + 2,none⟩ = some (.slice A1 xs[k].fl.length c1) ∧ IntsV w B (.slice A1 xs[k].fl.length c1) xs[k].fl := by
 obtain ⟨A',c',hv,hx,-⟩ := h
 injection hv with h1 h2 h3;subst h1
 obtain ⟨b,o,hA,hb,hc⟩ := hx (by rintro rfl;exact absurd hk (Nat.not_lt_zero _));obtain ⟨g1,g2,fv,g3,g4⟩ := hc k hk;obtain ⟨A1,c1,rfl,-,-⟩ := id g4;exact ⟨b,o,A1,c1,hA,hb,g1,g2,g3,g4⟩
end
structure TakersS (w : World) (S : Nat) (v : Value) (xs : List Tk) : Prop where
 v : TakersV w S v xs
section
variable {w V : World} {S : Nat} {v : Value} {xs : List Tk}
theorem TakersS.ext (h : TakersS w S v xs) (hE : Ext w V) : TakersS V S v xs := ⟨h.v.cells fun _ _ _ _ hc => hE.cell hc⟩
theorem TakersS.chg {L : List Nat} (h : TakersS w S v xs) (hC : Chg L w V) (hL : ∀ b ∈ L,S ≤ b) : TakersS V S v xs := ⟨h.v.cells fun b _ _ hb hc => Chg.cell hC hc fun hm => by have := hL b hm;omega⟩
theorem TakersS.put {b i : Nat} {vs : List Value} (h : TakersS w S v xs) (p : Put w V b i vs) (hb : S ≤ b) : TakersS V S v xs := h.chg p.chg (by simpa using hb)
end
def TakOk (t : Tr) (x : Tk) : Prop := ListOk t.fl x.fl ∧ (1 ≤ x.id ∧ x.id ≤ 1099511627776) ∧ 0 ≤ x.day ∧ x.day ≤ t.n - 1
instance (t : Tr) (x : Tk) : Decidable (TakOk t x) := by unfold TakOk;infer_instance
def takL (t : Tr) : List Int → List Tk → Int
 | _,[] => 0
 | ids,x :: l => if ¬ TakOk t x then 1 else if x.id ∈ ids then 6 else takL t (x.id :: ids) l
def takE (t : Tr) (l : List Tk) : Int := if 40 < l.length then 2 else takL t [] l
theorem takers_c (t : Tr) (l : List Tk) (v lv : Value) (w : World) (hg : GoodT t) (hV : TourV w w.heap.size v t) (hL : TakersV w w.heap.size lv l) (hl : ∀ x ∈ l,x.fl.length ≤ 1000) :
  CallsV Tryz.prog 88 #[v,lv] w fun v' w' => v' = .int .i64 (takE t l) ∧ Ext w w' := by
 obtain ⟨A,c,A2,c2,rfl,hI,hF⟩ := hV.open';obtain ⟨A1,c1,rfl,-,-⟩ := id hL;have hTS : TourS w w.heap.size (.agg #[.int .i64 t.n,.slice A t.cl.length c,.slice A2 t.fl.length c2]) t := ⟨hV⟩;have hLS : TakersS w w.heap.size (.slice A1 l.length c1) l := ⟨hL⟩;clear hV hI hF hL;replace hl : ∃ _u : Unit,_ := ⟨(),hl⟩;have hft : FitT t := ⟨by have := hg.len;omega,by have := hg.fl;omega⟩;have hw1 : IntKind.i64.wrap (t.n - 1) = t.n - 1 := IntWalk.i64_in _ (by have := hg.n;omega);refine Wp.fn Tryz.func88 rfl Tryz.ntmps88 (by simp) ?_;have xw := Ext.refl w;refine Wp.keep [0,1] ?_;rintro r1 ⟨I,M,-⟩;simp [go_sem] at I M
 by_cases h5 : (40 : Int) < (l.length : Int)
 ·skip;refine sRg fun K' gd hK => ?_;refine cu1 fun K1 hK1 => ?_;go_simp;apply hK1;clear hK1 K1;refine Wops.absA fun bG n2 T => ?_;obtain ⟨q2,T,s2,bD,f2,r2⟩ := T;try simp only [q2] at bD f2 r2 ⊢
  replace xw := xw.trans T;clear bD T;clear r2;go_simp;apply hK;clear hK K' gd;refine Wp.keep [1,2] ?_;rintro r2 ⟨aD,aL,-⟩;simp [go_sem,I,M] at aD aL;clear I M;refine Wp.seq ?_;refine sRg fun K' gd hK => ?_;go_simp;apply hK;clear hK K' gd;refine Wp.keep [1,2,12] ?_;rintro r3 ⟨aE,aP,U,-⟩;simp [go_sem,aD,aL] at aE aP U;clear aD aL;refine cTt ?_;refine sRg fun K' gd hK => ?_;go_simp;apply hK;clear hK K' gd;refine Wp.keep [4] ?_;rintro r4 ⟨bB,-⟩;simp [go_sem,aE,aP,U] at bB;clear aE aP U;refine Wp.ret ?_;refine tRe ?_;refine endK_tmp Tryz.results88 (by decide) ?_;rw [bB];exact ⟨by unfold takE;rw [if_pos (by omega)],xw⟩
 ·skip;have hcs : ∃ _u : Unit,takE t l = takL t [] l := ⟨(),by unfold takE;rw [if_neg (by omega)]⟩;refine sRg fun K' gd hK => ?_;refine cu1 fun K1 hK1 => ?_;go_simp;apply hK1;clear hK1 K1;refine Wops.absA fun bp n2 H => ?_;obtain ⟨q2,H,s2,R,f2,r2⟩ := H;try simp only [q2] at R f2 r2 ⊢
  replace hTS := hTS.ext H;replace hLS := hLS.ext H;replace xw := xw.trans H;have a := R 0 _ rfl;have e := R 1 _ rfl;have f := R 2 _ rfl;clear R H;clear r2;go_simp;apply hK;clear hK K' gd;refine Wp.keep [1,2] ?_;rintro r5 ⟨aF,aT,-⟩;simp [go_sem,I,M] at aF aT;clear I M;refine Wp.seq ?_;refine sRg fun K' gd hK => ?_;go_simp;apply hK;clear hK K' gd;refine Wp.keep [1,2,12] ?_;rintro r6 ⟨aG,aU,V,-⟩;simp [go_sem,aF,aT] at aG aU V;clear aF aT;refine cFf ?_;have hTS_xa := hTS;have hLS_xa := hLS;have xw_xa := xw;have c2_0_xa := a;have c2_1_xa := e;have c2_2_xa := f;have xa := Ext.refl bp;refine skN ?_;refine sRg fun K' gd hK => ?_;refine cu1 fun K1 hK1 => ?_;go_simp;apply hK1;clear hK1 K1;refine Wops.absM fun bF n13 F => ?_;obtain ⟨q13,F,s13,m13⟩ := F;try simp only [q13] at m13 ⊢
  replace hLS := hLS.ext F;replace xw := xw.trans F;replace xa := xa.trans F;clear F;go_simp;apply hK;clear hK K' gd;refine Wp.keep [1,2,5] ?_;rintro r7 ⟨aH,aV,bc,-⟩;simp [go_sem,aG,aU,V] at aH aV bc;clear aG aU V;refine Wp.seq ?_;have hM := m13 Tryz.prog 3 4;clear m13;refine sRg fun K' gd hK => ?_;go_simp;apply hK;clear hK K' gd;refine Wp.keep [2,5,14,15,16] ?_;rintro r8 ⟨aW,bd,af,aq,bt,-⟩;simp [go_sem,aH,aV,bc] at aW bd af aq bt;clear aH aV bc;refine Wp.block ?_;refine Wp.loop (fun i ρ ds wi => AllEq [2,5,14,15] ρ r8 ∧ ds = [] ∧ (Ext bp wi) ∧ (∃ ids,ρ 16 = .int .i64 (i : Int) ∧ IdMap Tryz.prog 3 4 wi n13 ids ∧ (∃ _u : Unit,ids.length = i ∧ takL t ids (l.drop i) = takE t l))) (l.length) ?_ ?_
  ·refine ⟨AllEq.refl _ _,rfl,xa,?_⟩;exact ⟨[],by rw [bt];rfl,hM,(),rfl,by rw [List.drop_zero];exact hcs.choose_spec.symm⟩
  ·rintro i r9 _ wi hi ⟨hA,rfl,xo,⟨ids,e16,hM,hil⟩⟩;obtain ⟨aX,be,ag,ar,-⟩ := hA;rw [aW] at aX;rw [bd] at be;rw [af] at ag;rw [aq] at ar;have hTS := hTS_xa;have hLS := hLS_xa;have xw := xw_xa;have a := c2_0_xa;have e := c2_1_xa;have f := c2_2_xa;replace hTS := hTS.ext xo;replace hLS := hLS.ext xo;replace xw := Ext.trans xw xo;replace a := Ext.cell xo a;replace e := Ext.cell xo e;replace f := Ext.cell xo f;refine sRg fun K' gd hK => ?_;go_simp;apply hK;clear hK K' gd;refine Wp.keep [2,5,14,15,16,17] ?_;rintro r10 ⟨s,y,g,m,p,r,-⟩;simp [go_sem,aX,be,ag,ar,e16] at s y g m p r;clear aX be ag ar e16;refine Wp.seq ?_
   by_cases hi : i < l.length
   ·refine cTt ?_;have hil2 : (i : Int) < (l.length : Int) := by omega
    obtain ⟨b2,o2,A3,c3,eA,hb2,x0,x1,x2,hI3⟩ := TakersV.at hLS.v hi;subst eA;obtain ⟨G,hG⟩ : ∃ G,∃ _u : Unit,l[i] = G := ⟨_,(),rfl⟩;rw [hG.choose_spec] at x0 x1 x2 hI3;have hck : ∃ _u : Unit,takL t ids (G :: l.drop (i + 1)) = takE t l := ⟨(),by have := hil.choose_spec.2;rwa [drop_cons hi,hG.choose_spec] at this⟩;have hGl : G.fl.length ≤ 1000 := by rw [← hG.choose_spec];exact hl.choose_spec _ (List.getElem_mem hi)
    have hIS : IntsS wi w.heap.size (.slice A3 G.fl.length c3) G.fl := ⟨hI3⟩;clear hI3
    by_cases k0 : ListOk t.fl G.fl
    ·skip;refine skN ?_;refine sBk ?_;refine sRg fun K' gd hK => ?_;refine cu4 fun K1 hK1 => ?_;go_simp;apply hK1;clear hK1 K1;refine Wops.absA fun bH n7 b => ?_;obtain ⟨q7,b,s7,S,f7,r7⟩ := b;try simp only [q7] at S f7 r7 ⊢
     replace hTS := hTS.ext b;replace hM := hM.ext b;replace hIS := hIS.ext b;replace xw := xw.trans b;replace xo := xo.trans b;replace a := b.cell a;replace e := b.cell e;replace f := b.cell f;have D := S 0 _ rfl;have E := S 1 _ rfl;have bE := S 2 _ rfl;clear S b;clear r7;try simp only [Wops_nil,updO_some,updO_none]
     apply hK;clear hK K' gd;refine Wp.keep [2,5,7,14,15,16] ?_;rintro r11 ⟨aI,a3,bf,W,ah,au,-⟩;simp [go_sem,s,y,g,m,p,r] at aI a3 bf W ah au;clear s y g m p r;refine sRg fun K' gd hK => ?_;refine cu4 fun K1 hK1 => ?_;go_simp;refine Wcall (.inl rfl) (listed_c t G.fl _ _ _ (hTS.v.more (Below.size (XE))) (hIS.v.more (Below.size (XE))) hft hGl) ?_;rintro v w3 ⟨⟨lv,rfl,hL⟩,hE⟩;clear hL;rw [decide_eq_true k0];go_simp;apply hK1;clear hK1 K1;replace hM := hM.ext hE;replace xw := xw.trans hE;replace xo := xo.trans hE;replace a := hE.cell a;replace D := hE.cell D;replace E := hE.cell E;clear hE;go_simp;apply hK;clear hK K' gd;refine Wp.keep [2,5,7,9,14,15,16] ?_;rintro r13 ⟨u,z,B,C,j,o,q,-⟩;simp [go_sem,aI,a3,bf,W,ah,au] at u z B C j o q;clear aI a3 bf W ah au;refine Wp.seq ?_
     by_cases k1 : 1 ≤ G.id ∧ G.id ≤ 1099511627776
     ·skip
      by_cases k2 : 0 ≤ G.day ∧ G.day ≤ t.n - 1
      ·skip;refine sRh fun K' gd hK hg => ?_;have g2 : gd 2 = some 29 := hg 2;have g8 : gd 8 = some 35 := hg 8;clear hg;refine cu6 fun K1 hK1 => ?_;go_simp;refine Wcall (.inl rfl) (within_T k1 _) ?_;rintro v w4 ⟨rfl,hE⟩;go_simp;apply hK1;clear hK1 K1;replace hM := hM.ext hE;replace xw := xw.trans hE;replace xo := xo.trans hE;replace a := hE.cell a;replace D := hE.cell D;replace E := hE.cell E;clear hE;refine cu9 fun K1 hK1 => ?_;go_simp;refine Wcall (.inl rfl) (within_T k2 _) ?_;rintro v w5 ⟨rfl,hE⟩;go_simp;apply hK1;clear hK1 K1;replace hM := hM.ext hE;replace xw := xw.trans hE;replace xo := xo.trans hE;replace D := hE.cell D;clear hE;go_simp;apply hK;clear hK K' gd g2 g8;refine Wp.keep [2,5,7,14,15,16,43] ?_;rintro r16 ⟨N,P,Q,J,K,L,O,-⟩;simp [go_sem,u,z,B,C,j,o,q] at N P Q J K L O;clear u z B C j o q;refine cFf ?_;have hlm : ids.length ≤ 1000 := by have := hil.choose_spec.1;omega
       have kok : ∃ _u : Unit,TakOk t G := ⟨(),k0,k1,k2⟩
       by_cases k4 : G.id ∈ ids
       ·skip;refine skN ?_;refine Wp.seq ?_;refine sRg fun K' gd hK => ?_;refine cu4 fun K1 hK1 => ?_;refine Wops.cut 3 fun K2 hK2 => ?_;simp only [tSC,tZ];go_simp;refine hK2 _ _ ?_;clear hK2 K2;simp only [dSC,dZ];obtain hrun := hM.look Tryz.underlying3 Tryz.underlying4 Tryz.underlying118 (by kernel_rfl) (wf64 k1);rw [decide_eq_true k4] at hrun;refine Wops.law rfl (exec_lookup2 rfl hrun (by go_simp) (by go_simp)) ?_;simp only [updO_some,Wops_nil];apply hK1;clear hK1 K1;try simp only [Wops_nil,updO_some,updO_none]
        apply hK;clear hK K' gd;refine Wp.keep [2,5,7,14,15,16,47] ?_;rintro r17 ⟨aJ,a4,bg,X,ai,av,a1,-⟩;simp [go_sem,N,P,Q,J,K,L,O] at aJ a4 bg X ai av a1;clear N P Q J K L O;refine cTt ?_;refine sRg fun K' gd hK => ?_;go_simp;apply hK;clear hK K' gd;refine Wp.keep [4] ?_;rintro r18 ⟨bv,-⟩;simp [go_sem,aJ,a4,bg,X,ai,av,a1] at bv;clear aJ a4 bg X ai av a1;refine Wp.ret ?_;refine tRe ?_;refine bRe ?_;refine tRe ?_;refine tRe ?_;refine bRe ?_;refine tRe ?_;refine endK_tmp Tryz.results88 (by decide) ?_;rw [bv];exact ⟨by rw [← hck.choose_spec,takL,if_neg (not_not_intro kok.choose_spec),if_pos k4],xw⟩
       ·skip;refine skN ?_;refine Wp.seq ?_;refine sRg fun K' gd hK => ?_;refine cu4 fun K1 hK1 => ?_;refine Wops.cut 3 fun K2 hK2 => ?_;simp only [tSC,tZ];go_simp;refine hK2 _ _ ?_;clear hK2 K2;simp only [dSC,dZ];obtain hrun := hM.look Tryz.underlying3 Tryz.underlying4 Tryz.underlying118 (by kernel_rfl) (wf64 k1);rw [decide_eq_false k4] at hrun;refine Wops.law rfl (exec_lookup2 rfl hrun (by go_simp) (by go_simp)) ?_;simp only [updO_some,Wops_nil];apply hK1;clear hK1 K1;try simp only [Wops_nil,updO_some,updO_none]
        apply hK;clear hK K' gd;refine Wp.keep [2,5,7,14,15,16,47] ?_;rintro r19 ⟨aK,a5,bh,Y,aj,aw,a2,-⟩;simp [go_sem,N,P,Q,J,K,L,O] at aK a5 bh Y aj aw a2;clear N P Q J K L O;refine cFf ?_;refine skN ?_;refine lRg fun K' gd hK => ?_;refine cu4 fun K1 hK1 => ?_;refine Wops.cut 3 fun K2 hK2 => ?_;simp only [tSC,tZ];go_simp;refine hK2 _ _ ?_;clear hK2 K2;simp only [dSC,dZ];obtain ⟨w7,hrun,hM2,hgr⟩ := hM.add Tryz.underlying3 Tryz.underlying4 Tryz.underlying118 hlm (wf64 k1);refine Wops.lawS rfl (exec_mapUpdate2 rfl hrun (by go_simp) (by go_simp) (by go_simp)) ?_;simp only [updO_some,updO_none,Wops_nil];apply hK1;clear hK1 K1;replace xw := Chg.to xw (grown_chg hgr) (lt_ge (show ∀ k,some n13 = some k → n13 ≤ k ∧ k < n13 + 1 from fun k hk => by injection hk with hk;omega) (by omega));replace xo := Chg.to xo (grown_chg hgr) (lt_ge (show ∀ k,some n13 = some k → n13 ≤ k ∧ k < n13 + 1 from fun k hk => by injection hk with hk;omega) (by omega));try simp only [Wops_nil,updO_some,updO_none]
        apply hK;clear hK K' gd;refine Ends.keep [2,5,14,15,16] ?_;rintro r21 ⟨aM,a6,Z,ak,ax,-⟩;simp [go_sem,aK,a5,bh,Y,aj,aw,a2] at aM a6 Z ak ax;clear aK a5 bh Y aj aw a2;refine Ends.mk ?_;refine bNo ?_;refine tNo ?_;refine lRg fun K' gd hK => ?_;go_simp;apply hK;clear hK K' gd;refine Ends.keep [2,5,14,15,16] ?_;rintro r22 ⟨bu,bC,bq,br,bs,-⟩;simp [go_sem,aM,a6,Z,ak,ax] at bu bC bq br bs;clear aM a6 Z ak ax;refine Ends.mk ?_;refine thenK_normal ⟨by omega,⟨by rw [bu,aW],by rw [bC,bd],by rw [bq,af],by rw [br,aq],trivial⟩,rfl,xo,?_⟩;exact ⟨_,by rw [bs,IntWalk.i64_in _ (by omega)];rfl,hM2,(),by rw [List.length_cons,hil.choose_spec.1],by rw [← hck.choose_spec];conv => rhs;rw [takL,if_neg (not_not_intro kok.choose_spec),if_neg k4]⟩
      ·skip;refine sRh fun K' gd hK hg => ?_;have g2 : gd 2 = some 29 := hg 2;have g8 : gd 8 = some 35 := hg 8;clear hg;refine cu6 fun K1 hK1 => ?_;go_simp;refine Wcall (.inl rfl) (within_T k1 _) ?_;rintro v w4 ⟨rfl,hE⟩;go_simp;apply hK1;clear hK1 K1;replace xw := xw.trans hE;replace xo := xo.trans hE;replace a := hE.cell a;replace E := hE.cell E;clear hE;refine cu9 fun K1 hK1 => ?_;go_simp;refine Wcall (.inl rfl) (within_F k2 _) ?_;rintro v w5 ⟨rfl,hE⟩;go_simp;apply hK1;clear hK1 K1;replace xw := xw.trans hE;replace xo := xo.trans hE;clear hE;go_simp;apply hK;clear hK K' gd g2 g8;refine Wp.keep [2,5,7,14,15,16,43] ?_;rintro r25 ⟨aN,a7,bi,aa,al,ay,aY,-⟩;simp [go_sem,u,z,B,C,j,o,q] at aN a7 bi aa al ay aY;clear u z B C j o q;refine cTt ?_;refine sRg fun K' gd hK => ?_;go_simp;apply hK;clear hK K' gd;refine Wp.keep [4] ?_;rintro r26 ⟨bw,-⟩;simp [go_sem,aN,a7,bi,aa,al,ay,aY] at bw
       clear aN a7 bi aa al ay aY;refine Wp.ret ?_;refine tRe ?_;refine bRe ?_;refine tRe ?_;refine tRe ?_;refine bRe ?_;refine tRe ?_;refine endK_tmp Tryz.results88 (by decide) ?_;rw [bw];exact ⟨by rw [← hck.choose_spec,takL,if_pos fun h => k2 h.2.2],xw⟩
     ·skip;refine sRh fun K' gd hK hg => ?_;have g2 : gd 2 = some 29 := hg 2;have g8 : gd 8 = some 35 := hg 8;clear hg;refine cu6 fun K1 hK1 => ?_;go_simp;refine Wcall (.inl rfl) (within_F k1 _) ?_;rintro v w4 ⟨rfl,hE⟩;go_simp;apply hK1;clear hK1 K1;replace xw := xw.trans hE;replace xo := xo.trans hE;clear hE;refine cu9 fun K1 hK1 => ?_;go_simp;apply hK1;clear hK1 K1;go_simp;apply hK;clear hK K' gd g2 g8;refine Wp.keep [2,5,7,14,15,16,43] ?_;rintro r28 ⟨aO,a8,bj,ab,am,az,aZ,-⟩;simp [go_sem,u,z,B,C,j,o,q] at aO a8 bj ab am az aZ;clear u z B C j o q;refine cTt ?_;refine sRg fun K' gd hK => ?_;go_simp;apply hK;clear hK K' gd;refine Wp.keep [4] ?_;rintro r29 ⟨bx,-⟩;simp [go_sem,aO,a8,bj,ab,am,az,aZ] at bx;clear aO a8 bj ab am az aZ;refine Wp.ret ?_;refine tRe ?_;refine bRe ?_;refine tRe ?_;refine tRe ?_;refine bRe ?_;refine tRe ?_
      refine endK_tmp Tryz.results88 (by decide) ?_;rw [bx];exact ⟨by rw [← hck.choose_spec,takL,if_pos fun h => k1 h.2.1],xw⟩
    ·skip;refine skN ?_;refine sBk ?_;refine sRg fun K' gd hK => ?_;refine cu4 fun K1 hK1 => ?_;go_simp;apply hK1;clear hK1 K1;refine Wops.absA fun bI n7 d => ?_;obtain ⟨q7,d,s7,bo,f7,r7⟩ := d;try simp only [q7] at bo f7 r7 ⊢
     replace hTS := hTS.ext d;replace hIS := hIS.ext d;replace xw := xw.trans d;replace xo := xo.trans d;replace a := d.cell a;replace e := d.cell e;replace f := d.cell f;have bE := bo 2 _ rfl;clear bo d;clear r7;try simp only [Wops_nil,updO_some,updO_none]
     apply hK;clear hK K' gd;refine Wp.keep [2,5,7,14,15,16] ?_;rintro r30 ⟨aQ,a9,bk,ac,an,aA,-⟩;simp [go_sem,s,y,g,m,p,r] at aQ a9 bk ac an aA;clear s y g m p r;refine sRg fun K' gd hK => ?_;refine cu4 fun K1 hK1 => ?_;go_simp;refine Wcall (.inl rfl) (listed_c t G.fl _ _ _ (hTS.v.more (Below.size (XE))) (hIS.v.more (Below.size (XE))) hft hGl) ?_;rintro v w3 ⟨⟨lv,rfl,hL⟩,hE⟩;clear hL;rw [decide_eq_false k0];go_simp;apply hK1;clear hK1 K1;replace xw := xw.trans hE;replace xo := xo.trans hE;clear hE;go_simp;apply hK;clear hK K' gd;refine Wp.keep [2,5,7,9,14,15,16] ?_;rintro r32 ⟨aR,ba,bl,bn,ad,ao,aB,-⟩;simp [go_sem,aQ,a9,bk,ac,an,aA] at aR ba bl bn ad ao aB;clear aQ a9 bk ac an aA;refine Wp.seq ?_;refine sRh fun K' gd hK hg => ?_;have g2 : gd 2 = some 29 := hg 2;have g8 : gd 8 = some 35 := hg 8;clear hg;refine cu6 fun K1 hK1 => ?_;go_simp;apply hK1;clear hK1 K1
     refine cu9 fun K1 hK1 => ?_;go_simp;apply hK1;clear hK1 K1;go_simp;apply hK;clear hK K' gd g2 g8;refine Wp.keep [2,5,7,14,15,16,43] ?_;rintro r33 ⟨aS,bb,bm,ae,ap,aC,a0,-⟩;simp [go_sem,aR,ba,bl,bn,ad,ao,aB] at aS bb bm ae ap aC a0;clear aR ba bl bn ad ao aB;refine cTt ?_;refine sRg fun K' gd hK => ?_;go_simp;apply hK;clear hK K' gd;refine Wp.keep [4] ?_;rintro r34 ⟨bz,-⟩;simp [go_sem,aS,bb,bm,ae,ap,aC,a0] at bz;clear aS bb bm ae ap aC a0;refine Wp.ret ?_;refine tRe ?_;refine bRe ?_;refine tRe ?_;refine tRe ?_;refine bRe ?_;refine tRe ?_;refine endK_tmp Tryz.results88 (by decide) ?_;rw [bz];exact ⟨by rw [← hck.choose_spec,takL,if_pos fun h => k0 h.1],xw⟩
   ·refine cFf ?_;have him : i = l.length := by omega
    refine Wp.exit ?_;refine tEx ?_;refine tEx ?_;refine blockK_here ?_;refine tNo ?_;refine sRg fun K' gd hK => ?_;go_simp;apply hK;clear hK K' gd;refine Wp.keep [4] ?_;rintro r35 ⟨bA,-⟩;simp [go_sem,s,y,g,m,p,r] at bA;clear s y g m p r;refine Wp.ret ?_;refine endK_tmp Tryz.results88 (by decide) ?_;rw [bA];exact ⟨by rw [← hil.choose_spec.2,him,List.drop_length];rfl,xw⟩
theorem takL_zero {t : Tr} : ∀ {l : List Tk} {ids : List Int},takL t ids l = 0 → ∀ x ∈ l,TakOk t x
 | [],_,_,x,hx => by cases hx
 | y :: l,ids,h,x,hx => by
   unfold takL at h
   by_cases h1 : TakOk t y
   ·rw [if_neg (not_not_intro h1)] at h
    by_cases h2 : y.id ∈ ids
    ·rw [if_pos h2] at h;cases h
    ·rw [if_neg h2] at h
     rcases List.mem_cons.1 hx with rfl | hx
     ·exact h1
     ·exact takL_zero h x hx
   ·rw [if_pos h1] at h;cases h
theorem takE_zero {t : Tr} {l : List Tk} (h : takE t l = 0) : l.length ≤ 40 ∧ ∀ x ∈ l,TakOk t x := by
 unfold takE at h
 by_cases h1 : 40 < l.length
 ·rw [if_pos h1] at h;cases h
 ·rw [if_neg h1] at h;exact ⟨by omega,takL_zero h⟩
theorem wrongI_neg {t : Tr} {xs : List Int} (h : ¬ 0 ≤ wrongI t xs) : ∀ j,j < xs.length → badK t xs j = false := by
 unfold wrongI at h
 cases e : (List.range xs.length).find? (badK t xs) with
 | some i => rw [e] at h;exact absurd (show (0 : Int) ≤ (i : Int) by omega) h
 | none =>
   rw [List.find?_eq_none] at e;intro j hj
   simpa using e j (List.mem_range.2 hj)
theorem day_ok {t : Tr} {n : Nat} {xs : List Int} (hP : PlanT t n) (hl : xs.length = t.fl.length) (h : ¬ 0 ≤ wrongI t xs) {k : Nat} (hk : k < xs.length) : -1 ≤ gI xs k ∧ gI xs k < 60 := by
 have hb := wrongI_neg h k hk;rw [badK_at (by omega)] at hb
 by_cases e : gI xs k = -1
 ·omega
 ·have ho : okDay t (t.fl[k]'(by omega)).lo (t.fl[k]'(by omega)).hi (gI xs k) = true := by
   cases q : okDay t (t.fl[k]'(by omega)).lo (t.fl[k]'(by omega)).hi (gI xs k) with
   | true => rfl
   | false => rw [q] at hb;simp [e] at hb
  have := of_decide_eq_true ho;have := hP.sp k (by omega);have := hP.n2;omega
def mapN (fl : List Fl) (xs : List Int) : Nat → Int → Int
 | 0 => fun _ => 0
 | k + 1 => fun y => if y = idAt fl k then gI xs k else mapN fl xs k y
def leftP (t : Tr) (xs : List Int) (d id : Int) : Bool := decide (0 ≤ mapN t.fl xs t.fl.length id ∧ mapN t.fl xs t.fl.length id < d)
def leftL (t : Tr) (xs : List Int) (x : Tk) : List Int := filI (leftP t xs x.day) x.fl
def spreadE (t : Tr) (m : Md) (l : List Tk) : Int := if checkT t ≠ 0 then checkT t else if m.on.length ≠ t.fl.length ∨ 0 ≤ wrongI t m.on then 1 else takE t l
def spreadL (t : Tr) (m : Md) (l : List Tk) : List (List Int) := if spreadE t m l = 0 then l.map (leftL t m.on) else []
theorem wfI {x : Int} (h : -1099511627776 ≤ x ∧ x ≤ 1099511627776) : (Lit.int .i64 x).wf = true := by
 simp [Lit.wf,IntKind.min,IntKind.max,IntKind.signed,IntKind.bits];omega
theorem spread1_c (t : Tr) (xs : List Int) (id d : Int) (q1 q2 mb k : Nat) (w : World) (hid : 1 ≤ id ∧ id ≤ 1099511627776) (h1 : w.cell? ⟨q1,0,none⟩ = some (.map (some mb))) (h2 : w.cell? ⟨q2,1,none⟩ = some (.int .i64 d)) (hM : IntMap Tryz.prog 3 3 w mb k (mapN t.fl xs t.fl.length)) :
  CallsV Tryz.prog 91 (#[.int .i64 id] ++ #[.pointer (some ⟨q1,0,none⟩),.pointer (some ⟨q2,0,none⟩)]) w fun v w' => v = .bool (leftP t xs d id) ∧ Ext w w' := by
 show CallsV _ _ #[.int .i64 id,.pointer (some ⟨q1,0,none⟩),.pointer (some ⟨q2,0,none⟩)] _ _
 have hz : (zeroValue 3).run Tryz.prog w = .ok (.int .i64 0) w := by simp [go_sem]
 obtain ⟨y,hy⟩ : ∃ y,∃ _u : Unit,mapN t.fl xs t.fl.length id = y := ⟨_,(),rfl⟩;have hrun := hM.look Tryz.underlying3 Tryz.underlying3 Tryz.underlying131 hz (wfI (x := id) (by omega));rw [hy.choose_spec] at hrun;have hlp : ∃ _u : Unit,leftP t xs d id = decide (0 ≤ y ∧ y < d) := ⟨(),by unfold leftP;rw [hy.choose_spec]⟩;refine Wp.fn Tryz.func91 rfl Tryz.ntmps91 (by simp) ?_;have xw := Ext.refl w;refine Wp.keep [0,1,2] ?_;rintro r1 ⟨e,f,g,-⟩;simp [go_sem] at e f g;refine sRg fun K' gd hK => ?_;go_simp;apply hK;clear hK K' gd;refine Wp.keep [0,1,2] ?_;rintro r2 ⟨a,b,c,-⟩;simp [go_sem,e,f,g] at a b c;clear e f g
 by_cases k1 : 0 ≤ y
 ·skip;refine sRh fun K' gd hK hg => ?_;have g4 : gd 4 = some 9 := hg 4;clear hg;refine cu3 fun K1 hK1 => ?_;refine Wops.cut 2 fun K2 hK2 => ?_;simp only [tSC,tZ];go_simp;refine hK2 _ _ ?_;clear hK2 K2;simp only [dSC,dZ];obtain _ := True.intro;refine Wops.law rfl (exec_lookup2 rfl hrun (by go_simp) (by go_simp)) ?_;simp only [updO_some,Wops_nil];apply hK1;clear hK1 K1;refine cu5 fun K1 hK1 => ?_;refine Wops.cut 4 fun K2 hK2 => ?_;simp only [tSC,tZ];go_simp;refine hK2 _ _ ?_;clear hK2 K2;simp only [dSC,dZ];obtain _ := True.intro;refine Wops.lawG (by go_simp) (exec_lookup2 rfl hrun (by go_simp) (by go_simp)) ?_;simp only [updO_some,Wops_nil];apply hK1;clear hK1 K1;go_simp;apply hK;clear hK K' gd g4;refine Wp.keep [4] ?_;rintro r3 ⟨h,-⟩;simp [go_sem,a,b,c] at h;clear a b c;refine Wp.ret ?_;refine endK_tmp Tryz.results91 (by decide) ?_;rw [h];exact ⟨by rw [hlp.choose_spec];first | (simp [k1];done) | rfl,xw⟩
 ·skip;refine sRh fun K' gd hK hg => ?_;have g4 : gd 4 = some 9 := hg 4;clear hg;refine cu3 fun K1 hK1 => ?_;refine Wops.cut 2 fun K2 hK2 => ?_;simp only [tSC,tZ];go_simp;refine hK2 _ _ ?_;clear hK2 K2;simp only [dSC,dZ];obtain _ := True.intro;refine Wops.law rfl (exec_lookup2 rfl hrun (by go_simp) (by go_simp)) ?_;simp only [updO_some,Wops_nil];apply hK1;clear hK1 K1;refine cu5 fun K1 hK1 => ?_;refine Wops.cut 4 fun K2 hK2 => ?_;simp only [tSC,tZ];go_simp;refine hK2 _ _ ?_;clear hK2 K2;simp only [dSC,dZ];refine Wops.skipG (by go_simp) ?_;simp only [updO_some,updO_none,Wops_nil];apply hK1;clear hK1 K1;go_simp;apply hK;clear hK K' gd g4;refine Wp.keep [4] ?_;rintro r4 ⟨i,-⟩;simp [go_sem,a,b,c] at i;clear a b c;refine Wp.ret ?_;refine endK_tmp Tryz.results91 (by decide) ?_;rw [i];exact ⟨by rw [hlp.choose_spec];first | (simp [k1];done) | rfl,xw⟩
theorem tbl_T : ElemT Tryz.prog 48 22 1 := elemT_of (by kernel_rfl)
theorem IntMap.congr {P : Program} {tk te : TypeId} {w : World} {b k : Nat} {f g : Int → Int} (h : IntMap P tk te w b k f) (hg : ∀ x,f x = g x) : IntMap P tk te w b k g := by
 rwa [show g = f from funext fun x => (hg x).symm]
structure OwnTb (w : World) (base : Nat) (v : Value) (ls : List (List Int)) : Prop where
 ex : ∃ vs : List Value,w.ownsRow base 22 1 v ls.length vs ∧ vs.length = ls.length ∧ ∀ i (h : i < vs.length) (h' : i < ls.length),IntsB w base vs[i] ls[i] ∧ (ls[i] ≠ [] → ∀ b,vs[i].ownBlock = some b → v.ownBlock ≠ some b)
section
variable {w w' : World} {base b2 : Nat} {v : Value} {ls : List (List Int)}
theorem IntsB.chgN {xs : List Int} {L : List Nat} (h : IntsB w base v xs) (hC : Chg L w w') (hL : xs ≠ [] → ∀ b,v.ownBlock = some b → b ∉ L) : IntsB w' base v xs := by
 obtain ⟨A,c,rfl,hx,hcap⟩ := h
 exact ⟨A,c,rfl,fun hne => by
  obtain ⟨b,o,rfl,h1,h2,h3⟩ := hx hne
  exact ⟨b,o,rfl,h1,Nat.lt_of_lt_of_le h2 hC.size,fun k hk => Chg.cell hC (h3 k hk) (hL hne b rfl)⟩,hcap⟩
theorem IntsB.blk {xs : List Int} (h : IntsB w base v xs) (hne : xs ≠ []) {b : Nat} (hb : v.ownBlock = some b) : base ≤ b ∧ b < w.heap.size := by
 obtain ⟨A,c,rfl,hx,hcap⟩ := h;obtain ⟨b',o,rfl,h1,h2,h3⟩ := hx hne;obtain rfl : b' = b := by injection hb
 exact ⟨h1,h2⟩
theorem OwnTb.nil (w : World) (base : Nat) : OwnTb w base (.slice none 0 0) [] := ⟨[],World.ownsRow_nil _ _ _ _,rfl,fun i h => absurd h (Nat.not_lt_zero _)⟩
theorem OwnTb.ext (h : OwnTb w base v ls) (hE : Ext w w') : OwnTb w' base v ls := by
 obtain ⟨vs,h1,h2,h3⟩ := h.ex;exact ⟨vs,ownsRow_ext h1 hE,h2,fun i a b => ⟨(h3 i a b).1.ext hE,(h3 i a b).2⟩⟩
theorem OwnTb.less (h : OwnTb w base v ls) (hb : b2 ≤ base) : OwnTb w b2 v ls := by
 obtain ⟨vs,h1,h2,h3⟩ := h.ex;exact ⟨vs,ownsRow_less h1 hb,h2,fun i a b => ⟨(h3 i a b).1.less hb,(h3 i a b).2⟩⟩
theorem OwnTb.lt (h : OwnTb w base v ls) : ∀ k,v.ownBlock = some k → base ≤ k ∧ k < w.heap.size := by
 obtain ⟨vs,h1,h2,h3⟩ := h.ex;exact World.ownsRow.lt h1
theorem OwnTb.push (h : OwnTb w base v ls) {n c : Nat} {u : Value} {z : List Int} (ty : TypeId) (hc : w.cell? ⟨n,0,none⟩ = some u) (hu : u.oneCell' = true) (hz : IntsB w base u z) (hne : z ≠ [] → ∀ b,u.ownBlock = some b → v.ownBlock ≠ some b) (hl : ls.length ≤ 1000) (hb : base ≤ w.heap.size) :
  ∃ v' w',(Builtin.append_ #[48,48] ty #[v,.slice (some ⟨n,0,none⟩) 1 c]).run Tryz.prog w = .ok v' w' ∧ OwnTb w' base v' (ls ++ [z]) ∧ w.grownBy w' v.ownBlock := by
 obtain ⟨vs,h1,h2,h3⟩ := h.ex;obtain ⟨v',w',hrun,hO,hg,hbk⟩ := app_run2 tbl_T h1 ⟨n,0,none⟩ 1 c [u] ty rfl (news_one hc) (one_one hu) (by omega) hb;have hC := grown_chg hg;have hL : ∀ b,b ∈ v.ownBlock.toList → v.ownBlock = some b := fun b hm => by simpa using hm
 have key : ∀ {x : Value} {y : List Int},IntsB w base x y → (y ≠ [] → ∀ b,x.ownBlock = some b → v.ownBlock ≠ some b) → IntsB w' base x y ∧ (y ≠ [] → ∀ b,x.ownBlock = some b → v'.ownBlock ≠ some b) := fun hx hn =>
  ⟨hx.chgN hC fun e b hb2 hm => hn e b hb2 (hL b hm),fun e b hb2 => by
   rcases hbk with q | q
   ·rw [q];exact hn e b hb2
   ·rw [q];intro e2;injection e2 with e2;have := (hx.blk e hb2).2;omega⟩
 refine ⟨v',w',hrun,⟨vs ++ [u],by rw [List.length_append];exact hO,by simp [h2],fun i a b => ?_⟩,hg⟩
 by_cases e : i < vs.length
 ·rw [List.getElem_append_left e];simp only [List.getElem_append_left (show i < ls.length by omega)];exact key (h3 i e (by omega)).1 (h3 i e (by omega)).2
 ·have hi : i = vs.length := by simp at a;omega
  subst hi;have e1 : (vs ++ [u])[vs.length]'a = u := by simp
  have e2 : (ls ++ [z])[vs.length]'b = z := by simp [h2]
  rw [e1,e2];exact key hz hne
end
theorem OwnTb.slice {w : World} {base : Nat} {v : Value} {ls : List (List Int)} {k : Nat} (h : OwnTb w base v ls) (hk : ls.length = k) : ∃ A c,v = .slice A k c := by
 obtain ⟨vs,h1,h2,h3⟩ := h.ex
 rcases h1.2 with ⟨rfl,hn⟩ | ⟨g,cap,cur,rfl,hb,hg,hnc,hcm,hcs,htake⟩
 ·exact ⟨none,0,by rw [← hk,hn]⟩
 ·exact ⟨_,_,by rw [hk]⟩
theorem listed_id {t : Tr} (hg : GoodT t) {ids : List Int} (h : ListOk t.fl ids) : ∀ a ∈ ids,1 ≤ a ∧ a ≤ 1099511627776 := by
 intro a ha;obtain ⟨k,hk,rfl⟩ := List.getElem_of_mem ha;have h1 := (h k hk).1;rw [gI_lt hk] at h1
 rcases posF_cases t.fl ids[k] with ⟨i,hi,_,e⟩ | ⟨e,_⟩
 ·have := (hg.ok _ (List.getElem_mem hi)).1;rw [e] at this;exact this
 ·omega
theorem spread_1 {t : Tr} {m : Md} {l : List Tk} (h : ¬ checkT t = 0) : spreadE t m l = checkT t := if_pos h
theorem spread_2 {t : Tr} {m : Md} {l : List Tk} (h : checkT t = 0) (h2 : m.on.length ≠ t.fl.length ∨ 0 ≤ wrongI t m.on) : spreadE t m l = 1 := by unfold spreadE;rw [if_neg (not_not_intro h),if_pos h2]
theorem spread_3 {t : Tr} {m : Md} {l : List Tk} (h : checkT t = 0) (h1 : m.on.length = t.fl.length) (h2 : ¬ 0 ≤ wrongI t m.on) : spreadE t m l = takE t l := by unfold spreadE;rw [if_neg (not_not_intro h),if_neg (fun q => q.elim (fun e => e h1) h2)]
theorem spread_no {t : Tr} {m : Md} {l : List Tk} {w : World} {base : Nat} (h : ¬ spreadE t m l = 0) : OwnTb w base (.slice none 0 0) (spreadL t m l) := by unfold spreadL;rw [if_neg h];exact OwnTb.nil _ _
theorem Spread_c (t : Tr) (m : Md) (l : List Tk) (v mv lv : Value) (w : World) (hV : TourV w w.heap.size v t) (hX : MendV w w.heap.size mv m) (hL : TakersV w w.heap.size lv l) (hf : FitT t) (hl : checkT t = 0 → t.fl.length ≤ 12) (hl2 : ∀ x ∈ l,x.fl.length ≤ 1000) :
  CallsV Tryz.prog 22 #[v,mv,lv] w fun v' w' => (∃ tv,v' = .tuple #[tv,.int .i64 (spreadE t m l)] ∧ OwnTb w' w.heap.size tv (spreadL t m l)) ∧ Ext w w' := by
 obtain ⟨A,c,A2,c2,rfl,hI,hF⟩ := hV.open';obtain ⟨mx,mz,rfl,hX,hZ⟩ := hX;obtain ⟨A1,c1,rfl,-,-⟩ := id hL;obtain ⟨A3,c3,rfl,-,-⟩ := id hX;have hTS : TourS w w.heap.size (.agg #[.int .i64 t.n,.slice A t.cl.length c,.slice A2 t.fl.length c2]) t := ⟨hV⟩;have hFS : FlawsS w w.heap.size (.slice A2 t.fl.length c2) t.fl := ⟨hF⟩;have hLS : TakersS w w.heap.size (.slice A1 l.length c1) l := ⟨hL⟩;have hXS : IntsS w w.heap.size (.slice A3 m.on.length c3) m.on := ⟨hX⟩;clear hV hI hF hL hX hZ;replace hl2 : ∃ _u : Unit,_ := ⟨(),hl2⟩;obtain ⟨n,hn⟩ : ∃ n,∃ _u : Unit,t.n.toNat = n := ⟨_,(),rfl⟩;refine Wp.fn Tryz.func22 rfl Tryz.ntmps22 (by simp) ?_;have xw := Ext.refl w;refine Wp.keep [0,1,2] ?_;rintro r1 ⟨ar,aL,aM,-⟩;simp [go_sem] at ar aL aM;refine sRg fun K' gd hK => ?_;refine cu1 fun K1 hK1 => ?_;go_simp;apply hK1;clear hK1 K1;refine Wops.absA fun cd n3 u => ?_;obtain ⟨q3,u,s3,al,f3,r3⟩ := u;try simp only [q3] at al f3 r3 ⊢
 replace hTS := hTS.ext u;replace hFS := hFS.ext u;replace hLS := hLS.ext u;replace hXS := hXS.ext u;replace xw := xw.trans u;have C := al 0 _ rfl;have D := al 1 _ rfl;have f := al 2 _ rfl;clear al u;clear r3;refine cu1 fun K1 hK1 => ?_;go_simp;apply hK1;clear hK1 K1;refine Wops.absA fun cf n4 q => ?_;obtain ⟨q4,q,s4,bG,f4,r4⟩ := q;try simp only [q4] at bG f4 r4 ⊢
 replace hTS := hTS.ext q;replace hFS := hFS.ext q;replace hLS := hLS.ext q;replace hXS := hXS.ext q;replace xw := xw.trans q;replace C := q.cell C;replace D := q.cell D;replace f := q.cell f;have d := bG 0 _ rfl;clear bG q;clear r4;go_simp;apply hK;clear hK K' gd;refine Wp.keep [2,3,4] ?_;rintro r2 ⟨aT,a3,bn,-⟩;simp [go_sem,ar,aL,aM] at aT a3 bn;clear ar aL aM;refine Wp.seq ?_;refine sRg fun K' gd hK => ?_;refine cu2 fun K1 hK1 => ?_;go_simp;refine Wcall (.inl rfl) (check_c t _ _ (hTS.v.more (Below.size (XE))) hf) ?_;rintro v w2 ⟨rfl,hE⟩;go_simp;apply hK1;clear hK1 K1;have z3 := Below.size hE;replace hTS := hTS.ext hE;replace hFS := hFS.ext hE;replace hLS := hLS.ext hE;replace hXS := hXS.ext hE;replace xw := xw.trans hE;replace C := hE.cell C;replace D := hE.cell D;replace f := hE.cell f;replace d := hE.cell d;clear hE;go_simp;apply hK;clear hK K' gd;refine Wp.keep [2,3,4,8] ?_;rintro r4 ⟨M,R,ab,ai,-⟩;simp [go_sem,aT,a3,bn] at M R ab ai;clear aT a3 bn
 by_cases h0 : checkT t = 0
 ·skip;have hg := checkT_zero.1 h0;have hP : PlanT t n := by rw [← hn.choose_spec];exact hg.plan (hl h0)
  have hm12 := hP.fl;refine sRg fun K' gd hK => ?_;go_simp;apply hK;clear hK K' gd;refine Wp.keep [2,3,4,8,19] ?_;rintro r5 ⟨N,S,ac,aj,J,-⟩;simp [go_sem,M,R,ab,ai] at N S ac aj J;clear M R ab ai;refine cFf ?_
  by_cases h1 : m.on.length = t.fl.length
  ·skip;replace h1 : ∃ _u : Unit,_ := ⟨(),h1⟩;have h1i : ((m.on.length : Int) = (t.fl.length : Int)) = True := by simp [h1.choose_spec]
   refine skN ?_;refine Wp.seq ?_;refine sRh fun K' gd hK hg => ?_;have g7 : gd 7 = some 28 := hg 7;clear hg;refine cu12 fun K1 hK1 => ?_;go_simp;refine Wcall (.inl rfl) (wrong_c t n m.on _ _ _ hP (hTS.v.more (Below.size (XE))) (hXS.v.more (Below.size (XE))) h1.choose_spec) ?_;rintro v w4 ⟨rfl,hE⟩;go_simp;apply hK1;clear hK1 K1;have z6 := Below.size hE;replace hTS := hTS.ext hE;replace hFS := hFS.ext hE;replace hLS := hLS.ext hE;replace hXS := hXS.ext hE;replace xw := xw.trans hE;replace C := hE.cell C;replace D := hE.cell D;replace f := hE.cell f;replace d := hE.cell d;clear hE;go_simp;apply hK;clear hK K' gd g7;refine Wp.keep [2,3,4,34] ?_;rintro r7 ⟨O,T,ad,P,-⟩;simp [go_sem,N,S,ac,aj,J] at O T ad P;clear N S ac aj J
   by_cases h2 : 0 ≤ wrongI t m.on
   ·skip;have hse := spread_2 (m := m) (l := l) h0 (.inr h2);replace hse : ∃ _u : Unit,_ := ⟨(),hse⟩;refine cTt ?_;refine sRg fun K' gd hK => ?_;go_simp;apply hK;clear hK K' gd;refine Wp.keep [6,7] ?_;rintro r8 ⟨b0,b6,-⟩;simp [go_sem,O,T,ad,P] at b0 b6;clear O T ad P;refine Wp.ret ?_;refine tRe ?_;refine endK_tmp2 Tryz.results22 (by decide) (by decide) ?_;rw [b0,b6];exact ⟨⟨_,by rw [hse.choose_spec],spread_no (by rw [hse.choose_spec];decide)⟩,xw⟩
   ·skip;have hse : ∃ _u : Unit,spreadE t m l = takE t l := ⟨(),spread_3 h0 h1.choose_spec h2⟩;refine cFf ?_;refine skN ?_;refine Wp.seq ?_;refine sRg fun K' gd hK => ?_;refine cu3 fun K1 hK1 => ?_;go_simp;refine Wcall (.inl rfl) (takers_c t l _ _ _ hg (hTS.v.more (Below.size (XE))) (hLS.v.more (Below.size (XE))) hl2.choose_spec) ?_;rintro v w5 ⟨rfl,hE⟩;go_simp;apply hK1;clear hK1 K1;have z9 := Below.size hE;replace hTS := hTS.ext hE;replace hFS := hFS.ext hE;replace hLS := hLS.ext hE;replace hXS := hXS.ext hE;replace xw := xw.trans hE;replace f := hE.cell f;replace d := hE.cell d;clear hE;go_simp;apply hK;clear hK K' gd;refine Wp.keep [2,3,4,9] ?_;rintro r10 ⟨K,Q,Z,ak,-⟩;simp [go_sem,O,T,ad,P] at K Q Z ak;clear O T ad P
    by_cases h3 : takE t l = 0
    ·skip;obtain ⟨hl40,htok⟩ := takE_zero h3;replace htok : ∃ _u : Unit,_ := ⟨(),htok⟩;refine sRg fun K' gd hK => ?_;go_simp;apply hK;clear hK K' gd;refine Wp.keep [2,3,4,9,39] ?_;rintro r11 ⟨aN,a1,bh,bD,aZ,-⟩;simp [go_sem,K,Q,Z,ak] at aN a1 bh bD aZ;clear K Q Z ak;refine cFf ?_;have hTS_xa := hTS;have hFS_xa := hFS;have hLS_xa := hLS;have hXS_xa := hXS;have xw_xa := xw;have c3_2_xa := f;have c4_0_xa := d;have xa := Ext.refl w5;refine skN ?_;refine sRg fun K' gd hK => ?_;refine cu1 fun K1 hK1 => ?_;go_simp;apply hK1;clear hK1 K1;refine Wops.absI fun ce n41 p => ?_;obtain ⟨q41,p,s41,m41⟩ := p;try simp only [q41] at m41 ⊢
     replace hTS := hTS.ext p;replace hFS := hFS.ext p;replace hLS := hLS.ext p;replace hXS := hXS.ext p;replace xw := xw.trans p;replace xa := xa.trans p;replace f := p.cell f;replace d := p.cell d;clear p;have hM41 := m41 Tryz.prog 3 3;clear m41;refine cu2 fun K1 hK1 => ?_;go_simp;apply hK1;clear hK1 K1;refine Wops.absA fun b9 n10 h => ?_;obtain ⟨q10,h,s10,bF,f10,r10⟩ := h;try simp only [q10] at bF f10 r10 ⊢
     replace hTS := hTS.ext h;replace hFS := hFS.ext h;replace hLS := hLS.ext h;replace hXS := hXS.ext h;replace hM41 := hM41.ext h;replace xw := xw.trans h;replace xa := xa.trans h;replace f := h.cell f;replace d := h.cell d;have b7 := bF 0 _ rfl;clear bF h;clear r10;try simp only [Wops_nil,updO_some,updO_none]
     apply hK;clear hK K' gd;refine Wp.keep [2,3,4,10] ?_;rintro r12 ⟨aO,a2,bi,au,-⟩;simp [go_sem,aN,a1,bh,bD,aZ] at aO a2 bi au;clear aN a1 bh bD aZ;refine Wp.seq ?_;refine sRg fun K' gd hK => ?_;go_simp;apply hK;clear hK K' gd;refine Wp.keep [2,4,10,43,44,45] ?_;rintro r13 ⟨aP,bj,av,a7,bb,bP,-⟩;simp [go_sem,aO,a2,bi,au] at aP bj av a7 bb bP;clear aO a2 bi au;refine Wp.block ?_;refine Wp.loop (fun k ρ ds wk => AllEq [2,4,10,43,44] ρ r13 ∧ ds = [] ∧ (Ext w5 wk) ∧ (ρ 45 = .int .i64 (k : Int) ∧ IntMap Tryz.prog 3 3 wk n41 k (mapN t.fl m.on k) ∧ wk.cell? ⟨n10,0,none⟩ = some (.map (some n41)))) (t.fl.length) ?_ ?_
     ·refine ⟨AllEq.refl _ _,rfl,xa,?_⟩;exact ⟨by rw [bP];rfl,hM41,b7⟩
     ·rintro k r14 _ wk hk ⟨hA,rfl,xo,⟨e45,hM,z10⟩⟩;obtain ⟨aQ,bk,aw,a8,bc,-⟩ := hA;rw [aP] at aQ;rw [bj] at bk;rw [av] at aw;rw [a7] at a8;rw [bb] at bc;have hTS := hTS_xa;have hFS := hFS_xa;have hLS := hLS_xa;have hXS := hXS_xa;have xw := xw_xa;have f := c3_2_xa;have d := c4_0_xa;replace hTS := hTS.ext xo;replace hFS := hFS.ext xo;replace hLS := hLS.ext xo;replace hXS := hXS.ext xo;replace xw := Ext.trans xw xo;replace f := Ext.cell xo f;replace d := Ext.cell xo d;refine sRg fun K' gd hK => ?_;go_simp;apply hK;clear hK K' gd;refine Wp.keep [2,4,10,43,44,45,46] ?_;rintro r15 ⟨L,aa,F,U,V,X,Y,-⟩;simp [go_sem,aQ,bk,aw,a8,bc,e45] at L aa F U V X Y;clear aQ bk aw a8 bc e45;refine Wp.seq ?_
      by_cases hk : k < t.fl.length
      ·refine cTt ?_;have hkl : (k : Int) < (t.fl.length : Int) := by omega
       have hkx : k < m.on.length := by have := h1.choose_spec;omega
       have hkm : (k : Int) < (m.on.length : Int) := by omega
       obtain ⟨b,o,cc,ev,hb,hcc⟩ := hXS.v.get hkx
       injection ev with ev1 _ ev2
       subst ev1;subst ev2;have d1 := hcc k hkx;clear hcc;obtain ⟨b2,o2,eA,hb2,x0,x1,x2,x3⟩ := FlawsV.at hFS.v hk;subst eA;have hid := (hg.ok _ (List.getElem_mem hk)).1;have hday := day_ok hP h1.choose_spec h2 hkx;have hlM := hM.lt;have lz10 : n10 < wk.heap.size := cell_lt z10;refine skN ?_;refine sBk ?_;refine sRg fun K' gd hK => ?_;refine cu4 fun K1 hK1 => ?_;go_simp;apply hK1;clear hK1 K1;refine Wops.absA fun ca n12 s => ?_;obtain ⟨q12,s,s12,E,f12,r12⟩ := s;try simp only [q12] at E f12 r12 ⊢
       replace hM := hM.ext s;replace xw := xw.trans s;replace xo := xo.trans s;replace d := s.cell d;replace d1 := s.cell d1;replace z10 := s.cell z10;have B := E 0 _ rfl;have am := E 1 _ rfl;have an := E 2 _ rfl;have ao := E 3 _ rfl;clear E s;clear r12;refine cu2 fun K1 hK1 => ?_;go_simp;apply hK1;clear hK1 K1;refine Wops.absS (b := n12) (i := 0) [_,_,_,_] (somes [cellVal B,cellVal am,cellVal an,cellVal ao] (by simp) (by intro j v hj;match j,hj with | 0,hj => (simp at hj;subst hj;exact B) | 1,hj => (simp at hj;subst hj;exact am) | 2,hj => (simp at hj;subst hj;exact an) | 3,hj => (simp at hj;subst hj;exact ao))) fun P8 hP8 => ?_;have zP8 := hP8.same;replace hM := hM.put hP8 (by omega);replace xw := Put.to xw hP8 (by omega);replace xo := Put.to xo hP8 (by omega);replace d := hP8.cell d (by omega);replace d1 := hP8.cell d1 (by omega);replace z10 := hP8.cell z10 (by omega);clear B;clear am;clear an;clear ao;have B := hP8.new 0 _ rfl;try simp only [Nat.reduceAdd,Nat.zero_add,Nat.add_zero] at B
       try simp only [Nat.reduceAdd,Nat.zero_add,Nat.add_zero] at am
       try simp only [Nat.reduceAdd,Nat.zero_add,Nat.add_zero] at an
       try simp only [Nat.reduceAdd,Nat.zero_add,Nat.add_zero] at ao
       clear hP8;try simp only [Wops_nil,updO_some,updO_none]
       apply hK;clear hK K' gd;refine Wp.keep [2,4,10,11,12,43,44,45] ?_;rintro r16 ⟨aR,bl,ax,aE,aF,a9,bd,bf,-⟩;simp [go_sem,L,aa,F,U,V,X,Y] at aR bl ax aE aF a9 bd bf;clear L aa F U V X Y;refine Wp.loneDraw (.inl rfl) mixed [([0,1,2,3,4],none),([5,6,7],some (8,true))] (by kernel_rfl) fun K' gd hK hg => ?_;clear hg;simp only [pick,nth,List.map_cons,List.map_nil,Option.map_none,Option.map_some];refine Mops.absD fun D9 hD9 zD9 => ?_;replace hM := hM.ext hD9;replace xw := xw.trans hD9;replace xo := xo.trans hD9;replace d := hD9.cell d;replace d1 := hD9.cell d1;replace z10 := hD9.cell z10;replace B := hD9.cell B;clear hD9;refine mNo ?_
       refine mLa ?_
       intro K1 hK1;obtain ⟨w7,hrun,hM2,hgr⟩ := hM.add Tryz.underlying3 Tryz.underlying3 Tryz.underlying131 (by omega) (wfI (x := t.fl[k].id) (by omega)) (wfI (x := gI m.on k) (by omega));refine if_pos_of rfl (Wstep.lawS (exec_mapUpdate2 rfl hrun (by go_simp) (by go_simp) (by go_simp)) ?_);apply hK1;clear hK1 K1;replace xw := Chg.to xw (grown_chg hgr) (lt_ge (show ∀ k,some n41 = some k → n41 ≤ k ∧ k < n41 + 1 from fun k hk => by injection hk with hk;omega) (by omega));replace xo := Chg.to xo (grown_chg hgr) (lt_ge (show ∀ k,some n41 = some k → n41 ≤ k ∧ k < n41 + 1 from fun k hk => by injection hk with hk;omega) (by omega));replace z10 := Chg.cell (grown_chg hgr) z10 (lt_off (show ∀ k,some n41 = some k → n41 ≤ k ∧ k < n41 + 1 from fun k hk => by injection hk with hk;omega) (by omega));refine Mops.done ?_;apply hK;clear hK K' gd;refine Ends.keep [2,4,10,43,44,45] ?_;rintro r18 ⟨aS,bm,ay,ba,be,bg,-⟩;simp [go_sem,aR,bl,ax,aE,aF,a9,bd,bf] at aS bm ay ba be bg;clear aR bl ax aE aF a9 bd bf;refine Ends.mk ?_;refine bNo ?_;refine tNo ?_;refine lRg fun K' gd hK => ?_;go_simp;apply hK;clear hK K' gd;refine Ends.keep [2,4,10,43,44,45] ?_;rintro r19 ⟨bM,bR,bI,bN,bO,bQ,-⟩
       simp [go_sem,aS,bm,ay,ba,be,bg] at bM bR bI bN bO bQ;clear aS bm ay ba be bg;refine Ends.mk ?_;refine thenK_normal ⟨by omega,⟨by rw [bM,aP],by rw [bR,bj],by rw [bI,av],by rw [bN,a7],by rw [bO,bb],trivial⟩,rfl,xo,?_⟩;exact ⟨by rw [bQ,IntWalk.i64_in _ (by omega)];rfl,IntMap.congr hM2 fun y => by rw [mapN,idAt_at hk],z10⟩
      ·refine cFf ?_;obtain rfl : k = t.fl.length := by omega
       have hlM := hM.lt;have lz10 : n10 < wk.heap.size := cell_lt z10;refine Wp.exit ?_;refine tEx ?_;refine tEx ?_;refine blockK_here ?_;refine tNo ?_;refine sRg fun K' gd hK => ?_;go_simp;apply hK;clear hK K' gd;refine Wp.keep [2,10,13] ?_;rintro r20 ⟨aU,az,aG,-⟩;simp [go_sem,L,aa,F,U,V,X,Y] at aU az aG;clear L aa F U V X Y;refine Wp.seq ?_;obtain ⟨B0,hB0,hB1⟩ : ∃ B0 : Nat,B0 ≤ wk.heap.size ∧ wk.heap.size ≤ B0 := ⟨_,Nat.le_refl _,Nat.le_refl _⟩;have hLS_xb := hLS;have xw_xb := xw;have xo_xb := xo;have hM_xb := hM;have z10_xb := z10;have xb := Ext.refl wk;refine sRg fun K' gd hK => ?_;go_simp;apply hK;clear hK K' gd;refine Wp.keep [10,13,59,60,61] ?_;rintro r21 ⟨aA,bK,br,bv,bU,-⟩;simp [go_sem,aU,az,aG] at aA bK br bv bU;clear aU az aG;refine Wp.block ?_;refine Wp.loop (fun i ρ ds wi => AllEq [10,59,60] ρ r21 ∧ ds = [] ∧ (Ext wk wi) ∧ (∃ (A5 : Option Addr) (c5 : Nat),ρ 61 = .int .i64 (i : Int) ∧ ρ 13 = .slice A5 i c5 ∧ OwnTb wi B0 (.slice A5 i c5) ((l.take i).map (leftL t m.on)))) (l.length) ?_ ?_
       ·refine ⟨AllEq.refl _ _,rfl,xb,?_⟩;exact ⟨none,0,by rw [bU];rfl,by rw [bK],OwnTb.nil _ _⟩
       ·rintro i r22 _ wi hi ⟨hA,rfl,xp,⟨A5,c5,e61,e13,hT⟩⟩;obtain ⟨aB,bs,bw,-⟩ := hA;rw [aA] at aB;rw [br] at bs;rw [bv] at bw;have zxp := Below.size xp;have hLS := hLS_xb;have xw := xw_xb;have xo := xo_xb;have hM := hM_xb;have z10 := z10_xb;replace hLS := hLS.ext xp;replace hM := hM.ext xp;replace xw := Ext.trans xw xp;replace xo := Ext.trans xo xp;replace z10 := Ext.cell xp z10;refine sRg fun K' gd hK => ?_;go_simp;apply hK;clear hK K' gd;refine Wp.keep [10,13,59,60,61,62] ?_;rintro r23 ⟨H,I,ae,af,ag,ah,-⟩;simp [go_sem,aB,e13,bs,bw,e61] at H I ae af ag ah;clear aB e13 bs bw e61;refine Wp.seq ?_
        by_cases hi : i < l.length
        ·refine cTt ?_;have hil : (i : Int) < (l.length : Int) := by omega
         obtain ⟨b2,o2,A6,c6,eA,hb2,x0,x1,x2,hI3⟩ := TakersV.at hLS.v hi;subst eA;obtain ⟨G,hG⟩ : ∃ G,∃ _u : Unit,l[i] = G := ⟨_,(),rfl⟩;rw [hG.choose_spec] at x0 x1 x2 hI3;have hGl : G.fl.length ≤ 1000 := by rw [← hG.choose_spec];exact hl2.choose_spec _ (List.getElem_mem hi)
         have hIS : IntsS wi w.heap.size (.slice A6 G.fl.length c6) G.fl := ⟨hI3⟩;clear hI3;have hGt : ∃ _u : Unit,TakOk t G := ⟨(),by rw [← hG.choose_spec];exact htok.choose_spec _ (List.getElem_mem hi)⟩;have xv := Ext.refl wi;refine skN ?_;refine sBk ?_;refine sRg fun K' gd hK => ?_;refine cu4 fun K1 hK1 => ?_;go_simp;apply hK1;clear hK1 K1;refine Wops.absA fun cb n15 r => ?_;obtain ⟨q15,r,s15,ap,f15,r15⟩ := r;try simp only [q15] at ap f15 r15 ⊢
         replace hM := hM.ext r;replace hIS := hIS.ext r;replace xw := xw.trans r;replace xo := xo.trans r;replace xp := xp.trans r;replace xv := xv.trans r;replace z10 := r.cell z10;have aq := ap 1 _ rfl;have ch := ap 2 _ rfl;clear ap r;clear r15;try simp only [Wops_nil,updO_some,updO_none]
         apply hK;clear hK K' gd;refine Wp.keep [10,13,15,59,60,61] ?_;rintro r24 ⟨aC,aH,aJ,bt,bx,bA,-⟩;simp [go_sem,H,I,ae,af,ag,ah] at aC aH aJ bt bx bA;clear H I ae af ag ah;have hids := listed_id hg hGt.choose_spec.1;have ltT := OwnTb.lt hT;refine lRg fun K' gd hK => ?_;refine cu4 fun K1 hK1 => ?_;go_simp;refine Wcall (.inl rfl) (cloneI_c (.slice A6 G.fl.length c6) G.fl _ (hIS.v.more (Below.size (XE))) (by omega)) ?_;rintro v w3 ⟨hO0,hE⟩;have hO := OwnI.less (b2 := n15 + 1) hO0 (by omega);clear hO0;obtain ⟨A7,c7,rfl⟩ := OwnI.slice hO;obtain ⟨g,hg1,hg3,hg2⟩ := own_blk hO (by have := Below.size hE;omega);go_simp;apply hK1;clear hK1 K1;have z25 := Below.size hE;replace hM := hM.ext hE;replace xw := xw.trans hE;replace xo := xo.trans hE;replace xp := xp.trans hE;replace xv := xv.trans hE;replace z10 := hE.cell z10;replace aq := hE.cell aq;clear hE;refine cu2 fun K1 hK1 => ?_;go_simp;refine Wcall (.inl rfl) (deleteO2_c (.slice A7 G.fl.length c7) G.fl (leftP t m.on G.day) 91 (n15 + 1) g #[.pointer (some ⟨n10,0,none⟩),.pointer (some ⟨n15,0,none⟩)] _ hO hg2 (by omega) (enters_of Tryz.func91 (by kernel_rfl) rfl) (fun a ha W hW => spread1_c t m.on a G.day n10 n15 n41 t.fl.length W (hids a ha) (Chg.cell hW z10 (by simp;omega)) (Chg.cell hW aq (by simp;omega)) (hM.chg hW (by simp;omega)))) ?_
         rintro v w4 ⟨⟨hD,hbk⟩,hC⟩;obtain ⟨A8,c8,rfl⟩ := hD.slice;go_simp;apply hK1;clear hK1 K1;have z26 := Chg.size hC;replace xw := Chg.to xw hC XL;replace xo := Chg.to xo hC XL;replace xp := Chg.to xp hC XL;replace xv := Chg.to xv hC XL;refine cu1 fun K1 hK1 => ?_;go_simp;apply hK1;clear hK1 K1;refine Wops.absA fun cg n71 z => ?_;obtain ⟨q71,z,s71,bH,f71,r71⟩ := z;try simp only [q71] at bH f71 r71 ⊢
         replace hD := hD.ext z;replace xw := xw.trans z;replace xo := xo.trans z;replace xp := xp.trans z;replace xv := xv.trans z;clear z f71;have b8 := bH 0 _ rfl;clear bH;refine cu1 fun K1 hK1 => ?_;obtain ⟨v',w7,hrun,hT2,hgr⟩ := OwnTb.push (c := 1) (hT.ext xv) 48 b8 rfl (hD.less (b2 := B0) (by omega)) (fun _ b hb e => by have := hg2 b (by rw [← hbk];exact hb);have := (ltT b e).2;omega) (by rw [List.length_map,List.length_take];omega) (by omega);refine Wops.law rfl (exec_append2 rfl hrun (by go_simp) (by go_simp)) ?_;simp only [updO_some,Wops_nil];apply hK1;clear hK1 K1;replace xw := Chg.to xw (grown_chg hgr) (lt_ge ltT (by omega));replace xo := Chg.to xo (grown_chg hgr) (lt_ge ltT (by omega));replace xp := Chg.to xp (grown_chg hgr) (lt_ge ltT (by omega));obtain ⟨A9,c9,rfl⟩ := OwnTb.slice (k := i + 1) hT2 (by rw [List.length_append,List.length_map,List.length_take,Nat.min_eq_left (by omega)];rfl);go_simp;apply hK;clear hK K' gd;refine Ends.keep [10,13,59,60,61] ?_;rintro r28 ⟨aD,aI,bu,bz,bB,-⟩;simp [go_sem,aC,aH,aJ,bt,bx,bA] at aD aI bu bz bB;clear aC aH aJ bt bx bA;refine Ends.mk ?_;refine bNo ?_;refine tNo ?_
         refine lRg fun K' gd hK => ?_;go_simp;apply hK;clear hK K' gd;refine Ends.keep [10,13,59,60,61] ?_;rintro r29 ⟨bJ,bL,bS,bT,bV,-⟩;simp [go_sem,aD,aI,bu,bz,bB] at bJ bL bS bT bV;clear aD aI bu bz bB;refine Ends.mk ?_;refine thenK_normal ⟨by omega,⟨by rw [bJ,aA],by rw [bS,br],by rw [bT,bv],trivial⟩,rfl,xp,?_⟩;exact ⟨A9,c9,by rw [bV,IntWalk.i64_in _ (by omega)];rfl,by rw [bL],by rw [take_snoc hi,List.map_append,hG.choose_spec];exact hT2⟩
        ·refine cFf ?_;obtain rfl : i = l.length := by omega
         refine Wp.exit ?_;refine tEx ?_;refine tEx ?_;refine blockK_here ?_;refine tNo ?_;refine sRg fun K' gd hK => ?_;go_simp;apply hK;clear hK K' gd;refine Wp.keep [6,7] ?_;rintro r30 ⟨bW,b1,-⟩;simp [go_sem,H,I,ae,af,ag,ah] at bW b1;clear H I ae af ag ah;refine Wp.ret ?_;refine endK_tmp2 Tryz.results22 (by decide) (by decide) ?_;rw [bW,b1];exact ⟨⟨_,by rw [hse.choose_spec,h3],by unfold spreadL;rw [if_pos (by rw [hse.choose_spec];exact h3)];rw [List.take_length] at hT;exact hT.less (by omega)⟩,xw⟩
    ·skip;refine sRg fun K' gd hK => ?_;go_simp;apply hK;clear hK K' gd;refine Wp.keep [2,3,4,9,39] ?_;rintro r31 ⟨aV,a4,bo,bE,a0,-⟩;simp [go_sem,K,Q,Z,ak] at aV a4 bo bE a0;clear K Q Z ak;refine cTt ?_;refine sRg fun K' gd hK => ?_;go_simp;apply hK;clear hK K' gd;refine Wp.keep [6,7] ?_;rintro r32 ⟨bX,b3,-⟩;simp [go_sem,aV,a4,bo,bE,a0] at bX b3;clear aV a4 bo bE a0;refine Wp.ret ?_;refine tRe ?_;refine endK_tmp2 Tryz.results22 (by decide) (by decide) ?_;rw [bX,b3];exact ⟨⟨_,by rw [hse.choose_spec],spread_no (by rw [hse.choose_spec];exact h3)⟩,xw⟩
  ·skip;have h1i : ((m.on.length : Int) = (t.fl.length : Int)) = False := by simp;omega
   have hse : ∃ _u : Unit,spreadE t m l = 1 := ⟨(),spread_2 h0 (.inl h1)⟩;refine skN ?_;refine Wp.seq ?_;refine sRh fun K' gd hK hg => ?_;have g7 : gd 7 = some 28 := hg 7;clear hg;refine cu12 fun K1 hK1 => ?_;go_simp;apply hK1;clear hK1 K1;go_simp;apply hK;clear hK K' gd g7;refine Wp.keep [2,3,4,34] ?_;rintro r33 ⟨aW,a5,bp,aY,-⟩;simp [go_sem,N,S,ac,aj,J] at aW a5 bp aY;clear N S ac aj J;refine cTt ?_;refine sRg fun K' gd hK => ?_;go_simp;apply hK;clear hK K' gd;refine Wp.keep [6,7] ?_;rintro r34 ⟨bY,b4,-⟩;simp [go_sem,aW,a5,bp,aY] at bY b4;clear aW a5 bp aY;refine Wp.ret ?_;refine tRe ?_;refine endK_tmp2 Tryz.results22 (by decide) (by decide) ?_;rw [bY,b4];exact ⟨⟨_,by rw [hse.choose_spec],spread_no (by rw [hse.choose_spec];decide)⟩,xw⟩
 ·skip;refine sRg fun K' gd hK => ?_;go_simp;apply hK;clear hK K' gd;refine Wp.keep [2,3,4,8,19] ?_;rintro r35 ⟨aX,a6,bq,bC,aK,-⟩;simp [go_sem,M,R,ab,ai] at aX a6 bq bC aK;clear M R ab ai;refine cTt ?_;refine sRg fun K' gd hK => ?_;go_simp;apply hK;clear hK K' gd;refine Wp.keep [6,7] ?_;rintro r36 ⟨bZ,b5,-⟩;simp [go_sem,aX,a6,bq,bC,aK] at bZ b5;clear aX a6 bq bC aK;refine Wp.ret ?_;refine tRe ?_;refine endK_tmp2 Tryz.results22 (by decide) (by decide) ?_;rw [bZ,b5];exact ⟨⟨_,by rw [spread_1 h0],spread_no (by rw [spread_1 h0];exact h0)⟩,xw⟩
theorem list_gI {l k : List Int} (h : l.length = k.length) (hg : ∀ i,i < l.length → gI l i = gI k i) : l = k := by
 apply List.ext_getElem h;intro i h1 h2;have := hg i h1;unfold gI at this;rw [List.getElem?_eq_getElem h1,List.getElem?_eq_getElem h2] at this;exact this
def fewT (t : Tr) : Prop := t.cl.length ≤ 70 ∧ (t.fl.length ≤ 8 ∨ 40 < t.fl.length ∧ t.fl.length ≤ 50)
instance (t : Tr) : Decidable (fewT t) := by unfold fewT;infer_instance
end Go.Proofs.YtnklbepeoicgpaaGreat
namespace Go.Proofs.YtnklbepeoicgpaaGreat.St
def Cp.W (c : Cp) (i : Nat) : Int := c.words[i]?.getD 0
structure Md where
 c : Cp
 tab : List (List (Int × Int))
def Md.n (m : Md) : Nat := m.c.words.length
def Md.T (m : Md) (i : Nat) : List (Int × Int) := m.tab[i]?.getD []
def Md.nx (m : Md) (i : Nat) (day : Int) : Int := nextS (m.T i) m.c.e day
def Md.bf (m : Md) (i : Nat) (day : Int) : Int := befS (m.T i) m.c.b day
def Md.first (m : Md) : List Int := firstGo m.nx m.c.b m.c.p.toNat m.n
def Md.last (m : Md) : List Int := lastGo m.bf m.c.e m.c.p.toNat m.n m.n
def Md.ok (m : Md) : Bool := !decide (m.first.getLast? = some 731)
def Md.can (m : Md) (i : Nat) (d : Int) : Prop := inside (m.T i) d
def Md.Fit (m : Md) (ds : Nat → Int) : Prop := FitP m.can m.c.b m.c.e m.c.p.toNat m.n ds
structure MdOk (m : Md) : Prop where
 n1 : 1 ≤ m.n
 n2 : m.n ≤ 40
 len : m.tab.length = m.n
 sp : ∀ i,SpansTo 730 (m.T i)
 lo : ∀ i,∀ x ∈ m.T i,0 ≤ x.1
 many : ∀ i,(m.T i).length ≤ 1000
 b0 : 0 ≤ m.c.b
 be : m.c.b ≤ m.c.e
 e7 : m.c.e ≤ 730
 p1 : 1 ≤ m.c.p
 p2 : m.c.p ≤ 40
namespace MdOk
variable {m : Md}
theorem nxIs (h : MdOk m) (i : Nat) (day : Int) : NextIs (m.can i) m.c.e day (m.nx i day) := next_is (h.sp i) h.e7
theorem bfIs (h : MdOk m) (i : Nat) (day : Int) : BefIs (m.can i) m.c.b day (m.bf i day) := bef_is (h.sp i) h.b0
theorem pp (h : MdOk m) : 1 ≤ m.c.p.toNat := by have := h.p1;omega
theorem first_fit (h : MdOk m) {ds : Nat → Int} (hd : m.Fit ds) : m.first.length = m.n ∧ (∀ x ∈ m.first,x ≠ 731) ∧ m.Fit (gI m.first) ∧ ∀ ds,m.Fit ds → ∀ i,i < m.n → gI m.first i ≤ ds i :=
 first_ok h.pp h.e7 (fun i day _ => h.nxIs i day) hd
theorem ok_of (h : MdOk m) {ds : Nat → Int} (hd : m.Fit ds) : m.ok = true := by
 obtain ⟨h1,h2,-⟩ := h.first_fit hd;unfold Md.ok;rw [decide_eq_false];rfl;exact fun e => h2 731 (List.mem_of_getLast? e) rfl
theorem of_ok (h : MdOk m) (hk : m.ok = true) : m.first.length = m.n ∧ (∀ x ∈ m.first,x ≠ 731) ∧ m.Fit (gI m.first) ∧ ∀ ds,m.Fit ds → ∀ i,i < m.n → gI m.first i ≤ ds i := by
 rcases first_is (b := m.c.b) h.pp h.e7 m.n (fun i day _ => h.nxIs i day) with h1 | ⟨j,h1,h2,h3,h4,h5⟩
 ·exact h1
 ·exfalso
  unfold Md.ok Md.first at hk;rw [h2] at hk;simp at hk
theorem last_fit (h : MdOk m) (hk : m.ok = true) : m.last.length = m.n ∧ m.Fit (gI m.last) ∧ ∀ ds,m.Fit ds → ∀ i,i < m.n → ds i ≤ gI m.last i :=
 last_ok h.pp h.b0 (fun i day _ => h.bfIs i day) (h.of_ok hk).2.2.1
end MdOk
def Sh.tab (s : Sh) (c : Cp) : List (List (Int × Int)) := (List.range c.words.length).map fun i => s.whenL i (c.W i)
def Sh.md (s : Sh) (c : Cp) : Md := ⟨c,s.tab c⟩
theorem Sh.md_T {s : Sh} {c : Cp} {i : Nat} (h : i < c.words.length) : (s.md c).T i = s.whenL i (c.W i) := by
 unfold Sh.md Md.T Sh.tab;simp [h]
theorem Sh.md_T_none {s : Sh} {c : Cp} {i : Nat} (h : c.words.length ≤ i) : (s.md c).T i = [] := by
 unfold Sh.md Md.T Sh.tab;rw [List.getElem?_eq_none (by simpa using h)];rfl
theorem addS_len (out : List (Int × Int)) (lo hi : Int) : (addS out lo hi).length ≤ out.length + 1 := by
 rcases List.eq_nil_or_concat out with rfl | ⟨l,s,rfl⟩
 ·simp [addS]
 ·simp only [List.concat_eq_append,addS_snoc];split <;> simp
theorem whenF_len (w : Int) : ∀ (l : List (Int × Int × Face)) (out : List (Int × Int)),(whenF w l out).length ≤ out.length + l.length
 | [],out => by simp [whenF]
 | x :: l,out => by
   have ih := whenF_len w l (if rds x.2.2 w = true then addS out x.1 x.2.1 else out);have ha := addS_len out x.1 x.2.1;have e : whenF w (x :: l) out = whenF w l (if rds x.2.2 w = true then addS out x.1 x.2.1 else out) := rfl;rw [e,List.length_cons]
   split at ih <;> rename_i hr <;> simp only [hr,if_true,Bool.false_eq_true,if_false] <;> omega
theorem faces_len (i : Int) : ∀ (l : List Alt) (f : Face) (d : Int),(facesL i l f d).length ≤ l.length + 1
 | [],_,_ => by simp [facesL]
 | a :: l,f,d => by
   unfold facesL;have h1 := faces_len i l f d;have h2 := faces_len i l (nxt i f a) a.day
   split
   ·simp;omega
   ·split <;> simp <;> omega
theorem Sh.when_len (s : Sh) (i : Nat) (w : Int) : (s.whenL i w).length ≤ s.alts.length + 1 := by
 have h1 := whenF_len w (s.faces i) [];have h2 := faces_len i s.alts (s.W i,0,false) 0;unfold Sh.whenL;unfold Sh.faces at *;simp at h1;omega
theorem Sh.md_can {s : Sh} (hs : SortA 0 s.alts) {c : Cp} {i : Nat} (h : i < c.words.length) (d : Int) : (s.md c).can i d ↔ 0 ≤ d ∧ d ≤ 730 ∧ s.can i d (c.W i) = true := by
 unfold Md.can;rw [Sh.md_T h];exact (Sh.when_spans hs i _).2 d
theorem Good.mdOk {s : Sh} (g : Good s) {c : Cp} (h : ValidC s c) : MdOk (s.md c) := by
 obtain ⟨h1,h2,h3,h4,h5⟩ := h
 have sp : ∀ i,SpansTo 730 ((s.md c).T i) ∧ (∀ d,inside ((s.md c).T i) d → 0 ≤ d) ∧ ((s.md c).T i).length ≤ 1000 := fun i => by
  rcases Nat.lt_or_ge i c.words.length with hi | hi
  ·rw [Sh.md_T hi];obtain ⟨k1,k2⟩ := Sh.when_spans g.sorted i (c.W i);exact ⟨k1,fun d hd => ((k2 d).1 hd).1,by have := Sh.when_len s i (c.W i);have := g.m2;omega⟩
  ·rw [Sh.md_T_none hi];exact ⟨⟨by simp,by simp⟩,by simp [inside],by simp⟩
 refine ⟨?_,?_,?_,fun i => (sp i).1,fun i x hx => (sp i).2.1 x.1 ⟨x,hx,Int.le_refl _,((sp i).1.1 x hx).1⟩,fun i => (sp i).2.2,h3.1,h3.2,h4,h5.1,h5.2⟩
 ·show 1 ≤ c.words.length;rw [h1];exact g.n1
 ·show c.words.length ≤ 40;rw [h1];exact g.n2
 ·simp [Sh.md,Sh.tab,Md.n]
theorem Sh.fit_iff {s : Sh} (hs : SortA 0 s.alts) {c : Cp} (hb : 0 ≤ c.b) (he : c.e ≤ 730) (ds : Nat → Int) : (s.md c).Fit ds ↔ FitP (fun i d => s.can i d (c.W i) = true) c.b c.e c.p.toNat c.words.length ds := by
 constructor
 ·intro h i hi;obtain ⟨h1,h2,h3,h4⟩ := h i hi;exact ⟨h1,h2,((Sh.md_can hs hi _).1 h3).2.2,h4⟩
 ·intro h i hi;obtain ⟨h1,h2,h3,h4⟩ := h i hi;exact ⟨h1,h2,(Sh.md_can hs hi _).2 ⟨by omega,by omega,h3⟩,h4⟩
end Go.Proofs.YtnklbepeoicgpaaGreat.St
namespace Go.Proofs.YtnklbepeoicgpaaGreat.St
open Go.RowKit Go.Wk Go.Proofs
attribute [local irreducible] Go.Wk.Wops Go.Wk.Wp Go.Wk.Mtree Go.Wk.Mops
set_option maxHeartbeats 8000000
theorem within_c (n lo hi : Int) (w : World) : CallsV Tryz.prog 83 #[.int .i64 n,.int .i64 lo,.int .i64 hi] w fun v w' => v = .bool (decide (lo ≤ n ∧ n ≤ hi)) ∧ w' = w := by
 by_cases h1 : lo ≤ n
 all_goals
 refine Wp.fn Tryz.func83 rfl Tryz.ntmps83 (by simp) ?_;refine Wp.keep [0,1,2] ?_;rintro r1 ⟨a,c,e,-⟩;simp [go_sem] at a c e;refine sRg fun K' gd hK => ?_;go_simp;apply hK;clear hK K' gd;refine Wp.keep [0,1,2] ?_;rintro r2 ⟨b,d,f,-⟩;simp [go_sem,a,c,e] at b d f;clear a c e;refine sRh fun K' gd hK hg => ?_;have g3 : gd 3 = some 10 := hg 3;clear hg;go_simp;apply hK;clear hK K' gd g3;refine Wp.keep [6] ?_;rintro r3 ⟨g,-⟩;simp [go_sem,b,d,f] at g;clear b d f;refine Wp.ret ?_;refine endK_tmp Tryz.results83 (by decide) ?_;rw [g];refine ⟨?_,rfl⟩;go_simp
theorem within_T {n lo hi : Int} (h : lo ≤ n ∧ n ≤ hi) (w : World) : CallsV Tryz.prog 83 #[.int .i64 n,.int .i64 lo,.int .i64 hi] w fun v w' => v = .bool true ∧ Ext w w' :=
 (within_c n lo hi w).mono fun v w' ⟨h1,h2⟩ => ⟨by rw [h1,decide_eq_true h],by rw [h2];exact Ext.refl _⟩
theorem within_F {n lo hi : Int} (h : ¬ (lo ≤ n ∧ n ≤ hi)) (w : World) : CallsV Tryz.prog 83 #[.int .i64 n,.int .i64 lo,.int .i64 hi] w fun v w' => v = .bool false ∧ Ext w w' :=
 (within_c n lo hi w).mono fun v w' ⟨h1,h2⟩ => ⟨by rw [h1,decide_eq_false h],by rw [h2];exact Ext.refl _⟩
theorem indexI_c (v : Value) (xs : List Int) (p : Int → Bool) (gf : Nat) (w : World) (hx : IntsV w w.heap.size v xs) (hl : xs.length ≤ 1000000000000000)
  (heg : ∀ args w,(callFunc gf args).run Tryz.prog w = .ok (.enter gf args) w)
  (hp : ∀ x W,Ext w W → CallsV Tryz.prog gf #[.int .i64 x] W fun v W' => v = .bool (p x) ∧ Ext W W') :
  CallsV Tryz.prog 159 #[v,.func (.func gf) #[] #[]] w fun v w' => ∃ r : Int,v = .int .i64 r ∧ decide (0 ≤ r) = xs.any p ∧ Ext w w' := by
 obtain ⟨A,c,rfl,hx,-⟩ := hx;refine Wp.fn Tryz.func159 rfl Tryz.ntmps159 (by simp) ?_;refine Wp.keep [0,1] ?_;rintro r1 ⟨t,C,-⟩;simp [go_sem] at t C;refine sRg fun K' gd hK => ?_;go_simp;apply hK;clear hK K' gd;refine Wp.keep [0,1] ?_;rintro r2 ⟨u,D,-⟩;simp [go_sem,t,C] at u D;clear t C;refine Wp.seq ?_;refine sRg fun K' gd hK => ?_;go_simp;apply hK;clear hK K' gd;refine Wp.keep [0,1,7,8] ?_;rintro r3 ⟨y,E,I,R,-⟩;simp [go_sem,u,D] at y E I R;clear u D;refine Wp.block ?_;refine Wp.loop (fun k ρ ds wk => AllEq [0,1,7] ρ r3 ∧ ds = [] ∧ (ρ 8 = .int .i64 (k : Int) ∧ (xs.take k).any p = false ∧ Ext w wk)) (xs.length) ?_ ?_
 ·refine ⟨AllEq.refl _ _,rfl,?_⟩;exact ⟨by rw [R];rfl,by simp,Ext.refl w⟩
 ·rintro k r4 _ wk hk ⟨hA,rfl,⟨e8,hn,hE⟩⟩;obtain ⟨z,F,J,-⟩ := hA;rw [y] at z;rw [E] at F;rw [I] at J;refine sRg fun K' gd hK => ?_;go_simp;apply hK;clear hK K' gd;refine Wp.keep [0,1,7,8,9] ?_;rintro r5 ⟨a,g,l,n,s,-⟩;simp [go_sem,z,F,J,e8] at a g l n s;clear z F J e8;refine Wp.seq ?_
  by_cases h : k < xs.length
  ·refine cTt ?_;obtain ⟨b,o,rfl,hb,hc⟩ := hx (by intro e;rw [e] at h;exact absurd h (Nat.not_lt_zero _));have c1 := hE.cell (hc k h);refine skN ?_;refine sBk ?_;refine sRg fun K' gd hK => ?_;go_simp;apply hK;clear hK K' gd;refine Wp.keep [0,1,5,7,8] ?_;rintro r6 ⟨B,G,H,K,L,-⟩;simp [go_sem,a,g,l,n,s] at B G H K L;clear a g l n s;refine sRg fun K' gd hK => ?_;go_simp;refine Wcall (.inl rfl) (hp _ _ hE) ?_;rintro v w2 ⟨rfl,hE2⟩;go_simp;apply hK;clear hK K' gd;refine Wp.keep [0,1,5,7,8,16] ?_;rintro r7 ⟨d,i,j,m,q,f,-⟩;simp [go_sem,B,G,H,K,L] at d i j m q f;clear B G H K L
   by_cases hq : p xs[k] = true
   ·refine cTt ?_;refine sRg fun K' gd hK => ?_;go_simp;apply hK;clear hK K' gd;refine Wp.keep [4] ?_;rintro r8 ⟨P,-⟩;simp [go_sem,d,i,j,m,q,f] at P;clear d i j m q f;refine Wp.ret ?_;refine bRe ?_;refine tRe ?_;refine tRe ?_;refine bRe ?_;refine tRe ?_;refine endK_tmp Tryz.results159 (by decide) ?_;rw [P];refine ⟨_,rfl,?_,hE.trans hE2⟩;rw [List.any_eq_true.2 ⟨xs[k],List.getElem_mem h,hq⟩];simp
   ·refine cFf ?_;refine Wp.skip ?_;refine bNo ?_;refine tNo ?_;refine lRg fun K' gd hK => ?_;go_simp;apply hK;clear hK K' gd;refine Ends.keep [0,1,7,8] ?_;rintro r9 ⟨M,N,Q,S,-⟩;simp [go_sem,d,i,j,m,q,f] at M N Q S;clear d i j m q f;refine Ends.mk ?_;refine thenK_normal ⟨by omega,⟨by rw [M,y],by rw [N,E],by rw [Q,I],trivial⟩,rfl,?_⟩;refine ⟨by rw [S,IntWalk.i64_in _ (by omega)];rfl,?_,hE.trans hE2⟩;rw [List.take_add_one,List.getElem?_eq_getElem h,List.any_append,hn];simpa using hq
  ·refine cFf ?_;refine Wp.exit ?_;refine tEx ?_;refine tEx ?_;refine blockK_here ?_;refine tNo ?_;refine sRg fun K' gd hK => ?_;go_simp;apply hK;clear hK K' gd;refine Wp.keep [4] ?_;rintro r10 ⟨O,-⟩;simp [go_sem,a,g,l,n,s] at O;clear a g l n s;refine Wp.ret ?_;refine endK_tmp Tryz.results159 (by decide) ?_;rw [O];obtain rfl : k = xs.length := by omega
   rw [List.take_length] at hn;exact ⟨_,rfl,by rw [hn];rfl,hE⟩
theorem containsI_c (v : Value) (xs : List Int) (p : Int → Bool) (gf : Nat) (w : World) (hx : IntsV w w.heap.size v xs) (hl : xs.length ≤ 1000000000000000)
  (heg : ∀ args w,(callFunc gf args).run Tryz.prog w = .ok (.enter gf args) w)
  (hp : ∀ x W,Ext w W → CallsV Tryz.prog gf #[.int .i64 x] W fun v W' => v = .bool (p x) ∧ Ext W W') :
  CallsV Tryz.prog 84 #[v,.func (.func gf) #[] #[]] w fun v w' => v = .bool (xs.any p) ∧ Ext w w' := by
 refine Wp.fn Tryz.func84 rfl Tryz.ntmps84 (by simp) ?_;refine Wp.keep [0,1] ?_;rintro r1 ⟨a,c,-⟩;simp [go_sem] at a c;refine sRg fun K' gd hK => ?_;go_simp;apply hK;clear hK K' gd;refine Wp.keep [0,1] ?_;rintro r2 ⟨b,d,-⟩;simp [go_sem,a,c] at b d;clear a c;refine sRg fun K' gd hK => ?_;go_simp;refine Wcall (.inl rfl) (indexI_c v xs p gf w hx hl heg hp) ?_;rintro v w2 ⟨r,rfl,hr,hE⟩;go_simp;apply hK;clear hK K' gd;refine Wp.keep [4] ?_;rintro r3 ⟨e,-⟩;simp [go_sem,b,d] at e;clear b d;refine Wp.ret ?_;refine endK_tmp Tryz.results84 (by decide) ?_;rw [e];exact ⟨by rw [← hr],hE⟩
theorem check1_c (x : Int) (w : World) : CallsV Tryz.prog 85 #[.int .i64 x] w fun v w' => v = .bool (badW x) ∧ Ext w w' := by
 refine Wp.fn Tryz.func85 rfl Tryz.ntmps85 (by simp) ?_;refine Wp.keep [0] ?_;rintro r1 ⟨a,-⟩;simp [go_sem] at a;refine sRg fun K' gd hK => ?_;go_simp;apply hK;clear hK K' gd;refine Wp.keep [0] ?_;rintro r2 ⟨b,-⟩;simp [go_sem,a] at b;clear a;refine sRg fun K' gd hK => ?_;go_simp;refine Wcall (.inl rfl) (within_c x 1 9999 w) ?_;rintro v w2 ⟨rfl,rfl⟩;go_simp;apply hK;clear hK K' gd;refine Wp.keep [2] ?_;rintro r3 ⟨c,-⟩;simp [go_sem,b] at c;clear b;refine Wp.ret ?_;refine endK_tmp Tryz.results85 (by decide) ?_;rw [c];exact ⟨by unfold badW;rw [Bool.decide_and,Bool.not_and],Ext.refl _⟩
theorem valid1_c (x : Int) (w : World) : CallsV Tryz.prog 190 #[.int .i64 x] w fun v w' => v = .bool (badC x) ∧ Ext w w' := by
 refine Wp.fn Tryz.func190 rfl Tryz.ntmps190 (by simp) ?_;refine Wp.keep [0] ?_;rintro r1 ⟨a,-⟩;simp [go_sem] at a;refine sRg fun K' gd hK => ?_;go_simp;apply hK;clear hK K' gd;refine Wp.keep [0] ?_;rintro r2 ⟨b,-⟩;simp [go_sem,a] at b;clear a;refine sRg fun K' gd hK => ?_;go_simp;refine Wcall (.inl rfl) (within_c x 0 9999 w) ?_;rintro v w2 ⟨rfl,rfl⟩;go_simp;apply hK;clear hK K' gd;refine Wp.keep [2] ?_;rintro r3 ⟨c,-⟩;simp [go_sem,b] at c;clear b;refine Wp.ret ?_;refine endK_tmp Tryz.results190 (by decide) ?_;rw [c];exact ⟨by unfold badC;rw [Bool.decide_and,Bool.not_and],Ext.refl _⟩
theorem right_c (v : Value) (s : Sh) (a : Alt) (last : Int) (w : World) (hV : SheetV w w.heap.size v s) (hf : FitS s) :
  CallsV Tryz.prog 86 #[v,.agg #[.int .i64 a.id,.int .i64 a.kind,.int .i64 a.day,.int .i64 a.frm,.int .i64 a.tu,.int .i64 a.word],.int .i64 last] w fun v w' => v = .bool (decide (RightA s.n a last)) ∧ Ext w w' := by
 obtain ⟨wv,av,rfl,⟨A,c,rfl,hx,-⟩,-⟩ := hV;have hw1 : IntKind.i64.wrap ((s.words.length : Int) - 1) = (s.words.length : Int) - 1 := IntWalk.i64_in _ (by have := hf.1;omega);have hn : (s.n : Int) = s.words.length := rfl;clear hf hx;refine Wp.fn Tryz.func86 rfl Tryz.ntmps86 (by simp) ?_;have xw := Ext.refl w;refine Wp.keep [0,1,2] ?_;rintro r1 ⟨g,i,j,-⟩;simp [go_sem] at g i j
 by_cases h1 : 1 ≤ a.id ∧ a.id ≤ 1099511627776
 ·skip
  by_cases h2 : last ≤ a.day ∧ a.day ≤ 730
  ·skip
   by_cases h3 : 0 ≤ a.frm ∧ a.frm ≤ (s.words.length : Int) - 1
   ·skip
    by_cases h4 : a.frm ≤ a.tu ∧ a.tu ≤ (s.words.length : Int) - 1
    ·skip;refine sRg fun K' gd hK => ?_;refine cu1 fun K1 hK1 => ?_;go_simp;apply hK1;clear hK1 K1;refine Wops.absA fun bg n3 Q => ?_;obtain ⟨q3,Q,s3,aX,f3,r3⟩ := Q;try simp only [q3] at aX f3 r3 ⊢
     replace xw := xw.trans Q;have e := aX 0 _ rfl;clear aX Q;clear r3;refine cu1 fun K1 hK1 => ?_;go_simp;apply hK1;clear hK1 K1;refine Wops.absA fun bm n4 K => ?_;obtain ⟨q4,K,s4,m,f4,r4⟩ := K;try simp only [q4] at m f4 r4 ⊢
     replace xw := xw.trans K;replace e := K.cell e;have P := m 0 _ rfl;have k := m 1 _ rfl;have f := m 2 _ rfl;have b := m 3 _ rfl;have d := m 4 _ rfl;have l := m 5 _ rfl;clear m K;clear r4;go_simp;apply hK;clear hK K' gd;refine Wp.keep [2,3,4] ?_;rintro r2 ⟨W,ak,aC,-⟩;simp [go_sem,g,i,j] at W ak aC;clear g i j;refine sRg fun K' gd hK => ?_;go_simp;apply hK;clear hK K' gd;refine Wp.keep [2,4,7] ?_;rintro r3 ⟨X,aD,aS,-⟩;simp [go_sem,W,ak,aC] at X aD aS;clear W ak aC;refine Wp.seq ?_;refine sRh fun K' gd hK hg => ?_;have g4 : gd 4 = some 16 := hg 4;have g11 : gd 11 = some 23 := hg 11;have g18 : gd 18 = some 30 := hg 18;clear hg;refine cu3 fun K1 hK1 => ?_;go_simp;refine Wcall (.inl rfl) (within_T h1 _) ?_;rintro v w2 ⟨rfl,hE⟩;go_simp;apply hK1;clear hK1 K1;replace xw := xw.trans hE;replace k := hE.cell k;replace f := hE.cell f;replace b := hE.cell b;replace d := hE.cell d;replace l := hE.cell l;clear hE;refine cu6 fun K1 hK1 => ?_
     go_simp;refine Wcall (.inl rfl) (within_T h2 _) ?_;rintro v w3 ⟨rfl,hE⟩;go_simp;apply hK1;clear hK1 K1;replace xw := xw.trans hE;replace k := hE.cell k;replace b := hE.cell b;replace d := hE.cell d;replace l := hE.cell l;clear hE;refine cu7 fun K1 hK1 => ?_;go_simp;refine Wcall (.inl rfl) (within_T h3 _) ?_;rintro v w4 ⟨rfl,hE⟩;go_simp;apply hK1;clear hK1 K1;replace xw := xw.trans hE;replace k := hE.cell k;replace b := hE.cell b;replace d := hE.cell d;replace l := hE.cell l;clear hE;refine cu9 fun K1 hK1 => ?_;go_simp;refine Wcall (.inl rfl) (within_T h4 _) ?_;rintro v w5 ⟨rfl,hE⟩;go_simp;apply hK1;clear hK1 K1;replace xw := xw.trans hE;replace k := hE.cell k;replace b := hE.cell b;replace d := hE.cell d;replace l := hE.cell l;clear hE;go_simp;apply hK;clear hK K' gd g4 g11 g18;refine Wp.keep [4,38] ?_;rintro r8 ⟨I,x,-⟩;simp [go_sem,X,aD,aS] at I x;clear X aD aS;refine cFf ?_;obtain ⟨-,-⟩ : True ∧ True := ⟨trivial,trivial⟩
     by_cases k1 : a.kind = 1
     ·skip;refine skN ?_;refine Wp.seq ?_;refine sRg fun K' gd hK => ?_;go_simp;apply hK;clear hK K' gd;refine Wp.keep [4,40] ?_;rintro r9 ⟨aR,au,-⟩;simp [go_sem,I,x] at aR au;clear I x;refine Wp.block ?_;refine Wp.seq ?_;refine sRg fun K' gd hK => ?_;go_simp;apply hK;clear hK K' gd;refine Wp.keep [4,40,41] ?_;rintro r10 ⟨az,ap,aw,-⟩;simp [go_sem,aR,au] at az ap aw;clear aR au;refine cTt ?_;refine skN ?_;refine cTt ?_;refine sRg fun K' gd hK => ?_;go_simp;apply hK;clear hK K' gd;refine Wp.keep [6] ?_;rintro r11 ⟨a3,-⟩;simp [go_sem,az,ap,aw] at a3;clear az ap aw;refine Wp.ret ?_;refine bRe ?_;refine tRe ?_;refine endK_tmp Tryz.results86 (by decide) ?_;rw [a3];exact ⟨by simp [RightA,hn,h1,h2,h3,h4,k1];rfl,xw⟩
     ·skip;refine skN ?_;refine Wp.seq ?_;refine sRg fun K' gd hK => ?_;go_simp;apply hK;clear hK K' gd;refine Wp.keep [4,40] ?_;rintro r12 ⟨aA,aq,-⟩;simp [go_sem,I,x] at aA aq;clear I x;refine Wp.block ?_;refine Wp.seq ?_;refine sRg fun K' gd hK => ?_;go_simp;apply hK;clear hK K' gd;refine Wp.keep [4,40,41] ?_;rintro r13 ⟨F,y,C,-⟩;simp [go_sem,aA,aq] at F y C;clear aA aq;refine cFf ?_
      by_cases k2 : a.kind = 2
      ·skip;refine lRg fun K' gd hK => ?_;go_simp;apply hK;clear hK K' gd;refine Ends.keep [4,40,41] ?_;rintro r14 ⟨aB,ar,ax,-⟩;simp [go_sem,F,y,C] at aB ar ax;clear F y C;refine Ends.mk ?_;refine tNo ?_;refine cTt ?_;refine sRg fun K' gd hK => ?_;go_simp;apply hK;clear hK K' gd;refine Wp.keep [6] ?_;rintro r15 ⟨a4,-⟩;simp [go_sem,aB,ar,ax] at a4;clear aB ar ax;refine Wp.ret ?_;refine bRe ?_;refine tRe ?_;refine endK_tmp Tryz.results86 (by decide) ?_;rw [a4];exact ⟨by simp [RightA,hn,h1,h2,h3,h4,k1,k2];rfl,xw⟩
      ·skip;refine lRg fun K' gd hK => ?_;go_simp;apply hK;clear hK K' gd;refine Ends.keep [4,40,41] ?_;rintro r16 ⟨G,z,D,-⟩;simp [go_sem,F,y,C] at G z D;clear F y C;refine Ends.mk ?_;refine tNo ?_;refine cFf ?_
       by_cases k3 : a.kind = 3
       ·skip;refine Wp.seq ?_;refine sRg fun K' gd hK => ?_;go_simp;apply hK;clear hK K' gd;refine Wp.keep [4,40,47] ?_;rintro r17 ⟨r,o,p,-⟩;simp [go_sem,G,z,D] at r o p;clear G z D;refine cTt ?_;refine skN ?_;refine cTt ?_
        by_cases e1 : a.tu = a.frm
        ·skip
         by_cases e2 : 1 ≤ a.word ∧ a.word ≤ 9999
         ·skip;refine sRh fun K' gd hK hg => ?_;have g5 : gd 5 = some 55 := hg 5;clear hg;refine cu9 fun K1 hK1 => ?_;go_simp;refine Wcall (.inl rfl) (within_T e2 _) ?_;rintro v w6 ⟨rfl,hE⟩;go_simp;apply hK1;clear hK1 K1;replace xw := xw.trans hE;clear hE;go_simp;apply hK;clear hK K' gd g5;refine Wp.keep [6] ?_;rintro r19 ⟨a5,-⟩;simp [go_sem,r,o,p] at a5;clear r o p;refine Wp.ret ?_;refine bRe ?_;refine tRe ?_;refine endK_tmp Tryz.results86 (by decide) ?_;rw [a5];exact ⟨by simp [RightA,hn,h1,h2,h3,h4,k1,k2,k3,e1,e2],xw⟩
         ·skip;refine sRh fun K' gd hK hg => ?_;have g5 : gd 5 = some 55 := hg 5;clear hg;refine cu9 fun K1 hK1 => ?_;go_simp;refine Wcall (.inl rfl) (within_F e2 _) ?_;rintro v w6 ⟨rfl,hE⟩;go_simp;apply hK1;clear hK1 K1;replace xw := xw.trans hE;clear hE;go_simp;apply hK;clear hK K' gd g5;refine Wp.keep [6] ?_;rintro r21 ⟨a6,-⟩;simp [go_sem,r,o,p] at a6;clear r o p;refine Wp.ret ?_;refine bRe ?_;refine tRe ?_;refine endK_tmp Tryz.results86 (by decide) ?_;rw [a6];exact ⟨by simp [RightA,hn,h1,h2,h3,h4,k1,k2,k3,e1,e2],xw⟩
        ·skip;refine sRh fun K' gd hK hg => ?_;have g5 : gd 5 = some 55 := hg 5;clear hg;refine cu9 fun K1 hK1 => ?_;go_simp;apply hK1;clear hK1 K1;go_simp;apply hK;clear hK K' gd g5;refine Wp.keep [6] ?_;rintro r22 ⟨a7,-⟩;simp [go_sem,r,o,p] at a7;clear r o p;refine Wp.ret ?_;refine bRe ?_;refine tRe ?_;refine endK_tmp Tryz.results86 (by decide) ?_;rw [a7];exact ⟨by simp [RightA,hn,h1,h2,h3,h4,k1,k2,k3,e1],xw⟩
       ·skip;refine Wp.seq ?_;refine sRg fun K' gd hK => ?_;go_simp;apply hK;clear hK K' gd;refine Wp.keep [4,40,47] ?_;rintro r23 ⟨H,B,E,-⟩;simp [go_sem,G,z,D] at H B E;clear G z D;refine cFf ?_
        by_cases k4 : a.kind = 4
        ·skip;refine lRg fun K' gd hK => ?_;go_simp;apply hK;clear hK K' gd;refine Ends.keep [4,47] ?_;rintro r24 ⟨t,q,-⟩;simp [go_sem,H,B,E] at t q;clear H B E;refine Ends.mk ?_;refine tNo ?_;refine cTt ?_
         by_cases e1 : a.tu = a.frm
         ·skip
          by_cases e2 : 1 ≤ a.word ∧ a.word ≤ 9999
          ·skip;refine sRh fun K' gd hK hg => ?_;have g5 : gd 5 = some 55 := hg 5;clear hg;refine cu9 fun K1 hK1 => ?_;go_simp;refine Wcall (.inl rfl) (within_T e2 _) ?_;rintro v w6 ⟨rfl,hE⟩;go_simp;apply hK1;clear hK1 K1;replace xw := xw.trans hE;clear hE;go_simp;apply hK;clear hK K' gd g5;refine Wp.keep [6] ?_;rintro r26 ⟨a8,-⟩;simp [go_sem,t,q] at a8;clear t q;refine Wp.ret ?_;refine bRe ?_;refine tRe ?_;refine endK_tmp Tryz.results86 (by decide) ?_;rw [a8];exact ⟨by simp [RightA,hn,h1,h2,h3,h4,k1,k2,k3,k4,e1,e2],xw⟩
          ·skip;refine sRh fun K' gd hK hg => ?_;have g5 : gd 5 = some 55 := hg 5;clear hg;refine cu9 fun K1 hK1 => ?_;go_simp;refine Wcall (.inl rfl) (within_F e2 _) ?_;rintro v w6 ⟨rfl,hE⟩;go_simp;apply hK1;clear hK1 K1;replace xw := xw.trans hE;clear hE;go_simp;apply hK;clear hK K' gd g5;refine Wp.keep [6] ?_;rintro r28 ⟨a9,-⟩;simp [go_sem,t,q] at a9;clear t q;refine Wp.ret ?_;refine bRe ?_;refine tRe ?_;refine endK_tmp Tryz.results86 (by decide) ?_;rw [a9];exact ⟨by simp [RightA,hn,h1,h2,h3,h4,k1,k2,k3,k4,e1,e2],xw⟩
         ·skip;refine sRh fun K' gd hK hg => ?_;have g5 : gd 5 = some 55 := hg 5;clear hg;refine cu9 fun K1 hK1 => ?_;go_simp;apply hK1;clear hK1 K1;go_simp;apply hK;clear hK K' gd g5;refine Wp.keep [6] ?_;rintro r29 ⟨ba,-⟩;simp [go_sem,t,q] at ba;clear t q;refine Wp.ret ?_;refine bRe ?_;refine tRe ?_;refine endK_tmp Tryz.results86 (by decide) ?_;rw [ba];exact ⟨by simp [RightA,hn,h1,h2,h3,h4,k1,k2,k3,k4,e1],xw⟩
        ·skip;refine lRg fun K' gd hK => ?_;go_simp;apply hK;clear hK K' gd;refine Ends.keep [4,47] ?_;rintro r30 ⟨aE,ay,-⟩;simp [go_sem,H,B,E] at aE ay;clear H B E;refine Ends.mk ?_;refine tNo ?_;refine cFf ?_;refine Wp.skip ?_;refine bNo ?_;refine tNo ?_;refine sRg fun K' gd hK => ?_;go_simp;apply hK;clear hK K' gd;refine Wp.keep [6] ?_;rintro r31 ⟨bb,-⟩;simp [go_sem,aE,ay] at bb;clear aE ay;refine Wp.ret ?_;refine endK_tmp Tryz.results86 (by decide) ?_;rw [bb];exact ⟨by simp [RightA,hn,h1,h2,h3,h4,k1,k2,k3,k4],xw⟩
    ·skip;refine sRg fun K' gd hK => ?_;refine cu1 fun K1 hK1 => ?_;go_simp;apply hK1;clear hK1 K1;refine Wops.absA fun bh n3 R => ?_;obtain ⟨q3,R,s3,aY,f3,r3⟩ := R;try simp only [q3] at aY f3 r3 ⊢
     replace xw := xw.trans R;have e := aY 0 _ rfl;clear aY R;clear r3;refine cu1 fun K1 hK1 => ?_;go_simp;apply hK1;clear hK1 K1;refine Wops.absA fun bn n4 L => ?_;obtain ⟨q4,L,s4,u,f4,r4⟩ := L;try simp only [q4] at u f4 r4 ⊢
     replace xw := xw.trans L;replace e := L.cell e;have P := u 0 _ rfl;have f := u 2 _ rfl;have b := u 3 _ rfl;have d := u 4 _ rfl;clear u L;clear r4;go_simp;apply hK;clear hK K' gd;refine Wp.keep [2,3,4] ?_;rintro r32 ⟨Y,al,aF,-⟩;simp [go_sem,g,i,j] at Y al aF;clear g i j;refine sRg fun K' gd hK => ?_;go_simp;apply hK;clear hK K' gd;refine Wp.keep [2,4,7] ?_;rintro r33 ⟨Z,aG,aT,-⟩;simp [go_sem,Y,al,aF] at Z aG aT;clear Y al aF;refine Wp.seq ?_;refine sRh fun K' gd hK hg => ?_;have g4 : gd 4 = some 16 := hg 4;have g11 : gd 11 = some 23 := hg 11;have g18 : gd 18 = some 30 := hg 18;clear hg;refine cu3 fun K1 hK1 => ?_;go_simp;refine Wcall (.inl rfl) (within_T h1 _) ?_;rintro v w2 ⟨rfl,hE⟩;go_simp;apply hK1;clear hK1 K1;replace xw := xw.trans hE;replace f := hE.cell f;replace b := hE.cell b;replace d := hE.cell d;clear hE;refine cu6 fun K1 hK1 => ?_;go_simp;refine Wcall (.inl rfl) (within_T h2 _) ?_;rintro v w3 ⟨rfl,hE⟩;go_simp;apply hK1
     clear hK1 K1;replace xw := xw.trans hE;replace b := hE.cell b;replace d := hE.cell d;clear hE;refine cu7 fun K1 hK1 => ?_;go_simp;refine Wcall (.inl rfl) (within_T h3 _) ?_;rintro v w4 ⟨rfl,hE⟩;go_simp;apply hK1;clear hK1 K1;replace xw := xw.trans hE;replace b := hE.cell b;replace d := hE.cell d;clear hE;refine cu9 fun K1 hK1 => ?_;go_simp;refine Wcall (.inl rfl) (within_F h4 _) ?_;rintro v w5 ⟨rfl,hE⟩;go_simp;apply hK1;clear hK1 K1;replace xw := xw.trans hE;clear hE;go_simp;apply hK;clear hK K' gd g4 g11 g18;refine Wp.keep [4,38] ?_;rintro r38 ⟨aH,ag,-⟩;simp [go_sem,Z,aG,aT] at aH ag;clear Z aG aT;refine cTt ?_;refine sRg fun K' gd hK => ?_;go_simp;apply hK;clear hK K' gd;refine Wp.keep [6] ?_;rintro r39 ⟨bc,-⟩;simp [go_sem,aH,ag] at bc;clear aH ag;refine Wp.ret ?_;refine tRe ?_;refine endK_tmp Tryz.results86 (by decide) ?_;rw [bc];exact ⟨by rw [decide_eq_false fun h => h4 (by rw [← hn];exact h.2.2.2.1)],xw⟩
   ·skip;refine sRg fun K' gd hK => ?_;refine cu1 fun K1 hK1 => ?_;go_simp;apply hK1;clear hK1 K1;refine Wops.absA fun bi n3 S => ?_;obtain ⟨q3,S,s3,aZ,f3,r3⟩ := S;try simp only [q3] at aZ f3 r3 ⊢
    replace xw := xw.trans S;have e := aZ 0 _ rfl;clear aZ S;clear r3;refine cu1 fun K1 hK1 => ?_;go_simp;apply hK1;clear hK1 K1;refine Wops.absA fun bo n4 M => ?_;obtain ⟨q4,M,s4,O,f4,r4⟩ := M;try simp only [q4] at O f4 r4 ⊢
    replace xw := xw.trans M;replace e := M.cell e;have P := O 0 _ rfl;have f := O 2 _ rfl;have b := O 3 _ rfl;clear O M;clear r4;go_simp;apply hK;clear hK K' gd;refine Wp.keep [2,3,4] ?_;rintro r40 ⟨aa,am,aI,-⟩;simp [go_sem,g,i,j] at aa am aI;clear g i j;refine sRg fun K' gd hK => ?_;go_simp;apply hK;clear hK K' gd;refine Wp.keep [2,4,7] ?_;rintro r41 ⟨ab,aJ,aU,-⟩;simp [go_sem,aa,am,aI] at ab aJ aU;clear aa am aI;refine Wp.seq ?_;refine sRh fun K' gd hK hg => ?_;have g4 : gd 4 = some 16 := hg 4;have g11 : gd 11 = some 23 := hg 11;have g18 : gd 18 = some 30 := hg 18;clear hg;refine cu3 fun K1 hK1 => ?_;go_simp;refine Wcall (.inl rfl) (within_T h1 _) ?_;rintro v w2 ⟨rfl,hE⟩;go_simp;apply hK1;clear hK1 K1;replace xw := xw.trans hE;replace f := hE.cell f;replace b := hE.cell b;clear hE;refine cu6 fun K1 hK1 => ?_;go_simp;refine Wcall (.inl rfl) (within_T h2 _) ?_;rintro v w3 ⟨rfl,hE⟩;go_simp;apply hK1;clear hK1 K1
    replace xw := xw.trans hE;replace b := hE.cell b;clear hE;refine cu7 fun K1 hK1 => ?_;go_simp;refine Wcall (.inl rfl) (within_F h3 _) ?_;rintro v w4 ⟨rfl,hE⟩;go_simp;apply hK1;clear hK1 K1;replace xw := xw.trans hE;clear hE;refine cu9 fun K1 hK1 => ?_;go_simp;apply hK1;clear hK1 K1;go_simp;apply hK;clear hK K' gd g4 g11 g18;refine Wp.keep [4,38] ?_;rintro r45 ⟨aK,ah,-⟩;simp [go_sem,ab,aJ,aU] at aK ah;clear ab aJ aU;refine cTt ?_;refine sRg fun K' gd hK => ?_;go_simp;apply hK;clear hK K' gd;refine Wp.keep [6] ?_;rintro r46 ⟨bd,-⟩;simp [go_sem,aK,ah] at bd;clear aK ah;refine Wp.ret ?_;refine tRe ?_;refine endK_tmp Tryz.results86 (by decide) ?_;rw [bd];exact ⟨by rw [decide_eq_false fun h => h3 (by rw [← hn];exact h.2.2.1)],xw⟩
  ·skip;refine sRg fun K' gd hK => ?_;refine cu1 fun K1 hK1 => ?_;go_simp;apply hK1;clear hK1 K1;refine Wops.absA fun bj n3 T => ?_;obtain ⟨q3,T,s3,a0,f3,r3⟩ := T;try simp only [q3] at a0 f3 r3 ⊢
   replace xw := xw.trans T;have e := a0 0 _ rfl;clear a0 T;clear r3;refine cu1 fun K1 hK1 => ?_;go_simp;apply hK1;clear hK1 K1;refine Wops.absA fun bp n4 N => ?_;obtain ⟨q4,N,s4,V,f4,r4⟩ := N;try simp only [q4] at V f4 r4 ⊢
   replace xw := xw.trans N;replace e := N.cell e;have P := V 0 _ rfl;have f := V 2 _ rfl;clear V N;clear r4;go_simp;apply hK;clear hK K' gd;refine Wp.keep [2,3,4] ?_;rintro r47 ⟨ac,an,aL,-⟩;simp [go_sem,g,i,j] at ac an aL;clear g i j;refine sRg fun K' gd hK => ?_;go_simp;apply hK;clear hK K' gd;refine Wp.keep [2,4,7] ?_;rintro r48 ⟨ad,aM,aV,-⟩;simp [go_sem,ac,an,aL] at ad aM aV;clear ac an aL;refine Wp.seq ?_;refine sRh fun K' gd hK hg => ?_;have g4 : gd 4 = some 16 := hg 4;have g11 : gd 11 = some 23 := hg 11;have g18 : gd 18 = some 30 := hg 18;clear hg;refine cu3 fun K1 hK1 => ?_;go_simp;refine Wcall (.inl rfl) (within_T h1 _) ?_;rintro v w2 ⟨rfl,hE⟩;go_simp;apply hK1;clear hK1 K1;replace xw := xw.trans hE;replace f := hE.cell f;clear hE;refine cu6 fun K1 hK1 => ?_;go_simp;refine Wcall (.inl rfl) (within_F h2 _) ?_;rintro v w3 ⟨rfl,hE⟩;go_simp;apply hK1;clear hK1 K1;replace xw := xw.trans hE;clear hE;refine cu7 fun K1 hK1 => ?_;go_simp;apply hK1;clear hK1 K1;refine cu9 fun K1 hK1 => ?_;go_simp;apply hK1;clear hK1 K1;go_simp;apply hK;clear hK K' gd g4 g11 g18;refine Wp.keep [4,38] ?_;rintro r51 ⟨aN,ai,-⟩;simp [go_sem,ad,aM,aV] at aN ai;clear ad aM aV;refine cTt ?_;refine sRg fun K' gd hK => ?_;go_simp;apply hK;clear hK K' gd;refine Wp.keep [6] ?_;rintro r52 ⟨be,-⟩;simp [go_sem,aN,ai] at be;clear aN ai;refine Wp.ret ?_;refine tRe ?_;refine endK_tmp Tryz.results86 (by decide) ?_;rw [be];exact ⟨by rw [decide_eq_false fun h => h2 h.2.1],xw⟩
 ·skip;refine sRg fun K' gd hK => ?_;refine cu1 fun K1 hK1 => ?_;go_simp;apply hK1;clear hK1 K1;refine Wops.absA fun bk n3 U => ?_;obtain ⟨q3,U,s3,a1,f3,r3⟩ := U;try simp only [q3] at a1 f3 r3 ⊢
  replace xw := xw.trans U;have e := a1 0 _ rfl;clear a1 U;clear r3;refine cu1 fun K1 hK1 => ?_;go_simp;apply hK1;clear hK1 K1;refine Wops.absA fun bl n4 J => ?_;obtain ⟨q4,J,s4,a2,f4,r4⟩ := J;try simp only [q4] at a2 f4 r4 ⊢
  replace xw := xw.trans J;replace e := J.cell e;have P := a2 0 _ rfl;clear a2 J;clear r4;go_simp;apply hK;clear hK K' gd;refine Wp.keep [2,3,4] ?_;rintro r53 ⟨ae,ao,aO,-⟩;simp [go_sem,g,i,j] at ae ao aO;clear g i j;refine sRg fun K' gd hK => ?_;go_simp;apply hK;clear hK K' gd;refine Wp.keep [2,4,7] ?_;rintro r54 ⟨af,aP,aW,-⟩;simp [go_sem,ae,ao,aO] at af aP aW;clear ae ao aO;refine Wp.seq ?_;refine sRh fun K' gd hK hg => ?_;have g4 : gd 4 = some 16 := hg 4;have g11 : gd 11 = some 23 := hg 11;have g18 : gd 18 = some 30 := hg 18;clear hg;refine cu3 fun K1 hK1 => ?_;go_simp;refine Wcall (.inl rfl) (within_F h1 _) ?_;rintro v w2 ⟨rfl,hE⟩;go_simp;apply hK1;clear hK1 K1;replace xw := xw.trans hE;clear hE;refine cu6 fun K1 hK1 => ?_;go_simp;apply hK1;clear hK1 K1;refine cu7 fun K1 hK1 => ?_;go_simp;apply hK1;clear hK1 K1;refine cu9 fun K1 hK1 => ?_;go_simp;apply hK1;clear hK1 K1;go_simp;apply hK;clear hK K' gd g4 g11 g18;refine Wp.keep [4,38] ?_;rintro r56 ⟨aQ,aj,-⟩;simp [go_sem,af,aP,aW] at aQ aj;clear af aP aW;refine cTt ?_;refine sRg fun K' gd hK => ?_;go_simp;apply hK;clear hK K' gd;refine Wp.keep [6] ?_;rintro r57 ⟨bf,-⟩;simp [go_sem,aQ,aj] at bf;clear aQ aj;refine Wp.ret ?_;refine tRe ?_;refine endK_tmp Tryz.results86 (by decide) ?_;rw [bf];exact ⟨by rw [decide_eq_false fun h => h1 h.1],xw⟩
end Go.Proofs.YtnklbepeoicgpaaGreat.St
namespace Go.Proofs.YtnklbepeoicgpaaGreat.St
open Go.RowKit Go.Wk Go.Proofs
attribute [local irreducible] Go.Wk.Wops Go.Wk.Wp Go.Wk.Mtree Go.Wk.Mops
set_option maxHeartbeats 8000000
set_option maxRecDepth 20000
theorem right_T {v : Value} {s : Sh} {a : Alt} {last : Int} (h : RightA s.n a last) (w : World) (hV : SheetV w w.heap.size v s) (hf : FitS s) :
  CallsV Tryz.prog 86 #[v,.agg #[.int .i64 a.id,.int .i64 a.kind,.int .i64 a.day,.int .i64 a.frm,.int .i64 a.tu,.int .i64 a.word],.int .i64 last] w fun v w' => v = .bool true ∧ Ext w w' :=
 (right_c v s a last w hV hf).mono fun v w' ⟨h1,h2⟩ => ⟨by rw [h1,decide_eq_true h],h2⟩
theorem right_F {v : Value} {s : Sh} {a : Alt} {last : Int} (h : ¬ RightA s.n a last) (w : World) (hV : SheetV w w.heap.size v s) (hf : FitS s) :
  CallsV Tryz.prog 86 #[v,.agg #[.int .i64 a.id,.int .i64 a.kind,.int .i64 a.day,.int .i64 a.frm,.int .i64 a.tu,.int .i64 a.word],.int .i64 last] w fun v w' => v = .bool false ∧ Ext w w' :=
 (right_c v s a last w hV hf).mono fun v w' ⟨h1,h2⟩ => ⟨by rw [h1,decide_eq_false h],h2⟩
theorem check_c (v : Value) (s : Sh) (w : World) (hV : SheetV w w.heap.size v s) (hf : FitS s) :
  CallsV Tryz.prog 20 #[v] w fun v w' => v = .int .i64 (checkS s) ∧ Ext w w' := by
 obtain ⟨wv,av,rfl,hW,hAl⟩ := hV;have hV : SheetV w w.heap.size (.agg #[wv,av]) s := ⟨wv,av,rfl,hW,hAl⟩;obtain ⟨A,c,rfl,-,-⟩ := id hW;obtain ⟨A2,c2,rfl,-,-⟩ := id hAl;have hn : ∃ _u : Unit,s.n = s.words.length := ⟨(),rfl⟩;have hfa := hf.2;refine Wp.fn Tryz.func20 rfl Tryz.ntmps20 (by simp) ?_;have xw := Ext.refl w;refine Wp.keep [0] ?_;rintro r1 ⟨E,-⟩;simp [go_sem] at E
 by_cases h1 : 1 ≤ (s.words.length : Int) ∧ (s.words.length : Int) ≤ 40
 ·skip;refine sRg fun K' gd hK => ?_;refine cu1 fun K1 hK1 => ?_;go_simp;apply hK1;clear hK1 K1;refine Wops.absA fun bn n1 R => ?_;obtain ⟨q1,R,s1,T,f1,r1⟩ := R;try simp only [q1] at T f1 r1 ⊢
  replace xw := xw.trans R;have f := T 0 _ rfl;have d := T 1 _ rfl;clear T R;clear r1;go_simp;apply hK;clear hK K' gd;refine Wp.keep [1] ?_;rintro r2 ⟨ad,-⟩;simp [go_sem,E] at ad;clear E;refine Wp.seq ?_;refine sRh fun K' gd hK hg => ?_;have g5 : gd 5 = some 12 := hg 5;clear hg;refine cu4 fun K1 hK1 => ?_;go_simp;refine Wcall (.inl rfl) (within_T h1 _) ?_;rintro v w2 ⟨rfl,hE⟩;go_simp;apply hK1;clear hK1 K1;have z3 := Below.size hE;replace xw := xw.trans hE;replace f := hE.cell f;replace d := hE.cell d;clear hE;refine cu5 fun K1 hK1 => ?_;go_simp;refine Wcall (.inl rfl) (containsI_c _ s.words badW 85 _ (hW.ext xw) hf.1 (enters_of Tryz.func85 (by kernel_rfl) rfl) (fun x W _ => check1_c x W)) ?_;rintro v w3 ⟨rfl,hE⟩;go_simp;apply hK1;clear hK1 K1;have z4 := Below.size hE;replace xw := xw.trans hE;replace f := hE.cell f;replace d := hE.cell d;clear hE;go_simp;apply hK;clear hK K' gd g5;refine Wp.keep [1,16] ?_;rintro r5 ⟨H,F,-⟩;simp [go_sem,ad] at H F;clear ad
  by_cases h2 : s.words.any badW = true
  ·refine cTt ?_;refine sRg fun K' gd hK => ?_;go_simp;apply hK;clear hK K' gd;refine Wp.keep [2] ?_;rintro r6 ⟨bc,-⟩;simp [go_sem,H,F] at bc;clear H F;refine Wp.ret ?_;refine tRe ?_;refine endK_tmp Tryz.results20 (by decide) ?_;rw [bc];exact ⟨by unfold checkS;rw [if_pos (.inr h2)],xw⟩
  ·refine cFf ?_;refine skN ?_;refine Wp.seq ?_;refine sRg fun K' gd hK => ?_;go_simp;apply hK;clear hK K' gd;refine Wp.keep [1,20] ?_;rintro r7 ⟨I,J,-⟩;simp [go_sem,H,F] at I J;clear H F
   by_cases h3 : (40 : Int) < (s.alts.length : Int)
   ·refine cTt ?_;refine sRg fun K' gd hK => ?_;go_simp;apply hK;clear hK K' gd;refine Wp.keep [2] ?_;rintro r8 ⟨bd,-⟩;simp [go_sem,I,J] at bd;clear I J;refine Wp.ret ?_;refine tRe ?_;refine endK_tmp Tryz.results20 (by decide) ?_;rw [bd];exact ⟨by unfold checkS;rw [if_neg,if_pos];omega;rintro (h | h);exact h (by obtain ⟨-,e⟩ := hn;omega);exact h2 h,xw⟩
   ·refine cFf ?_;have hcs : checkS s = chkA s.n [] s.alts := by unfold checkS;rw [if_neg,if_neg];omega;rintro (h | h);exact h (by obtain ⟨-,e⟩ := hn;omega);exact h2 h
    have xw_xa := xw;have c1_0_xa := f;have c1_1_xa := d;have xa := Ext.refl w3;refine skN ?_;refine sRg fun K' gd hK => ?_;refine cu1 fun K1 hK1 => ?_;go_simp;apply hK1;clear hK1 K1;refine Wops.absM fun bp n21 D => ?_;obtain ⟨q21,D,s21,m21⟩ := D;try simp only [q21] at m21 ⊢
    replace xw := xw.trans D;replace xa := xa.trans D;replace d := D.cell d;clear D;go_simp;apply hK;clear hK K' gd;refine Wp.keep [1,3] ?_;rintro r9 ⟨aj,aU,-⟩;simp [go_sem,I,J] at aj aU;clear I J;refine sRg fun K' gd hK => ?_;go_simp;apply hK;clear hK K' gd;refine Wp.keep [1,3,4] ?_;rintro r10 ⟨X,aL,aV,-⟩;simp [go_sem,aj,aU] at X aL aV;clear aj aU;refine Wp.seq ?_;have hM := m21 Tryz.prog 3 4;clear m21;refine sRg fun K' gd hK => ?_;go_simp;apply hK;clear hK K' gd;refine Wp.keep [1,3,4,23,24,25] ?_;rintro r11 ⟨Y,aM,bg,ak,au,a6,-⟩;simp [go_sem,X,aL,aV] at Y aM bg ak au a6;clear X aL aV;refine Wp.block ?_;refine Wp.loop (fun k ρ ds wk => AllEq [1,3,23,24] ρ r11 ∧ ds = [] ∧ (Ext w3 wk) ∧ (∃ ids,ρ 25 = .int .i64 (k : Int) ∧ ρ 4 = .int .i64 (lastD (s.alts.take k)) ∧ IdMap Tryz.prog 3 4 wk n21 ids ∧ ids.length = k ∧ (∀ x,x ∈ ids ↔ ∃ a ∈ s.alts.take k,a.id = x) ∧ chkA s.n (s.alts.take k) (s.alts.drop k) = checkS s)) (s.alts.length) ?_ ?_
    ·refine ⟨AllEq.refl _ _,rfl,xa,?_⟩;exact ⟨[],by rw [a6];rfl,by rw [bg];rfl,hM,rfl,by simp,by rw [hcs];rfl⟩
    ·rintro k r12 _ wk hk ⟨hA,rfl,xo,⟨ids,e25,e4,hM,hil,hix,hck⟩⟩;obtain ⟨Z,aN,al,aw,-⟩ := hA;rw [Y] at Z;rw [aM] at aN;rw [ak] at al;rw [au] at aw;have xw := xw_xa;have f := c1_0_xa;have d := c1_1_xa;replace xw := Ext.trans xw xo;replace f := Ext.cell xo f;replace d := Ext.cell xo d;refine sRg fun K' gd hK => ?_;go_simp;apply hK;clear hK K' gd;refine Wp.keep [1,3,4,23,24,25,26] ?_;rintro r13 ⟨p,z,B,q,r,t,u,-⟩;simp [go_sem,Z,aN,e4,al,aw,e25] at p z B q r t u;clear Z aN e4 al aw e25;refine Wp.seq ?_
     by_cases h : k < s.alts.length
     ·refine cTt ?_;have hlM := hM.lt;obtain ⟨b,o,rfl,hb,y0,y1,y2,y3,y4,y5⟩ := AltsV.six hAl h;replace y0 := xw.cell y0;replace y1 := xw.cell y1;replace y2 := xw.cell y2;replace y3 := xw.cell y3;replace y4 := xw.cell y4;replace y5 := xw.cell y5;rw [drop_cons h] at hck
      by_cases h4 : RightA s.n s.alts[k] (lastD (s.alts.take k))
      ·skip;refine skN ?_;refine sBk ?_;refine sRg fun K' gd hK => ?_;refine cu4 fun K1 hK1 => ?_;go_simp;apply hK1;clear hK1 K1;refine Wops.absA fun bq n6 g => ?_;obtain ⟨q6,g,s6,j,f6,r6⟩ := g;try simp only [q6] at j f6 r6 ⊢
       replace hM := hM.ext g;replace xw := xw.trans g;replace xo := xo.trans g;replace f := g.cell f;replace d := g.cell d;have U := j 0 _ rfl;have bj := j 1 _ rfl;have Q := j 2 _ rfl;have bk := j 3 _ rfl;have bl := j 4 _ rfl;have bm := j 5 _ rfl;clear j g;clear r6;try simp only [Wops_nil,updO_some,updO_none]
       apply hK;clear hK K' gd;refine Wp.keep [1,3,4,6,23,24,25] ?_;rintro r14 ⟨aa,aO,aW,aY,am,ax,aD,-⟩;simp [go_sem,p,z,B,q,r,t,u] at aa aO aW aY am ax aD;clear p z B q r t u;refine Wp.seq ?_;refine sRg fun K' gd hK => ?_;refine cu4 fun K1 hK1 => ?_;go_simp;refine Wcall (.inl rfl) (right_T h4 _ (hV.ext xw) hf) ?_;rintro v w4 ⟨rfl,hE⟩;go_simp;apply hK1;clear hK1 K1;replace hM := hM.ext hE;replace xw := xw.trans hE;replace xo := xo.trans hE;replace U := hE.cell U;replace Q := hE.cell Q;clear hE;go_simp;apply hK;clear hK K' gd;refine Wp.keep [1,3,6,23,24,25,33] ?_;rintro r16 ⟨G,O,P,K,L,M,N,-⟩;simp [go_sem,aa,aO,aW,aY,am,ax,aD] at G O P K L M N;clear aa aO aW aY am ax aD;refine cFf ?_
       by_cases h5 : s.alts[k].id ∈ ids
       ·skip;refine skN ?_;refine Wp.seq ?_;refine sRg fun K' gd hK => ?_;refine cu4 fun K1 hK1 => ?_;refine Wops.cut 3 fun K2 hK2 => ?_;simp only [tSC,tZ];go_simp;refine hK2 _ _ ?_;clear hK2 K2;simp only [dSC,dZ];obtain hrun := hM.look Tryz.underlying3 Tryz.underlying4 Tryz.underlying118 (by kernel_rfl) (wf64 h4.1);rw [decide_eq_true h5] at hrun;refine Wops.law rfl (exec_lookup2 rfl hrun (by go_simp) (by go_simp)) ?_;simp only [updO_some,Wops_nil];apply hK1;clear hK1 K1;try simp only [Wops_nil,updO_some,updO_none]
        apply hK;clear hK K' gd;refine Wp.keep [1,3,6,23,24,25,37] ?_;rintro r17 ⟨ab,aP,aZ,an,ay,aE,aK,-⟩;simp [go_sem,G,O,P,K,L,M,N] at ab aP aZ an ay aE aK;clear G O P K L M N;refine cTt ?_;refine sRg fun K' gd hK => ?_;go_simp;apply hK;clear hK K' gd;refine Wp.keep [2] ?_;rintro r18 ⟨a8,-⟩;simp [go_sem,ab,aP,aZ,an,ay,aE,aK] at a8;clear ab aP aZ an ay aE aK;refine Wp.ret ?_;refine tRe ?_;refine bRe ?_;refine tRe ?_;refine tRe ?_;refine bRe ?_;refine tRe ?_;refine endK_tmp Tryz.results20 (by decide) ?_;rw [a8];exact ⟨by rw [← hck,chkA,if_neg (not_not_intro h4),if_pos];rw [List.any_eq_true];obtain ⟨y,hy,e⟩ := (hix _).1 h5;exact ⟨y,hy,decide_eq_true e⟩,xw⟩
       ·skip;refine skN ?_;refine Wp.seq ?_;refine sRg fun K' gd hK => ?_;refine cu4 fun K1 hK1 => ?_;refine Wops.cut 3 fun K2 hK2 => ?_;simp only [tSC,tZ];go_simp;refine hK2 _ _ ?_;clear hK2 K2;simp only [dSC,dZ];obtain hrun := hM.look Tryz.underlying3 Tryz.underlying4 Tryz.underlying118 (by kernel_rfl) (wf64 h4.1);rw [decide_eq_false h5] at hrun;refine Wops.law rfl (exec_lookup2 rfl hrun (by go_simp) (by go_simp)) ?_;simp only [updO_some,Wops_nil];apply hK1;clear hK1 K1;try simp only [Wops_nil,updO_some,updO_none]
        apply hK;clear hK K' gd;refine Wp.keep [1,3,6,23,24,25,37] ?_;rintro r19 ⟨ac,aQ,bi,ao,az,aF,be,-⟩;simp [go_sem,G,O,P,K,L,M,N] at ac aQ bi ao az aF be;clear G O P K L M N;refine cFf ?_;have hck2 : chkA s.n (s.alts.take (k + 1)) (s.alts.drop (k + 1)) = checkS s := by rw [← hck,take_snoc h];conv => rhs;rw [chkA,if_neg (not_not_intro h4),if_neg (fun e => by rw [List.any_eq_true] at e;obtain ⟨y,hy,e⟩ := e;exact h5 ((hix _).2 ⟨y,hy,of_decide_eq_true e⟩))]
        have hlm : ids.length ≤ 1000 := by omega
        have hLT : ∀ k,some n21 = some k → n21 ≤ k ∧ k < n21 + 1 := fun k e => by injection e with e;subst e;exact ⟨Nat.le_refl _,Nat.lt_succ_self _⟩
        have hE0 : Ext w4 w4.drew := (Ext.refl _).drew;obtain ⟨w7,hrun,hM2,hgr⟩ := (hM.ext hE0).add Tryz.underlying3 Tryz.underlying4 Tryz.underlying118 hlm (wf64 h4.1);have k6 := Chg.cell (grown_chg hgr) (hE0.cell Q) (lt_off hLT (by omega));have k7 := Chg.to (xo.trans hE0) (grown_chg hgr) (lt_ge hLT (by omega));have k8 := Chg.to (xw.trans hE0) (grown_chg hgr) (lt_ge hLT (by omega));refine skN ?_;refine Wp.loneDrawT (.inl rfl) mixed (.rd [0,1,2] (.both (.act 3 false (.both (.act 4 false (.act 5 true (.act 6 true .done))) (.act 5 true (.act 4 false (.act 6 true .done))))) (.act 5 true (.act 3 false (.act 4 false (.act 6 true .done)))))) (by kernel_rfl) (fun ρ W => AllEq [1,3,23,24,25] ρ r19 ∧ (ρ 4 = .int .i64 s.alts[k].day ∧ IdMap Tryz.prog 3 4 W n21 (s.alts[k].id :: ids) ∧ Ext w3 W ∧ Ext w W)) (fun K' gd hK hg => ?_) ?_
        ·skip;clear hg;simp only [pickT,nth,List.map_cons,List.map_nil];apply Mtree.reads
         ·intro w' hE';have hC' := hE'.cellsS;go_simp;with_reducible rfl
         repeat' first
          | refine Mtree.two ?_ ?_
          | (refine Mtree.fin ?_;refine hK _ _ ⟨by simp [AllEq,go_sem],?_⟩;exact ⟨by go_simp,hM2,k7,k8⟩)
          | (refine Mtree.stepT (o := ⟨none,_,_,_,_,_⟩) fun K1 hK1 => ?_;refine if_pos_of rfl (Wstep.lawS (exec_mapUpdate2 rfl hrun (by go_simp) (by go_simp) (by go_simp)) ?_);apply hK1;clear hK1 K1)
          | (refine Mtree.stepT fun K1 hK1 => ?_;go_simp;apply hK1;clear hK1 K1)
          | (refine Mtree.step fun K1 hK1 => ?_;go_simp;refine hK1 _ _ XA ?_;clear hK1 K1)
        ·rintro r20 W ⟨hA,e4,hM2,xo,xw⟩;obtain ⟨ae,aR,ap,aA,aG,-⟩ := hA;rw [ac] at ae;rw [aQ] at aR;rw [ao] at ap;rw [az] at aA;rw [aF] at aG;clear ac aQ bi ao az aF be;refine Ends.mk ?_;refine bNo ?_;refine tNo ?_;refine lRg fun K' gd hK => ?_;go_simp;apply hK;clear hK K' gd;refine Ends.keep [1,3,4,23,24,25] ?_;rintro r21 ⟨a3,bf,bh,a4,a5,a7,-⟩;simp [go_sem,ae,aR,e4,ap,aA,aG] at a3 bf bh a4 a5 a7;clear ae aR e4 ap aA aG;refine Ends.mk ?_;refine thenK_normal ⟨by omega,⟨by rw [a3,Y],by rw [bf,aM],by rw [a4,ak],by rw [a5,au],trivial⟩,rfl,xo,?_⟩;exact ⟨_,by rw [a7,IntWalk.i64_in _ (by omega)];rfl,by rw [bh,take_snoc h,lastD_snoc],hM2,by simp [hil],fun x => by rw [List.mem_cons,hix,take_snoc h];simp only [List.mem_append,List.mem_singleton];constructor;(rintro (rfl | ⟨a,ha,rfl⟩);exact ⟨_,.inr rfl,rfl⟩;exact ⟨a,.inl ha,rfl⟩);(rintro ⟨a,ha | rfl,rfl⟩;exact .inr ⟨a,ha,rfl⟩;exact .inl rfl),hck2⟩
      ·skip;refine skN ?_;refine sBk ?_;refine sRg fun K' gd hK => ?_;refine cu4 fun K1 hK1 => ?_;go_simp;apply hK1;clear hK1 K1;refine Wops.absA fun br n6 C => ?_;obtain ⟨q6,C,s6,m,f6,r6⟩ := C;try simp only [q6] at m f6 r6 ⊢
       replace xw := xw.trans C;replace xo := xo.trans C;replace f := C.cell f;replace d := C.cell d;have U := m 0 _ rfl;have bj := m 1 _ rfl;have Q := m 2 _ rfl;have bk := m 3 _ rfl;have bl := m 4 _ rfl;have bm := m 5 _ rfl;clear m C;clear r6;try simp only [Wops_nil,updO_some,updO_none]
       apply hK;clear hK K' gd;refine Wp.keep [1,3,4,6,23,24,25] ?_;rintro r22 ⟨af,aS,aX,a0,aq,aB,aH,-⟩;simp [go_sem,p,z,B,q,r,t,u] at af aS aX a0 aq aB aH;clear p z B q r t u;refine Wp.seq ?_;refine sRg fun K' gd hK => ?_;refine cu4 fun K1 hK1 => ?_;go_simp;refine Wcall (.inl rfl) (right_F h4 _ (hV.ext xw) hf) ?_;rintro v w4 ⟨rfl,hE⟩;go_simp;apply hK1;clear hK1 K1;replace xw := xw.trans hE;replace xo := xo.trans hE;clear hE;go_simp;apply hK;clear hK K' gd;refine Wp.keep [1,3,6,23,24,25,33] ?_;rintro r24 ⟨ag,aT,a1,ar,aC,aI,aJ,-⟩;simp [go_sem,af,aS,aX,a0,aq,aB,aH] at ag aT a1 ar aC aI aJ;clear af aS aX a0 aq aB aH;refine cTt ?_;refine sRg fun K' gd hK => ?_;go_simp;apply hK;clear hK K' gd;refine Wp.keep [2] ?_;rintro r25 ⟨a9,-⟩;simp [go_sem,ag,aT,a1,ar,aC,aI,aJ] at a9;clear ag aT a1 ar aC aI aJ;refine Wp.ret ?_
       refine tRe ?_;refine bRe ?_;refine tRe ?_;refine tRe ?_;refine bRe ?_;refine tRe ?_;refine endK_tmp Tryz.results20 (by decide) ?_;rw [a9];exact ⟨by rw [← hck,chkA,if_pos h4],xw⟩
     ·refine cFf ?_;obtain rfl : k = s.alts.length := by have := List.length_drop (i := k) (l := s.alts);omega
      refine Wp.exit ?_;refine tEx ?_;refine tEx ?_;refine blockK_here ?_;refine tNo ?_;refine sRg fun K' gd hK => ?_;go_simp;apply hK;clear hK K' gd;refine Wp.keep [2] ?_;rintro r26 ⟨ba,-⟩;simp [go_sem,p,z,B,q,r,t,u] at ba;clear p z B q r t u;refine Wp.ret ?_;refine endK_tmp Tryz.results20 (by decide) ?_;rw [ba];exact ⟨by rw [← hck,List.drop_length];rfl,xw⟩
 ·skip;refine sRg fun K' gd hK => ?_;refine cu1 fun K1 hK1 => ?_;go_simp;apply hK1;clear hK1 K1;refine Wops.absA fun bo n1 S => ?_;obtain ⟨q1,S,s1,a2,f1,r1⟩ := S;try simp only [q1] at a2 f1 r1 ⊢
  replace xw := xw.trans S;have f := a2 0 _ rfl;clear a2 S;clear r1;go_simp;apply hK;clear hK K' gd;refine Wp.keep [1] ?_;rintro r27 ⟨ah,-⟩;simp [go_sem,E] at ah;clear E;refine Wp.seq ?_;refine sRh fun K' gd hK hg => ?_;have g5 : gd 5 = some 12 := hg 5;clear hg;refine cu4 fun K1 hK1 => ?_;go_simp;refine Wcall (.inl rfl) (within_F h1 _) ?_;rintro v w2 ⟨rfl,hE⟩;go_simp;apply hK1;clear hK1 K1;replace xw := xw.trans hE;clear hE;refine cu5 fun K1 hK1 => ?_;go_simp;apply hK1;clear hK1 K1;go_simp;apply hK;clear hK K' gd g5;refine Wp.keep [1,16] ?_;rintro r29 ⟨ai,V,-⟩;simp [go_sem,ah] at ai V;clear ah;refine cTt ?_;refine sRg fun K' gd hK => ?_;go_simp;apply hK;clear hK K' gd;refine Wp.keep [2] ?_;rintro r30 ⟨bb,-⟩;simp [go_sem,ai,V] at bb;clear ai V;refine Wp.ret ?_;refine tRe ?_;refine endK_tmp Tryz.results20 (by decide) ?_;rw [bb];exact ⟨by unfold checkS;rw [if_pos (.inl fun h => h1 (by obtain ⟨-,e⟩ := hn;omega))],xw⟩
end Go.Proofs.YtnklbepeoicgpaaGreat.St
