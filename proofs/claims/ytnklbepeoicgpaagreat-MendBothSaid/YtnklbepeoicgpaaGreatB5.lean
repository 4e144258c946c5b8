/- What the greatest plan is worth: other names of the flaws, fewer days, a day that is taken. What a tour's best mending is worth: the greatest plan; with a day closed or open, without flaws, on a day. Days for the flaws and plans; spans that prove a mending. Whether spans prove a mending; CheckBest. A mending of which something is changed (bent). The tour of a second corrector. The days of two correctors. A flaw is given a corrector and a day: the search. Plain law: one more flaw on the best plan, and what the plan is worth. Two correctors: the best plan. The best days for two correctors. The d -/
import Derived.Test.YtnklbepeoicgpaaGreatB3
import Derived.Test.YtnklbepeoicgpaaGreatB4
import Derived.Test.YtnklbepeoicgpaaGreatBw1
import Derived.Test.YtnklbepeoicgpaaGreatB2
import Derived.Test.YtnklbepeoicgpaaGreatB1
set_option linter.all false
namespace Go.Proofs.YtnklbepeoicgpaaGreat
theorem cntN_le_one {h : Nat → Int} {j : Int} : ∀ {n : Nat},(∀ d e,d < n → e < n → h d = j → h e = j → d = e) → cntN h j n ≤ 1
 | 0,_ => by show (0 : Int) ≤ 1;decide
 | n + 1,q => by
   rw [cntN_S]
   by_cases e : h n = j
   ·rw [if_pos e,cntN_of_zero fun d hd hj => by have := q d n (by omega) (by omega) hj e;omega];decide
   ·rw [if_neg e,Int.add_zero];exact cntN_le_one fun d e hd he => q d e (by omega) (by omega)
section
variable {N N' : Int → List Nat} {n m m' i d : Nat} {W W' : Int → Int} {v v' : Int} {g p : Nat → Int}
theorem OkP.inj (h : OkP N n m g) {d e : Nat} (hd : d < n) (he : e < n) (h0 : 0 ≤ g d) (q : g d = g e) : d = e := by
 obtain ⟨j,hj⟩ : ∃ j : Nat,g d = (j : Int) := ⟨(g d).toNat,by omega⟩;exact cntN_two (h.one j) hd he hj (by omega)
theorem OkP.of (lt : ∀ d,-1 ≤ p d ∧ p d < m) (day : ∀ d,d < n → 0 ≤ p d → d ∈ N (p d)) (inj : ∀ d e,d < n → e < n → 0 ≤ p d → p d = p e → d = e) : OkP N n m p :=
 ⟨lt,day,fun j => cntN_le_one fun d e hd he h1 h2 => inj d e hd he (by omega) (by omega)⟩
theorem OkP.sub (h : OkP N n m g) (hN : ∀ d,d < n → 0 ≤ g d → d ∈ N (g d) → d ∈ N' (g d)) : OkP N' n m g := ⟨h.lt,fun d hd h0 => hN d hd h0 (h.day d hd h0),h.one⟩
theorem OkP.at' (h : OkP N n m g) {d : Nat} (h0 : 0 ≤ g d) : ∃ j : Nat,g d = (j : Int) ∧ j < m := ⟨(g d).toNat,by omega,by have := (h.lt d).2;omega⟩
theorem worth_eq (n : Nat) (h : ∀ d,d < n → (0 ≤ g d ↔ 0 ≤ p d) ∧ (0 ≤ g d → W (g d) = W' (p d))) : worthW W g n = worthW W' p n := sumN_eq n fun d hd => by
 obtain ⟨h1,h2⟩ := h d hd
 by_cases h0 : 0 ≤ g d
 ·rw [if_pos h0,if_pos (h1.1 h0),h2 h0]
 ·rw [if_neg h0,if_neg fun q => h0 (h1.2 q)]
theorem worth_W (n : Nat) (h : ∀ d,d < n → 0 ≤ g d → W (g d) ≤ W' (g d)) : worthW W g n ≤ worthW W' g n := sumN_le n fun d hd => by
 by_cases h0 : 0 ≤ g d
 ·rw [if_pos h0,if_pos h0];exact h d hd h0
 ·rw [if_neg h0,if_neg h0];exact Int.le_refl _
theorem worth_no : ∀ n,worthW W noPlan n = 0
 | 0 => rfl
 | n + 1 => by show worthW W noPlan n + _ = 0;rw [worth_no n];rfl
theorem worth_upd {x : Int} : ∀ {n : Nat},d < n → worthW W (updI g d x) n = worthW W g n - (if 0 ≤ g d then W (g d) else 0) + if 0 ≤ x then W x else 0
 | 0,hd => absurd hd (Nat.not_lt_zero _)
 | n + 1,hd => by
   show worthW W (updI g d x) n + (if 0 ≤ updI g d x n then W (updI g d x n) else 0) = worthW W g n + (if 0 ≤ g n then W (g n) else 0) - _ + _
   by_cases e : n = d
   ·subst e;have : worthW W (updI g n x) n = worthW W g n := sumN_eq n fun d hd => by have e : updI g n x d = g d := if_neg (show ¬ d = n by omega);rw [e]
    rw [this];have e : updI g n x n = x := if_pos rfl;rw [e];omega
   ·rw [worth_upd (n := n) (by omega)];have e : updI g d x n = g n := if_neg e;rw [e];omega
structure IsOpt (N : Int → List Nat) (n m : Nat) (W : Int → Int) (v : Int) : Prop where
 ex : ∃ h,OkP N n m h ∧ worthW W h n = v
 le : ∀ g,OkP N n m g → worthW W g n ≤ v
theorem IsOpt.eq (h : IsOpt N n m W v) (h' : IsOpt N n m W v') : v = v' := by
 obtain ⟨g,g1,g2⟩ := h.ex;obtain ⟨k,k1,k2⟩ := h'.ex;have := h.le k k1;have := h'.le g g1;omega
theorem IsOpt.pos (h : IsOpt N n m W v) : 0 ≤ v := by
 have := h.le noPlan noPlan_ok
 rwa [worth_no] at this
theorem IsOpt.congr (h : IsOpt N n m W v) (hN : ∀ j : Nat,j < m → ∀ d,d < n → (d ∈ N j ↔ d ∈ N' j)) (hW : ∀ j : Nat,j < m → W j = W' j) : IsOpt N' n m W' v := by
 have e : ∀ g,OkP N n m g → worthW W g n = worthW W' g n := fun g hg => worth_eq n fun d hd => ⟨Iff.rfl,fun h0 => by
  obtain ⟨j,hj,hjm⟩ := hg.at' h0
  rw [hj];exact hW j hjm⟩
 have s : ∀ g,OkP N' n m g → OkP N n m g := fun g hg => hg.sub fun d hd h0 hm => by
  obtain ⟨j,hj,hjm⟩ := hg.at' h0;rw [hj] at hm ⊢;exact (hN j hjm d hd).2 hm
 obtain ⟨g,g1,g2⟩ := h.ex
 exact ⟨⟨g,g1.sub fun d hd h0 hm => by
  obtain ⟨j,hj,hjm⟩ := g1.at' h0
  rw [hj] at hm ⊢;exact (hN j hjm d hd).1 hm,by rw [← e g g1];exact g2⟩,fun k hk => by rw [← e k (s k hk)];exact h.le k (s k hk)⟩
theorem IsOpt.mono (h : IsOpt N n m W v) (h' : IsOpt N' n m W' v') (hN : ∀ j : Nat,j < m → ∀ d,d < n → d ∈ N j → d ∈ N' j) (hW : ∀ j : Nat,j < m → W j ≤ W' j) : v ≤ v' := by
 obtain ⟨g,g1,g2⟩ := h.ex
 have q := h'.le g (g1.sub fun d hd h0 hm => by
  obtain ⟨j,hj,hjm⟩ := g1.at' h0
  rw [hj] at hm ⊢;exact hN j hjm d hd hm)
 have := worth_W (W := W) (W' := W') (g := g) n fun d hd h0 => by
  obtain ⟨j,hj,hjm⟩ := g1.at' h0;rw [hj];exact hW j hjm
 omega
def shutN (N : Int → List Nat) (d : Nat) : Int → List Nat := fun j => (N j).filter fun e => !decide (e = d)
def dropN (N : Int → List Nat) (i : Int) : Int → List Nat := fun j => if j = i then [] else N j
theorem shutN_mem {N : Int → List Nat} {d e : Nat} {j : Int} : e ∈ shutN N d j ↔ e ∈ N j ∧ e ≠ d := by unfold shutN;rw [List.mem_filter];simp
theorem dropN_mem {N : Int → List Nat} {i j : Int} {e : Nat} : e ∈ dropN N i j ↔ j ≠ i ∧ e ∈ N j := by
 unfold dropN
 by_cases q : j = i
 ·rw [if_pos q];simp [q]
 ·rw [if_neg q];simp [q]
theorem updI_cases (g : Nat → Int) (d : Nat) (x : Int) (e : Nat) : (e = d ∧ updI g d x e = x) ∨ (e ≠ d ∧ updI g d x e = g e) := by
 by_cases q : e = d
 ·exact .inl ⟨q,if_pos q⟩
 ·exact .inr ⟨q,if_neg q⟩
theorem OkP.free (h : OkP N n m g) (d : Nat) : OkP (shutN N d) n m (updI g d (-1)) := by
 refine OkP.of (fun e => ?_) (fun e he h0 => ?_) (fun e k he hk h0 q => ?_)
 ·rcases updI_cases g d (-1) e with ⟨-,e1⟩ | ⟨-,e1⟩ <;> rw [e1]
  ·omega
  ·exact h.lt e
 ·rcases updI_cases g d (-1) e with ⟨-,e1⟩ | ⟨ne,e1⟩ <;> rw [e1] at h0 ⊢
  ·omega
  ·exact shutN_mem.2 ⟨h.day e he h0,ne⟩
 ·rcases updI_cases g d (-1) e with ⟨-,e1⟩ | ⟨ne,e1⟩ <;> rw [e1] at h0 q
  ·omega
  ·rcases updI_cases g d (-1) k with ⟨-,e2⟩ | ⟨nk,e2⟩ <;> rw [e2] at q
   ·omega
   ·exact h.inj he hk h0 q
theorem IsOpt.shut (h : IsOpt N n m W v) (h' : IsOpt (shutN N d) n m W v') (hd : d < n) {c : Int} (hW : ∀ j : Nat,j < m → W j ≤ c) (hc : 0 ≤ c) : v' ≤ v ∧ v ≤ v' + c := by
 refine ⟨h'.mono h (fun j _ e _ hm => (shutN_mem.1 hm).1) fun _ _ => Int.le_refl _,?_⟩;obtain ⟨g,g1,g2⟩ := h.ex;have q := h'.le _ (g1.free d);rw [worth_upd hd,if_neg (show ¬ (0 : Int) ≤ -1 by decide)] at q
 by_cases h0 : 0 ≤ g d
 ·rw [if_pos h0] at q;obtain ⟨j,hj,hjm⟩ := g1.at' h0;rw [hj] at q;have := hW j hjm;omega
 ·rw [if_neg h0] at q;omega
theorem IsOpt.drop (h : IsOpt N n m W v) (h' : IsOpt (dropN N i) n m W v') : v' ≤ v ∧ (v' < v ↔ ∀ g,OkP N n m g → worthW W g n = v → cntN g i n ≠ 0) := by
 have hle : v' ≤ v := h'.mono h (fun j _ e _ hm => (dropN_mem.1 hm).2) fun _ _ => Int.le_refl _;refine ⟨hle,fun hlt g hg e hz => ?_,fun hall => ?_⟩
 ·have := h'.le g (hg.sub fun d hd h0 hm => dropN_mem.2 ⟨cntN_zero hz d hd,hm⟩);omega
 ·obtain ⟨g,g1,g2⟩ := h'.ex;have ok : OkP N n m g := g1.sub fun d _ _ hm => (dropN_mem.1 hm).2
  by_cases e : v' = v
  ·exact absurd (cntN_of_zero fun d hd q => by
    have := g1.day d hd (by omega)
    exact (dropN_mem.1 this).1 q) (hall g ok (by omega))
  ·omega
theorem IsOpt.split {N1 N2 : Int → List Nat} {v1 v2 : Int} (h : IsOpt N n m W v) (h1 : IsOpt N1 n m W v1) (h2 : IsOpt N2 n m W v2) (hW : ∀ j : Nat,j < m → 0 ≤ W j)
  (hs : ∀ j : Nat,j < m → (∀ d,d ∈ N j → d ∈ N1 j) ∨ (∀ d,d ∈ N j → d ∈ N2 j)) : v ≤ v1 + v2 := by
 obtain ⟨g,g1,g2⟩ := h.ex
 let P : Nat → Prop := fun d => 0 ≤ g d ∧ ∀ e,e ∈ N (g d) → e ∈ N1 (g d)
 have ch : ∀ d : Nat,∃ x : Int × Int,(P d ∧ x = (g d,-1)) ∨ (¬ P d ∧ x = (-1,g d)) := fun d => by
  by_cases h0 : P d
  ·exact ⟨_,.inl ⟨h0,rfl⟩⟩
  ·exact ⟨_,.inr ⟨h0,rfl⟩⟩
 obtain ⟨p,hp⟩ := Classical.axiomOfChoice ch
 have q1 := h1.le (fun d => (p d).1) (OkP.of (fun d => by
  have := g1.lt d
  rcases hp d with ⟨-,e⟩ | ⟨-,e⟩ <;> rw [e] <;> show -1 ≤ _ ∧ _ <;> dsimp only <;> omega) (fun d hd h0 => by
  rcases hp d with ⟨hP,e⟩ | ⟨-,e⟩ <;> rw [e] at h0 ⊢
  ·exact hP.2 d (g1.day d hd hP.1)
  ·exact absurd h0 (by dsimp only;omega)) (fun d e hd he h0 q => by
  rcases hp d with ⟨hP,e1⟩ | ⟨-,e1⟩ <;> rw [e1] at h0 q
  ·rcases hp e with ⟨hP',e2⟩ | ⟨-,e2⟩ <;> rw [e2] at q
   ·exact g1.inj hd he hP.1 q
   ·have q : g d = -1 := q;have := hP.1;omega
  ·exact absurd h0 (by dsimp only;omega)))
 have q2 := h2.le (fun d => (p d).2) (OkP.of (fun d => by
  have := g1.lt d
  rcases hp d with ⟨-,e⟩ | ⟨-,e⟩ <;> rw [e] <;> show -1 ≤ _ ∧ _ <;> dsimp only <;> omega) (fun d hd h0 => by
  rcases hp d with ⟨-,e⟩ | ⟨hP,e⟩ <;> rw [e] at h0 ⊢
  ·exact absurd h0 (by dsimp only;omega)
  ·have h0 : 0 ≤ g d := h0;obtain ⟨j,hj,hjm⟩ := g1.at' h0;have hd2 := g1.day d hd h0
   show d ∈ N2 (g d)
   rcases hs j hjm with q | q
   ·exact absurd ⟨h0,by rw [hj];exact q⟩ hP
   ·rw [hj] at hd2 ⊢;exact q d hd2) (fun d e hd he h0 q => by
  rcases hp d with ⟨-,e1⟩ | ⟨hP,e1⟩ <;> rw [e1] at h0 q
  ·exact absurd h0 (by dsimp only;omega)
  ·have h0 : 0 ≤ g d := h0
   rcases hp e with ⟨-,e2⟩ | ⟨hP',e2⟩ <;> rw [e2] at q
   ·have q : g d = -1 := q;omega
   ·exact g1.inj hd he h0 q))
 have : worthW W g n ≤ worthW W (fun d => (p d).1) n + worthW W (fun d => (p d).2) n := by
  unfold worthW;rw [← sumN_add];refine sumN_le n fun d hd => ?_
  show (if 0 ≤ g d then W (g d) else 0) ≤ (if 0 ≤ (p d).1 then W (p d).1 else 0) + if 0 ≤ (p d).2 then W (p d).2 else 0
  rcases hp d with ⟨-,e⟩ | ⟨-,e⟩ <;> rw [e] <;> dsimp only
  ·rw [if_neg (show ¬ (0 : Int) ≤ -1 by decide)];omega
  ·rw [if_neg (show ¬ (0 : Int) ≤ -1 by decide)];omega
 omega
end
theorem insQ_perm (lt : Int → Int → Bool) (l : List Int) (x : Int) : (insQ lt l x).Perm (x :: l) := by
 unfold insQ;refine List.perm_middle.trans ?_;rw [List.take_append_drop]
theorem sortQ_perm (lt : Int → Int → Bool) (l : List Int) : (sortQ lt l).Perm l := by
 have key : ∀ (l a : List Int),(l.foldl (insQ lt) a).Perm (a ++ l) := by
  intro l
  induction l with
  | nil => intro a;rw [List.append_nil];exact List.Perm.refl _
  | cons x l ih =>
    intro a;rw [List.foldl_cons];refine (ih _).trans (((insQ_perm lt a x).append_right l).trans ?_);exact List.perm_middle.symm
 have := key l [];exact this
theorem posQ_spec (lt : Int → Int → Bool) (l : List Int) (x : Int) : ∀ k,(∀ j,posQ lt l x k ≤ j → j < k → lt x (gI l j) = true) ∧ (0 < posQ lt l x k → lt x (gI l (posQ lt l x k - 1)) = false)
 | 0 => ⟨fun j _ h => absurd h (Nat.not_lt_zero _),fun h => absurd h (Nat.lt_irrefl _)⟩
 | k + 1 => by
   obtain ⟨h1,h2⟩ := posQ_spec lt l x k
   by_cases h : lt x (gI l k) = true
   ·have e : posQ lt l x (k + 1) = posQ lt l x k := if_pos h;rw [e]
    exact ⟨fun j hj hk => by
     by_cases q : j = k
     ·rw [q];exact h
     ·exact h1 j hj (by omega),h2⟩
   ·have e : posQ lt l x (k + 1) = k + 1 := if_neg h;rw [e];exact ⟨fun j hj hk => by omega,fun _ => by simpa using h⟩
theorem insQ_sorted {lt : Int → Int → Bool} {key : Int → Int} {l : List Int} {x : Int} (hl : l.Pairwise fun a b => key b ≤ key a) (hk : ∀ a ∈ l,lt x a = decide (key a < key x)) : (insQ lt l x).Pairwise fun a b => key b ≤ key a := by
 obtain ⟨h1,h2⟩ := posQ_spec lt l x l.length;have hp := posQ_le lt l x l.length;unfold insQ;have hl' := hl;rw [← List.take_append_drop (posQ lt l x l.length) l,List.pairwise_append] at hl';rw [List.pairwise_append];refine ⟨hl'.1,List.pairwise_cons.2 ⟨fun y hy => ?_,hl'.2.1⟩,fun u hu v hv => ?_⟩
 ·obtain ⟨j,hj,rfl⟩ := List.getElem_of_mem hy;rw [List.length_drop] at hj;rw [List.getElem_drop];have q := h1 (posQ lt l x l.length + j) (by omega) (by omega);rw [gI_lt (by omega),hk _ (List.getElem_mem _),decide_eq_true_iff] at q;omega
 ·rcases List.mem_cons.1 hv with rfl | hv
  ·obtain ⟨j,hj,rfl⟩ := List.getElem_of_mem hu;rw [List.length_take] at hj;rw [List.getElem_take];have q := h2 (by omega);rw [gI_lt (show posQ lt l v l.length - 1 < l.length by omega),hk _ (List.getElem_mem _),decide_eq_false_iff_not] at q
   by_cases e : j = posQ lt l v l.length - 1
   ·subst e;omega
   ·have := List.pairwise_iff_getElem.1 hl j (posQ lt l v l.length - 1) (by omega) (by omega) (by omega);omega
  ·exact hl'.2.2 u hu v hv
theorem sortQ_sorted {lt : Int → Int → Bool} {key : Int → Int} {l : List Int} (hk : ∀ a ∈ l,∀ b ∈ l,lt a b = decide (key b < key a)) : (sortQ lt l).Pairwise fun a b => key b ≤ key a := by
 have go : ∀ (r a : List Int),(∀ x ∈ a,x ∈ l) → (∀ x ∈ r,x ∈ l) → (a.Pairwise fun a b => key b ≤ key a) → (r.foldl (insQ lt) a).Pairwise fun a b => key b ≤ key a := by
  intro r
  induction r with
  | nil => intro a _ _ h;exact h
  | cons x r ih =>
    intro a ha hr h;rw [List.foldl_cons];refine ih _ (fun y hy => ?_) (fun y hy => hr y (List.mem_cons_of_mem _ hy)) (insQ_sorted h fun y hy => hk x (hr x List.mem_cons_self) y (ha y hy))
    rcases (insQ_mem lt a x y).1 hy with rfl | hy
    ·exact hr _ List.mem_cons_self
    ·exact ha y hy
 exact go l [] (fun x hx => absurd hx List.not_mem_nil) (fun x hx => hx) List.Pairwise.nil
theorem rangeI_nodup (n : Nat) : (rangeI n).Nodup := by
 unfold rangeI;rw [List.nodup_iff_pairwise_ne,List.pairwise_map];exact List.nodup_range.imp fun h e => h (by omega)
theorem ordL_nodup (fl : List Fl) : (ordL fl).Nodup := (sortQ_perm _ _).nodup_iff.2 (rangeI_nodup _)
theorem ordL_sorted (fl : List Fl) : (ordL fl).Pairwise fun a b => mAt fl b ≤ mAt fl a := sortQ_sorted fun a ha b hb => by
 obtain ⟨i,rfl,hi⟩ := rangeI_mem.1 ha;obtain ⟨j,rfl,hj⟩ := rangeI_mem.1 hb;rw [ltM_at hi hj,mAt_at hi,mAt_at hj]
theorem worthN_W (fl : List Fl) (h : Nat → Int) : ∀ k,worthN fl h k = worthW (mAt fl) h k
 | 0 => rfl
 | k + 1 => by
   show (if 0 ≤ h k then worthN fl h k + mAt fl (h k) else worthN fl h k) = worthW (mAt fl) h k + (if 0 ≤ h k then mAt fl (h k) else 0)
   rw [worthN_W fl h k]
   split
   ·rfl
   ·rw [Int.add_zero]
theorem mAt_pos {fl : List Fl} (hm : ∀ f ∈ fl,0 ≤ f.m) (x : Int) : 0 ≤ mAt fl x := by
 unfold mAt
 split
 ·rename_i f hf;exact hm f (List.mem_of_getElem? hf)
 ·exact Int.le_refl _
structure OptT (t : Tr) (n : Nat) : Prop where
 sp : ∀ f ∈ t.fl,0 ≤ f.lo ∧ f.hi < n
 mr : ∀ f ∈ t.fl,0 ≤ f.m
theorem OptT.span {t : Tr} {n : Nat} (h : OptT t n) : SpanT t n := ⟨fun k hk => h.sp _ (List.getElem_mem hk)⟩
theorem PlanT.opt {t : Tr} {n : Nat} (h : PlanT t n) : OptT t n := ⟨fun f hf => by
 obtain ⟨k,hk,rfl⟩ := List.getElem_of_mem hf;exact h.sp k hk,fun f hf => by
 obtain ⟨k,hk,rfl⟩ := List.getElem_of_mem hf;exact (h.mr k hk).1⟩
theorem bestF_C {t : Tr} {n : Nat} (h : OptT t n) : PlanC t.N n t.fl.length (fun a b => mAt t.fl b ≤ mAt t.fl a) (ordL t.fl) (bestF t n) :=
 planF_C (trN_lt h.span) (ordL_nodup _) (ordL_sorted _) fun _ hx => ordL_mem.1 hx
theorem meritF_opt {t : Tr} {n : Nat} (h : OptT t n) : IsOpt t.N n t.fl.length (mAt t.fl) (meritF t n) := by
 have hC := bestF_C h;have e : worthW (mAt t.fl) (bestF t n) n = meritF t n := (worthN_W _ _ _).symm;refine ⟨⟨_,hC.ok,e⟩,fun g hg => ?_⟩;rw [← e];refine dual_max (S := fun _ => True) hC.ok hg (fun _ _ _ => .inl trivial) (mAt_pos h.mr) fun i hi _ hz => ?_;obtain ⟨X,h1,h2,h3⟩ := hC.cert i (ordL_mem.2 ⟨i,rfl,hi⟩) hz;exact ⟨X,h1,h2,h3⟩
structure BestP (t : Tr) (n : Nat) (g : Nat → Int) : Prop where
 ok : OkP t.N n t.fl.length g
 w : worthW (mAt t.fl) g n = meritF t n
theorem OptT.cl {t : Tr} {n : Nat} (h : OptT t n) (k : Int) (cl : List Int) : OptT ⟨k,cl,t.fl⟩ n := ⟨h.sp,h.mr⟩
theorem OptT.keep {t : Tr} {n : Nat} (h : OptT t n) (k : Int) (cl l : List Int) : OptT ⟨k,cl,keepN l t.fl t.fl.length⟩ n :=
 ⟨fun f hf => h.sp f (keepN_mem hf),fun f hf => h.mr f (keepN_mem hf)⟩
theorem mAt_eq {fl fl' : List Fl} {a b : Nat} (h : fl[a]? = fl'[b]?) : mAt fl (a : Int) = mAt fl' (b : Int) := by unfold mAt;rw [Int.toNat_natCast,Int.toNat_natCast,h]
structure OnP (N : Int → List Nat) (n m : Nat) (xs : List Int) (h : Nat → Int) : Prop where
 ok : OkP N n m h
 len : xs.length = m
 on : ∀ i : Nat,i < m → (gI xs i = -1 ∧ cntN h i n = 0) ∨ ∃ d : Nat,d < n ∧ gI xs i = (d : Int) ∧ h d = (i : Int)
section
variable {N : Int → List Nat} {n m : Nat} {xs : List Int} {h : Nat → Int}
theorem OnP.cnt (q : OnP N n m xs h) {i : Nat} (hi : i < m) : cntN h i n = if 0 ≤ gI xs i then 1 else 0 := by
 rcases q.on i hi with ⟨e,hz⟩ | ⟨d,hd,e,e2⟩
 ·rw [e,hz];rfl
 ·rw [if_pos (by omega)];have := cntN_ge hd e2;have := q.ok.one i;omega
theorem OnP.worth (q : OnP N n m xs h) (W : Int → Int) : worthW W h n = sumN (fun j => if 0 ≤ gI xs j then W (j : Int) else 0) m := by
 rw [worth_cnt n fun d _ => (q.ok.lt d).2];refine sumN_eq m fun j hj => ?_;rw [q.cnt hj]
 split
 ·exact Int.one_mul _
 ·exact Int.zero_mul _
end
theorem wrthK_sum {t : Tr} {xs : List Int} : ∀ k,k ≤ t.fl.length → wrthK t xs k = sumN (fun j => if 0 ≤ gI xs j then mAt t.fl (j : Int) else 0) k
 | 0,_ => rfl
 | k + 1,hk => by
   show wrthK t xs k + (if 0 ≤ gI xs k then (match t.fl[k]? with | some f => f.m | none => 0) else 0) = sumN _ k + (if 0 ≤ gI xs k then mAt t.fl (k : Int) else 0)
   rw [wrthK_sum k (by omega),mAt_at (show k < t.fl.length by omega),List.getElem?_eq_getElem (show k < t.fl.length by omega)]
theorem onN_spec (h : Nat → Int) (i : Nat) : ∀ k,(onN h k i = -1 ∧ ∀ d,d < k → h d ≠ (i : Int)) ∨ ∃ d : Nat,d < k ∧ onN h k i = (d : Int) ∧ h d = (i : Int)
 | 0 => .inl ⟨rfl,fun d hd => absurd hd (Nat.not_lt_zero _)⟩
 | k + 1 => by
   by_cases h0 : 0 ≤ h k
   ·have e : onN h (k + 1) = updF (onN h k) (h k).toNat (k : Int) := if_pos h0;rw [e];unfold updF
    by_cases q : i = (h k).toNat
    ·rw [if_pos q];exact .inr ⟨k,Nat.lt_succ_self _,rfl,by omega⟩
    ·rw [if_neg q]
     rcases onN_spec h i k with ⟨h1,h2⟩ | ⟨d,h1,h2,h3⟩
     ·exact .inl ⟨h1,fun d hd => by
       rcases Nat.lt_or_ge d k with q2 | q2
       ·exact h2 d q2
       ·obtain rfl : d = k := by omega
        omega⟩
     ·exact .inr ⟨d,by omega,h2,h3⟩
   ·have e : onN h (k + 1) = onN h k := if_neg h0;rw [e]
    rcases onN_spec h i k with ⟨h1,h2⟩ | ⟨d,h1,h2,h3⟩
    ·exact .inl ⟨h1,fun d hd => by
      rcases Nat.lt_or_ge d k with q2 | q2
      ·exact h2 d q2
      ·obtain rfl : d = k := by omega
       omega⟩
    ·exact .inr ⟨d,by omega,h2,h3⟩
theorem onL_on {N : Int → List Nat} {n m : Nat} {h : Nat → Int} (hh : OkP N n m h) : OnP N n m (onL h n m) h :=
 ⟨hh,onL_len,fun i hi => by
  rw [onL_at hi]
  rcases onN_spec h i n with ⟨h1,h2⟩ | h1
  ·exact .inl ⟨h1,cntN_of_zero h2⟩
  ·exact .inr h1⟩
def FullOk (t : Tr) (xs : List Int) (z : Int × Int) (k : Nat) : Prop :=
 if 0 ≤ gI xs k then z = (0,0) else match t.fl[k]? with
 | some f => (0 ≤ z.1 ∧ z.1 ≤ z.2 ∧ z.2 < t.n) ∧ (z.1 ≤ f.lo ∧ f.hi ≤ z.2) ∧ fullB t xs z.1 z.2 f.m = true
 | none => True
theorem FullOk.at {t : Tr} {xs : List Int} {z : Int × Int} {k : Nat} (hk : k < t.fl.length) (h0 : ¬ 0 ≤ gI xs k) : FullOk t xs z k ↔ (0 ≤ z.1 ∧ z.1 ≤ z.2 ∧ z.2 < t.n) ∧ (z.1 ≤ t.fl[k].lo ∧ t.fl[k].hi ≤ z.2) ∧ fullB t xs z.1 z.2 t.fl[k].m = true := by
 unfold FullOk;rw [if_neg h0,List.getElem?_eq_getElem hk]
instance {t : Tr} {xs : List Int} {z : Int × Int} {k : Nat} : Decidable (FullOk t xs z k) := by
 unfold FullOk;split
 ·infer_instance
 ·split <;> infer_instance
def gZ (l : List (Int × Int)) (i : Nat) : Int × Int := l[i]?.getD (0,0)
theorem gZ_lt {l : List (Int × Int)} {i : Nat} (h : i < l.length) : gZ l i = l[i] := by unfold gZ;rw [List.getElem?_eq_getElem h];rfl
def ProvP (t : Tr) (m : Md) : Prop := (m.on.length = t.fl.length ∧ m.full.length = t.fl.length ∧ wrongI t m.on < 0 ∧ wrthK t m.on t.fl.length = m.mt) ∧ ∀ k,k < t.fl.length → FullOk t m.on (gZ m.full k) k
end Go.Proofs.YtnklbepeoicgpaaGreat
namespace Go.Proofs.YtnklbepeoicgpaaGreat
open Go.RowKit Go.Wk Go.Proofs
attribute [local irreducible] Go.Wk.Wops Go.Wk.Wp Go.Wk.Mtree Go.Wk.Mops
set_option maxHeartbeats 8000000
set_option maxRecDepth 20000
theorem worthM_c (t : Tr) (n : Nat) (on : List Int) (v ov : Value) (w : World) (hP : PlanT t n) (hV : TourV w w.heap.size v t) (hI : IntsV w w.heap.size ov on) (hl : on.length = t.fl.length) :
  CallsV Tryz.prog 141 #[v,ov] w fun v' w' => v' = .int .i64 (wrthK t on t.fl.length) ∧ Ext w w' := by
 obtain ⟨A,c,A2,c2,rfl,hI1,hF⟩ := hV.open';obtain ⟨A1,c1,rfl,-,-⟩ := id hI;have hFS : FlawsS w w.heap.size (.slice A2 t.fl.length c2) t.fl := ⟨hF⟩;have hXS : IntsS w w.heap.size (.slice A1 on.length c1) on := ⟨hI⟩;clear hV hI1 hF hI;have hm12 := hP.fl;replace hl : ∃ _u : Unit,_ := ⟨(),hl⟩;refine Wp.fn Tryz.func141 rfl Tryz.ntmps141 (by simp) ?_;have xw := Ext.refl w;refine Wp.keep [0,1] ?_;rintro r1 ⟨p,B,-⟩;simp [go_sem] at p B;refine sRg fun K' gd hK => ?_;refine cu1 fun K1 hK1 => ?_;go_simp;apply hK1;clear hK1 K1;refine Wops.absA fun aB n2 i => ?_;obtain ⟨q2,i,s2,ak,f2,r2⟩ := i;try simp only [q2] at ak f2 r2 ⊢
 replace hFS := hFS.ext i;replace hXS := hXS.ext i;replace xw := xw.trans i;have al := ak 2 _ rfl;clear ak i;clear r2;go_simp;apply hK;clear hK K' gd;refine Wp.keep [1,2] ?_;rintro r2 ⟨C,G,-⟩;simp [go_sem,p,B] at C G;clear p B;refine sRg fun K' gd hK => ?_;go_simp;apply hK;clear hK K' gd;refine Wp.keep [1,2,5] ?_;rintro r3 ⟨D,H,O,-⟩;simp [go_sem,C,G] at D H O;clear C G;refine Wp.seq ?_;refine sRg fun K' gd hK => ?_;go_simp;apply hK;clear hK K' gd;refine Wp.keep [2,5,8,9,10] ?_;rintro r4 ⟨j,aw,l,m,ao,-⟩;simp [go_sem,D,H,O] at j aw l m ao;clear D H O;refine Wp.block ?_;refine Wp.loop (fun k ρ ds wk => AllEq [2,8,9] ρ r4 ∧ ds = [] ∧ (Ext aB wk) ∧ (ρ 10 = .int .i64 (k : Int) ∧ ρ 5 = .int .i64 (wrthK t on k))) (on.length) ?_ ?_
 ·refine ⟨AllEq.refl _ _,rfl,Ext.refl _,?_⟩;exact ⟨by rw [ao];rfl,by rw [aw];rfl⟩
 ·rintro k r5 _ wk hk ⟨hA,rfl,xl2,⟨e10,e5⟩⟩;obtain ⟨I,aa,ag,-⟩ := hA;rw [j] at I;rw [l] at aa;rw [m] at ag;replace hFS := hFS.ext xl2;replace hXS := hXS.ext xl2;replace xw := Ext.trans xw xl2;replace al := Ext.cell xl2 al;refine sRg fun K' gd hK => ?_;go_simp;apply hK;clear hK K' gd;refine Wp.keep [2,5,8,9,10,11] ?_;rintro r6 ⟨e,f,g,h,a,d,-⟩;simp [go_sem,I,e5,aa,ag,e10] at e f g h a d;clear I e5 aa ag e10;refine Wp.seq ?_
  by_cases hkn : k < on.length
  ·refine cTt ?_;have hkl : (k : Int) < (on.length : Int) := by omega
   have hkf : k < t.fl.length := by have := hl.choose_spec;omega
   have hkf2 : (k : Int) < (t.fl.length : Int) := by omega
   obtain ⟨b,o,cc,ev,hb,hcc⟩ := hXS.v.get hkn
   injection ev with ev1 _ ev2
   subst ev1;subst ev2;have d1 := hcc k hkn;clear hcc;obtain ⟨b2,o2,eA,hb2,x0,x1,x2,x3⟩ := FlawsV.at hFS.v hkf;subst eA;have hmr := hP.mr k hkf;have hwl := wrthK_le hP on k (by omega)
   by_cases h0 : 0 ≤ gI on k
   ·skip;refine skN ?_;refine sBk ?_;refine sRg fun K' gd hK => ?_;go_simp;apply hK;clear hK K' gd;refine Wp.keep [2,5,6,7,8,9,10] ?_;rintro r7 ⟨J,P,U,X,ab,ah,s,-⟩;simp [go_sem,e,f,g,h,a,d] at J P U X ab ah s;clear e f g h a d;refine sRg fun K' gd hK => ?_;go_simp;apply hK;clear hK K' gd;refine Wp.keep [2,5,6,8,9,10,16] ?_;rintro r8 ⟨K,Q,V,ac,ai,u,z,-⟩;simp [go_sem,J,P,U,X,ab,ah,s] at K Q V ac ai u z;clear J P U X ab ah s;refine cTt ?_;refine lRg fun K' gd hK => ?_;go_simp;apply hK;clear hK K' gd;refine Ends.keep [2,5,8,9,10] ?_;rintro r9 ⟨L,R,ad,aj,x,-⟩;simp [go_sem,K,Q,V,ac,ai,u,z] at L R ad aj x;clear K Q V ac ai u z;refine Ends.mk ?_;refine bNo ?_;refine tNo ?_;refine lRg fun K' gd hK => ?_;go_simp;apply hK;clear hK K' gd;refine Ends.keep [2,5,8,9,10] ?_;rintro r10 ⟨ap,au,ax,az,am,-⟩
    simp [go_sem,L,R,ad,aj,x] at ap au ax az am;clear L R ad aj x;refine Ends.mk ?_;refine thenK_normal ⟨by omega,⟨by rw [ap,j],by rw [ax,l],by rw [az,m],trivial⟩,rfl,xl2,?_⟩;exact ⟨by rw [am,IntWalk.i64_in _ (by omega)];rfl,by rw [au,wrthK_T hkf h0,IntWalk.i64_in _ (by omega)]⟩
   ·skip;refine skN ?_;refine sBk ?_;refine sRg fun K' gd hK => ?_;go_simp;apply hK;clear hK K' gd;refine Wp.keep [2,5,6,7,8,9,10] ?_;rintro r11 ⟨E,M,S,W,Y,ae,q,-⟩;simp [go_sem,e,f,g,h,a,d] at E M S W Y ae q;clear e f g h a d;refine sRg fun K' gd hK => ?_;go_simp;apply hK;clear hK K' gd;refine Wp.keep [2,5,6,8,9,10,16] ?_;rintro r12 ⟨F,N,T,Z,af,r,y,-⟩;simp [go_sem,E,M,S,W,Y,ae,q] at F N T Z af r y;clear E M S W Y ae q;refine cFf ?_;refine Wp.skip ?_;refine bNo ?_;refine tNo ?_;refine lRg fun K' gd hK => ?_;go_simp;apply hK;clear hK K' gd;refine Ends.keep [2,5,8,9,10] ?_;rintro r13 ⟨aq,av,ay,aA,an,-⟩;simp [go_sem,F,N,T,Z,af,r,y] at aq av ay aA an;clear F N T Z af r y;refine Ends.mk ?_;refine thenK_normal ⟨by omega,⟨by rw [aq,j],by rw [ay,l],by rw [aA,m],trivial⟩,rfl,xl2,?_⟩
    exact ⟨by rw [an,IntWalk.i64_in _ (by omega)];rfl,by rw [av,wrthK_F h0]⟩
  ·refine cFf ?_;have hkq : ∃ _u : Unit,k = t.fl.length := ⟨(),by have := hl.choose_spec;omega⟩;refine Wp.exit ?_;refine tEx ?_;refine tEx ?_;refine blockK_here ?_;refine tNo ?_;refine sRg fun K' gd hK => ?_;go_simp;apply hK;clear hK K' gd;refine Wp.keep [4] ?_;rintro r14 ⟨ar,-⟩;simp [go_sem,e,f,g,h,a,d] at ar;clear e f g h a d;refine Wp.ret ?_;refine endK_tmp Tryz.results141 (by decide) ?_;rw [ar];exact ⟨by rw [hkq.choose_spec],xw⟩
instance (t : Tr) (m : Md) : Decidable (ProvP t m) := by unfold ProvP;infer_instance
theorem SpansV.at {w : World} {B : Nat} {A : Option Addr} {n c : Nat} {l : List (Int × Int)} (h : SpansV w B (.slice A n c) l) {k : Nat} (hk : k < l.length) : ∃ b o,A = some ⟨b,o,none⟩ ∧ b < B ∧
  w.cell? ⟨b,o + k * 2,none⟩ = some (.int .i64 (gZ l k).1) ∧ w.cell? ⟨b,o + k * 2 + 1,none⟩ = some (.int .i64 (gZ l k).2) := by
 obtain ⟨A',c',hv,hx,-⟩ := h
 injection hv with h1 h2 h3;subst h1
 obtain ⟨b,o,hA,hb,hc⟩ := hx (by rintro rfl;exact absurd hk (Nat.not_lt_zero _));rw [gZ_lt hk];exact ⟨b,o,hA,hb,hc k hk 0 _ rfl,hc k hk 1 _ rfl⟩
structure SpansS (w : World) (S : Nat) (v : Value) (l : List (Int × Int)) : Prop where
 v : SpansV w S v l
section
variable {w V : World} {S : Nat} {v : Value} {l : List (Int × Int)}
theorem SpansS.ext (h : SpansS w S v l) (hE : Ext w V) : SpansS V S v l := ⟨h.v.cells fun _ _ _ _ hc => hE.cell hc⟩
theorem SpansS.chg {L : List Nat} (h : SpansS w S v l) (hC : Chg L w V) (hL : ∀ b ∈ L,S ≤ b) : SpansS V S v l := ⟨h.v.cells fun b _ _ hb hc => Chg.cell hC hc fun hm => by have := hL b hm;omega⟩
theorem SpansS.put {b i : Nat} {vs : List Value} (h : SpansS w S v l) (p : Put w V b i vs) (hb : S ≤ b) : SpansS V S v l := h.chg p.chg (by simpa using hb)
end
structure OwnR (W : World) (B : Nat) (e : TypeId) (k : Nat) (v : Value) (n : Nat) (xs : List Value) : Prop where
 o : W.ownsRow B e k v n xs
section
variable {w w' : World} {B k n : Nat} {e : TypeId} {v : Value} {xs : List Value}
theorem OwnR.ext (h : OwnR w B e k v n xs) (hE : Ext w w') : OwnR w' B e k v n xs := ⟨ownsRow_ext h.o hE⟩
theorem OwnR.put {b i : Nat} {vs : List Value} (h : OwnR w B e k v n xs) (p : Put w w' b i vs) (hb : b < B) : OwnR w' B e k v n xs := ⟨World.ownsRow.put h.o p hb⟩
theorem OwnR.chg {L : List Nat} (h : OwnR w B e k v n xs) (hC : Chg L w w') (hL : ∀ b,v.ownBlock = some b → b ∉ L) : OwnR w' B e k v n xs := ⟨ownsRow_chg h.o hC hL⟩
end
theorem _root_.Go.Wk.FromE.chg {X w w' : World} {L : List Nat} (h : FromE X w) (hC : Chg L w w') (hL : ∀ b ∈ L,X.heap.size ≤ b) : FromE X w' := ⟨Chg.to h.h hC hL⟩
theorem app_nilI (w : World) (A : Option Addr) (n c k : Nat) (h : n ≤ c) : (Builtin.append_ #[22,22] 22 #[.slice A n c,.slice none 0 k]).run Tryz.prog w = .ok (.slice A n c) w := by
 simp [Builtin.append_,go_sem,h]
 cases A <;> rfl
theorem appI_any {w : World} {b base : Nat} {A3 : Option Addr} {c3 : Nat} {xs : List Int} (hR : RowC w b 3 []) (hb : base ≤ b) (hI : IntsV w w.heap.size (.slice A3 xs.length c3) xs) (hl : xs.length ≤ 1000) (hB : base ≤ w.heap.size) :
  ∃ v' w',(Builtin.append_ #[22,22] 22 #[.slice (some ⟨b,0,none⟩) 0 0,.slice A3 xs.length c3]).run Tryz.prog w = .ok v' w' ∧ OwnR w' base 3 1 v' xs.length (xs.map (Value.int .i64)) ∧ w.grownBy w' (Value.slice (some ⟨b,0,none⟩) 0 0).ownBlock ∧
   (v'.ownBlock = (Value.slice (some ⟨b,0,none⟩) 0 0).ownBlock ∨ v'.ownBlock = some w.heap.size) := by
 have hown := RowC.own (base := base) (size := 1) (k := 0) (c := 0) (cs := []) hR hb (Nat.le_refl _) (Nat.zero_le _) rfl;obtain ⟨A',c',e,hx,-⟩ := hI
 injection e with e1 e2 e3
 subst e1
 cases A3 with
 | none =>
   have hxs : xs = [] := by
    cases xs with
    | nil => rfl
    | cons a l => obtain ⟨b,o,h,-⟩ := hx (by simp);cases h
   subst hxs;exact ⟨_,w,app_nilI w _ 0 0 c3 (Nat.le_refl _),⟨hown⟩,⟨rfl,rfl,rfl,Nat.le_refl _,fun _ _ _ => rfl⟩,.inl rfl⟩
 | some a =>
   obtain ⟨v',w',h1,h2,h3,h4⟩ := app_run2 ints_T hown a xs.length c3 (xs.map (Value.int .i64)) 22 (by simp) (fun j u hu => by
    rw [List.getElem?_map] at hu;obtain ⟨x,hx1,rfl⟩ := Option.map_eq_some_iff.1 hu;obtain ⟨hj,rfl⟩ := List.getElem?_eq_some_iff.1 hx1;obtain ⟨b,o,h,-,hc⟩ := hx (fun q => by rw [q] at hj;exact absurd hj (Nat.not_lt_zero _))
    injection h with h
    subst h;rw [Addr.add_lit]
    exact hc j hj) one_ints (by omega) hB
   exact ⟨v',w',h1,⟨by simpa using h2⟩,h3,h4⟩
theorem encL_at : ∀ (l : List (Int × Int)) (i : Nat) (h : i < l.length) (r : Nat) (u : Value),(encZ l[i])[r]? = some u → (encL l)[i * 2 + r]? = some u
 | [],i,h,_,_,_ => absurd h (Nat.not_lt_zero _)
 | s :: l,0,_,r,u,hu => by
   match r,hu with
   | 0,hu => exact hu
   | 1,hu => exact hu
   | r + 2,hu => exact absurd hu (by simp [encZ])
 | s :: l,i + 1,h,r,u,hu => by
   have := encL_at l i (Nat.lt_of_succ_lt_succ h) r u hu;rw [show (i + 1) * 2 + r = (i * 2 + r) + 2 by omega];exact this
theorem OwnR.slice {w : World} {B k n : Nat} {e : TypeId} {v : Value} {xs : List Value} (h : OwnR w B e k v n xs) : ∃ A c,v = .slice A n c := ownsRow_slice h.o
theorem OwnR.intsB {w : World} {B : Nat} {v : Value} {l : List Int} {n : Nat} (h : OwnR w B 3 1 v n (l.map (Value.int .i64))) (hn : n = l.length) : IntsB w B v l := by
 subst hn;exact OwnI.intsB (show OwnI w B v l from h.o)
theorem setI_V {w V : World} {B b n c j : Nat} {l : List Int} {x : Int} (h : w.ownsRow B 3 1 (.slice (some ⟨b,0,none⟩) n c) n (l.map (Value.int .i64))) (p : Put w V b j [.int .i64 x]) (hj : j < l.length) (hn : n = l.length := by rfl) : IntsB V B (.slice (some ⟨b,0,none⟩) n c) (l.set j x) := by
 subst hn;have q := ownsRow_store h p (by simp;omega)
 have e : (l.map (Value.int .i64)).take j ++ [Value.int .i64 x] ++ (l.map (Value.int .i64)).drop (j + [Value.int .i64 x].length) = (l.set j x).map (Value.int .i64) := by
  rw [List.set_eq_take_append_cons_drop,if_pos hj,List.map_append,List.map_cons,List.map_take,List.map_drop];simp
 rw [e] at q;exact (OwnR.mk q).intsB (by rw [List.length_set])
theorem OwnR.openZ {w : World} {base : Nat} {v : Value} {l : List (Int × Int)} (h : OwnR w base 45 2 v l.length (encL l)) (hne : l ≠ []) : ∃ b c,v = .slice (some ⟨b,0,none⟩) l.length c ∧ base ≤ b ∧ ∀ i (hi : i < l.length),w.cell? ⟨b,i * 2,none⟩ = some (.int .i64 l[i].1) ∧ w.cell? ⟨b,i * 2 + 1,none⟩ = some (.int .i64 l[i].2) := by
 rcases h.o.2 with ⟨rfl,hn⟩ | ⟨g,cap,cur,rfl,hb,hg,hnc,hcm,hcs,htake⟩
 ·exact absurd (List.eq_nil_of_length_eq_zero hn) hne
 ·refine ⟨g,cap,rfl,hb,fun i hi => ?_⟩;have h0 := World.ownsRow.cells h.o (g := g) rfl (i * 2 + 0) _ (encL_at l i hi 0 _ rfl);have h1 := World.ownsRow.cells h.o (g := g) rfl (i * 2 + 1) _ (encL_at l i hi 1 _ rfl);rw [Addr.add_lit,Nat.zero_add] at h0 h1;exact ⟨h0,h1⟩
def secT (t : Tr) (other : List Int) : Tr := ⟨t.n,other,t.fl⟩
def secE (t : Tr) (other : List Int) : Int := if checkT t = 0 then if checkT (secT t other) = 0 then 0 else 1 else checkT t
theorem second_c (t : Tr) (other : List Int) (v ov : Value) (w : World) (hV : TourV w w.heap.size v t) (hO : IntsV w w.heap.size ov other) (hf : FitT t) (hl : other.length ≤ 1000000) :
  CallsV Tryz.prog 136 #[v,ov] w fun v' w' => (∃ n' A' k' c' B' k2 c2,v' = .tuple #[.agg #[.int .i64 n',.slice A' k' c',.slice B' k2 c2],.int .i64 (secE t other)] ∧ (secE t other = 0 → TourV w' w'.heap.size (.agg #[.int .i64 n',.slice A' k' c',.slice B' k2 c2]) (secT t other) ∧ ∀ x y z,v = .agg #[x,y,z] → Value.agg #[.int .i64 n',.slice A' k' c',.slice B' k2 c2] = .agg #[x,ov,z])) ∧ Ext w w' := by
 obtain ⟨A,c,A2,c2,rfl,hCl,hF⟩ := hV.open';obtain ⟨A1,c1,rfl,-,-⟩ := id hO;have hU : TourV w w.heap.size (.agg #[.int .i64 t.n,.slice A1 other.length c1,.slice A2 t.fl.length c2]) (secT t other) := ⟨_,_,rfl,hO,hF⟩;have hUf : FitT (secT t other) := ⟨by show other.length ≤ _;omega,hf.fl⟩;clear hCl hF;obtain ⟨e,he⟩ : ∃ e : Int,∃ _u : Unit,checkT t = e := ⟨_,(),rfl⟩;obtain ⟨e2,he2⟩ : ∃ e : Int,∃ _u : Unit,checkT (secT t other) = e := ⟨_,(),rfl⟩;unfold secE;rw [he.choose_spec,he2.choose_spec];refine Wp.fn Tryz.func136 rfl Tryz.ntmps136 (by simp) ?_;have xw := Ext.refl w;refine Wp.keep [0,1] ?_;rintro r1 ⟨K,N,-⟩;simp [go_sem] at K N;refine sRg fun K' gd hK => ?_;refine cu1 fun K1 hK1 => ?_;go_simp;apply hK1;clear hK1 K1;refine Wops.absA fun ak n2 J => ?_;obtain ⟨q2,J,s2,B,f2,r2⟩ := J;try simp only [q2] at B f2 r2 ⊢
 replace xw := xw.trans J;have E := B 0 _ rfl;have F := B 1 _ rfl;have G := B 2 _ rfl;clear B J;clear r2;refine cu1 fun K1 hK1 => ?_;go_simp;apply hK1;clear hK1 K1;refine Wops.absA fun al n4 k => ?_;obtain ⟨q4,k,s4,C,f4,r4⟩ := k;try simp only [q4] at C f4 r4 ⊢
 replace xw := xw.trans k;replace E := k.cell E;replace F := k.cell F;replace G := k.cell G;have a := C 0 _ rfl;have d := C 1 _ rfl;have f := C 2 _ rfl;clear C k;clear r4;go_simp;apply hK;clear hK K' gd;refine Wp.keep [1,2,4] ?_;rintro r2 ⟨P,T,W,-⟩;simp [go_sem,K,N] at P T W;clear K N;refine Wp.seq ?_;refine sRg fun K' gd hK => ?_;refine cu2 fun K1 hK1 => ?_;go_simp;refine Wcall (.inl rfl) (check_c t _ _ (hV.ext xw) hf) ?_;rintro v w2 ⟨hv,hE⟩;rw [he.choose_spec] at hv;subst hv;go_simp;apply hK1;clear hK1 K1;have z3 := Below.size hE;replace f4 := hE.fz a f4;replace xw := xw.trans hE;replace E := hE.cell E;replace F := hE.cell F;replace G := hE.cell G;replace a := hE.cell a;replace d := hE.cell d;replace f := hE.cell f;clear hE;go_simp;apply hK;clear hK K' gd;refine Wp.keep [1,2,4,6] ?_;rintro r4 ⟨m,o,p,s,-⟩;simp [go_sem,P,T,W] at m o p s;clear P T W
 by_cases h0 : e = 0
 ·skip;refine sRg fun K' gd hK => ?_;go_simp;apply hK;clear hK K' gd;refine Wp.keep [1,2,4,6,11] ?_;rintro r5 ⟨Q,U,X,ab,M,-⟩;simp [go_sem,m,o,p,s] at Q U X ab M;clear m o p s;refine cFf ?_;refine skN ?_;refine sRg fun K' gd hK => ?_;refine cu3 fun K1 hK1 => ?_;go_simp;apply hK1;clear hK1 K1;refine Wops.absA fun am n7 g => ?_;obtain ⟨q7,g,s7,D,f7,r7⟩ := g;try simp only [q7] at D f7 r7 ⊢
  replace f4 := g.fz a f4;replace xw := xw.trans g;replace a := g.cell a;replace d := g.cell d;replace f := g.cell f;have H := D 0 _ rfl;have h := D 1 _ rfl;have I := D 2 _ rfl;clear D g;clear r7;try simp only [Wops_nil,updO_some,updO_none]
  apply hK;clear hK K' gd;refine Wp.keep [1,4,7] ?_;rintro r6 ⟨R,Y,ac,-⟩;simp [go_sem,Q,U,X,ab,M] at R Y ac;clear Q U X ab M;refine sRg fun K' gd hK => ?_;refine cu3 fun K1 hK1 => ?_;go_simp;apply hK1;clear hK1 K1;refine Wops.absS (b := n7) (i := 1) [_] (somes [cellVal h] (by simp) (by intro j v hj;match j,hj with | 0,hj => (simp at hj;subst hj;exact h))) fun P4 hP4 => ?_;have zP4 := hP4.same;replace f4 := hP4.frz f4;replace xw := Put.to xw hP4 (by omega);replace a := hP4.cell a (by omega);replace d := hP4.cell d (by omega);replace f := hP4.cell f (by omega);replace H := Put.cellOff hP4 H (by simp);clear h;replace I := Put.cellOff hP4 I (by simp);have h := hP4.new 0 _ rfl;try simp only [Nat.reduceAdd,Nat.zero_add,Nat.add_zero] at h
  clear hP4;try simp only [Wops_nil,updO_some,updO_none]
  apply hK;clear hK K' gd;refine Wp.keep [4,7] ?_;rintro r7 ⟨Z,ad,-⟩;simp [go_sem,R,Y,ac] at Z ad;clear R Y ac;refine Wp.seq ?_;refine sRg fun K' gd hK => ?_;refine cu2 fun K1 hK1 => ?_;go_simp;refine Wcall (.inl rfl) (check_c (secT t other) _ _ (hU.ext xw) hUf) ?_;rintro v w3 ⟨hv,hE⟩;rw [he2.choose_spec] at hv;subst hv;go_simp;apply hK1;clear hK1 K1;replace f4 := hE.fz a f4;replace xw := xw.trans hE;replace a := hE.cell a;replace d := hE.cell d;replace f := hE.cell f;replace H := hE.cell H;replace I := hE.cell I;replace h := hE.cell h;clear hE;go_simp;apply hK;clear hK K' gd;refine Wp.keep [4,7,19] ?_;rintro r9 ⟨r,u,l,-⟩;simp [go_sem,Z,ad] at r u l;clear Z ad
  by_cases h1 : e2 = 0
  ·skip;refine cFf ?_;refine skN ?_;refine sRg fun K' gd hK => ?_;refine cu2 fun K1 hK1 => ?_;go_simp;apply hK1;clear hK1 K1;refine Wops.absS (b := n4) (i := 0) [_,_,_] (somes [cellVal a,cellVal d,cellVal f] (by simp) (by intro j v hj;match j,hj with | 0,hj => (simp at hj;subst hj;exact a) | 1,hj => (simp at hj;subst hj;exact d) | 2,hj => (simp at hj;subst hj;exact f))) fun P5 hP5 => ?_;replace xw := Put.to xw hP5 (by omega);clear a;clear d;clear f;have a := hP5.new 0 _ rfl;try simp only [Nat.reduceAdd,Nat.zero_add,Nat.add_zero] at a
   have d := hP5.new 1 _ rfl;try simp only [Nat.reduceAdd,Nat.zero_add,Nat.add_zero] at d
   have f := hP5.new 2 _ rfl;try simp only [Nat.reduceAdd,Nat.zero_add,Nat.add_zero] at f
   clear hP5;go_simp;apply hK;clear hK K' gd;refine Wp.keep [4,5] ?_;rintro r10 ⟨ae,ah,-⟩;simp [go_sem,r,u,l] at ae ah;clear r u l;refine Wp.ret ?_;refine endK_cell_tmp (v := .agg #[cellVal a,cellVal d,cellVal f]) Tryz.results136 (by decide) (by decide) ae (by dsimp only [cellVal];go_simp) ?_;rw [ah]
   dsimp only [cellVal]
   exact ⟨⟨_,_,_,_,_,_,_,by rw [if_pos h0,if_pos h1],fun _ => ⟨hU.ext xw,fun x y z e => by obtain ⟨rfl,-,rfl⟩ := agg3_inj e;rfl⟩⟩,xw⟩
  ·skip;refine cTt ?_;refine sRg fun K' gd hK => ?_;refine cu2 fun K1 hK1 => ?_;go_simp;apply hK1;clear hK1 K1;refine Wops.absS (b := n4) (i := 0) [_,_,_] (somes [cellVal a,cellVal d,cellVal f] (by simp) (by intro j v hj;match j,hj with | 0,hj => (simp at hj;subst hj;exact a) | 1,hj => (simp at hj;subst hj;exact d) | 2,hj => (simp at hj;subst hj;exact f))) fun P6 hP6 => ?_;replace xw := Put.to xw hP6 (by omega);clear a;clear d;clear f;have a := hP6.new 0 _ rfl;try simp only [Nat.reduceAdd,Nat.zero_add,Nat.add_zero] at a
   have d := hP6.new 1 _ rfl;try simp only [Nat.reduceAdd,Nat.zero_add,Nat.add_zero] at d
   have f := hP6.new 2 _ rfl;try simp only [Nat.reduceAdd,Nat.zero_add,Nat.add_zero] at f
   clear hP6;go_simp;apply hK;clear hK K' gd;refine Wp.keep [4,5] ?_;rintro r11 ⟨af,ai,-⟩;simp [go_sem,r,u,l] at af ai;clear r u l;refine Wp.ret ?_;refine tRe ?_;refine endK_cell_tmp (v := .agg #[cellVal a,cellVal d,cellVal f]) Tryz.results136 (by decide) (by decide) af (by dsimp only [cellVal];go_simp) ?_;rw [ai]
   dsimp only [cellVal]
   exact ⟨⟨_,_,_,_,_,_,_,by rw [if_pos h0,if_neg h1],fun q => by rw [if_pos h0,if_neg h1] at q;cases q⟩,xw⟩
 ·skip;refine sRg fun K' gd hK => ?_;go_simp;apply hK;clear hK K' gd;refine Wp.keep [1,2,4,6,11] ?_;rintro r12 ⟨O,S,V,aa,L,-⟩;simp [go_sem,m,o,p,s] at O S V aa L;clear m o p s;refine cTt ?_;refine sRg fun K' gd hK => ?_;refine cu3 fun K1 hK1 => ?_;go_simp;apply hK1;clear hK1 K1;refine Wops.absS (b := n4) (i := 0) [_,_,_] (somes [cellVal a,cellVal d,cellVal f] (by simp) (by intro j v hj;match j,hj with | 0,hj => (simp at hj;subst hj;exact a) | 1,hj => (simp at hj;subst hj;exact d) | 2,hj => (simp at hj;subst hj;exact f))) fun P7 hP7 => ?_;replace xw := Put.to xw hP7 (by omega);clear a;clear d;clear f;have a := hP7.new 0 _ rfl;try simp only [Nat.reduceAdd,Nat.zero_add,Nat.add_zero] at a
  have d := hP7.new 1 _ rfl;try simp only [Nat.reduceAdd,Nat.zero_add,Nat.add_zero] at d
  have f := hP7.new 2 _ rfl;try simp only [Nat.reduceAdd,Nat.zero_add,Nat.add_zero] at f
  clear hP7;go_simp;apply hK;clear hK K' gd;refine Wp.keep [4,5] ?_;rintro r13 ⟨ag,aj,-⟩;simp [go_sem,O,S,V,aa,L] at ag aj;clear O S V aa L;refine Wp.ret ?_;refine tRe ?_;refine endK_cell_tmp (v := .agg #[cellVal a,cellVal d,cellVal f]) Tryz.results136 (by decide) (by decide) ag (by dsimp only [cellVal];go_simp) ?_;rw [aj]
  dsimp only [cellVal]
  exact ⟨⟨_,_,_,_,_,_,_,by rw [if_neg h0],fun q => by rw [if_neg h0] at q;exact absurd q h0⟩,xw⟩
end Go.Proofs.YtnklbepeoicgpaaGreat
namespace Go.Proofs.YtnklbepeoicgpaaGreat
def dN (t : Tr) (other : List Int) : Int → List Nat := fun i => t.N i ++ ((secT t other).N i).map (60 + ·)
theorem dN_mem {t : Tr} {other : List Int} {i : Int} {d : Nat} : d ∈ dN t other i ↔ d ∈ t.N i ∨ ∃ e,e ∈ (secT t other).N i ∧ d = 60 + e := by
 unfold dN;rw [List.mem_append,List.mem_map];exact ⟨fun h => h.imp id fun ⟨e,h1,h2⟩ => ⟨e,h1,h2.symm⟩,fun h => h.imp id fun ⟨e,h1,h2⟩ => ⟨e,h1,h2.symm⟩⟩
end Go.Proofs.YtnklbepeoicgpaaGreat
namespace Go.Proofs.YtnklbepeoicgpaaGreat
open Go.RowKit Go.Wk Go.Proofs
attribute [local irreducible] Go.Wk.Wops Go.Wk.Wp Go.Wk.Mtree Go.Wk.Mops
set_option maxHeartbeats 8000000
set_option maxRecDepth 20000
structure TriedB (W : World) (tb : Nat) (t : Nat → Bool) : Prop where
 r : RowT W tb 120 t
section
variable {W V : World} {tb m : Nat} {t : Nat → Bool}
theorem TriedB.ext (a : TriedB W tb t) (hE : Ext W V) : TriedB V tb t := ⟨a.r.ext hE⟩
theorem TriedB.chg {L : List Nat} (a : TriedB W tb t) (hC : Chg L W V) (hL : tb ∉ L) : TriedB V tb t := ⟨a.r.chg hC hL⟩
theorem TriedB.put {k i : Nat} {vs : List Value} (a : TriedB W tb t) (p : Put W V k i vs) (hb2 : tb ≠ k) : TriedB V tb t := ⟨a.r.put p hb2⟩
theorem TriedB.adm (a : TriedB W tb t) (hA : Adm m W V) : TriedB V tb t := ⟨a.r.adm (by omega) hA⟩
theorem TriedB.shut (a : TriedB W tb t) (hS : Shut m W V) : TriedB V tb t :=
 ⟨⟨fun d hd => hS.cell (a.r.c d hd),fun j => by
   rw [← a.r.fz j];exact World.frozen?_of_block (show V.heap[tb]? = W.heap[tb]? from hS.same (a.r.c 0 (by omega))),by rw [hS.size];exact a.r.lt⟩⟩
end
structure HasB (W : World) (g0 g1 n : Nat) (h : Nat → Int) : Prop where
 a : HasF W g0 n h
 b : HasF W g1 n fun d => h (60 + d)
section
variable {W V : World} {g0 g1 n m : Nat} {h : Nat → Int}
theorem HasB.ext (a : HasB W g0 g1 n h) (hE : Ext W V) : HasB V g0 g1 n h := ⟨a.a.ext hE,a.b.ext hE⟩
theorem HasB.chg {L : List Nat} (a : HasB W g0 g1 n h) (hC : Chg L W V) (hL : g0 ∉ L ∧ g1 ∉ L) : HasB V g0 g1 n h := ⟨a.a.chg hC hL.1,a.b.chg hC hL.2⟩
theorem HasB.put {k i : Nat} {vs : List Value} (a : HasB W g0 g1 n h) (p : Put W V k i vs) (hb2 : g0 ≠ k ∧ g1 ≠ k) : HasB V g0 g1 n h := ⟨a.a.put p hb2.1,a.b.put p hb2.2⟩
theorem HasB.adm (a : HasB W g0 g1 n h) (hA : Adm m W V) : HasB V g0 g1 n h := ⟨a.a.adm hA,a.b.adm hA⟩
theorem HasB.shut (a : HasB W g0 g1 n h) (hS : Shut m W V) : HasB V g0 g1 n h := ⟨a.a.shut hS,a.b.shut hS⟩
theorem HasB.set0 {x : Nat} {i : Int} (a : HasB W g0 g1 n h) (p : Put W V g0 x [.int .i64 i]) (hx : x < 60) (hg : g0 ≠ g1) : HasB V g0 g1 n (updI h x i) :=
 ⟨⟨a.a.r.store p,a.a.p⟩,⟨(a.b.r.put p (Ne.symm hg)).congr fun d _ => (if_neg (by omega)).symm,a.b.p⟩⟩
theorem HasB.set1 {x : Nat} {i : Int} (a : HasB W g0 g1 n h) (p : Put W V g1 x [.int .i64 i]) (hn : n ≤ 60) (hg : g0 ≠ g1) : HasB V g0 g1 n (updI h (60 + x) i) :=
 ⟨⟨(a.a.r.put p hg).congr fun d _ => (if_neg (by omega)).symm,a.a.p⟩,⟨(a.b.r.store p).congr fun d _ => by
   unfold updF updI
   by_cases e : d = x
   ·rw [if_pos e,if_pos (by omega)]
   ·rw [if_neg e,if_neg (by omega)],a.b.p⟩⟩
end
structure PairD (W : World) (S pp pb tb gx g0 g1 n : Nat) (A : Option Addr) (c : Nat) (A2 : Option Addr) (c2 : Nat) (A1 : Option Addr) (c1 : Nat) (t : Tr) (other : List Int) : Prop where
 p : W.cell? ⟨pp,0,none⟩ = some (.pointer (some ⟨pb,0,none⟩))
 k0 : W.cell? ⟨pb,0,none⟩ = some (.int .i64 t.n)
 k1 : W.cell? ⟨pb,1,none⟩ = some (.slice A t.cl.length c)
 k2 : W.cell? ⟨pb,2,none⟩ = some (.slice A2 t.fl.length c2)
 k3 : W.cell? ⟨pb,3,none⟩ = some (.int .i64 t.n)
 k4 : W.cell? ⟨pb,4,none⟩ = some (.slice A1 other.length c1)
 k5 : W.cell? ⟨pb,5,none⟩ = some (.slice A2 t.fl.length c2)
 k6 : W.cell? ⟨pb,6,none⟩ = some (.slice (some ⟨g0,0,none⟩) n n)
 k7 : W.cell? ⟨pb,7,none⟩ = some (.slice (some ⟨g1,0,none⟩) n n)
 fg : W.cell? ⟨gx,0,none⟩ = some (.func (.func 186) #[] #[.pointer (some ⟨pp,0,none⟩),.pointer (some ⟨tb,0,none⟩),.pointer (some ⟨gx,0,none⟩)])
 tour : TourS W S (.agg #[.int .i64 t.n,.slice A t.cl.length c,.slice A2 t.fl.length c2]) t
 oth : TourS W S (.agg #[.int .i64 t.n,.slice A1 other.length c1,.slice A2 t.fl.length c2]) (secT t other)
 s : S ≤ g0 ∧ S ≤ g1 ∧ S ≤ tb ∧ S ≤ W.heap.size
 ne : (pp ≠ g0 ∧ pp ≠ g1 ∧ pp ≠ tb) ∧ (pb ≠ g0 ∧ pb ≠ g1 ∧ pb ≠ tb) ∧ (gx ≠ g0 ∧ gx ≠ g1 ∧ gx ≠ tb) ∧ g0 ≠ g1 ∧ g0 ≠ tb ∧ g1 ≠ tb
section
variable {W V : World} {S pp pb tb gx g0 g1 n : Nat} {A : Option Addr} {c : Nat} {A2 : Option Addr} {c2 : Nat} {A1 : Option Addr} {c1 : Nat} {t : Tr} {other : List Int}
theorem PairD.chg {L : List Nat} (h : PairD W S pp pb tb gx g0 g1 n A c A2 c2 A1 c1 t other) (hC : Chg L W V) (hL : ∀ b,b ≠ g0 ∧ b ≠ g1 ∧ b ≠ tb → b ∉ L) : PairD V S pp pb tb gx g0 g1 n A c A2 c2 A1 c1 t other := by
 obtain ⟨n1,n2,n3,-⟩ := h.ne;have e1 := hL pp n1;have e2 := hL pb n2;have e3 := hL gx n3;have hs : ∀ b ∈ L,S ≤ b := fun b hm => by obtain ⟨s1,s2,s3,-⟩ := h.s;refine Classical.byContradiction fun hs => hL b ⟨by omega,by omega,by omega⟩ hm
 exact ⟨Chg.cell hC h.p e1,Chg.cell hC h.k0 e2,Chg.cell hC h.k1 e2,Chg.cell hC h.k2 e2,Chg.cell hC h.k3 e2,Chg.cell hC h.k4 e2,Chg.cell hC h.k5 e2,Chg.cell hC h.k6 e2,Chg.cell hC h.k7 e2,Chg.cell hC h.fg e3,
  h.tour.chg hC hs,h.oth.chg hC hs,⟨h.s.1,h.s.2.1,h.s.2.2.1,Nat.le_trans h.s.2.2.2 hC.size⟩,h.ne⟩
theorem PairD.ext (h : PairD W S pp pb tb gx g0 g1 n A c A2 c2 A1 c1 t other) (hE : Ext W V) : PairD V S pp pb tb gx g0 g1 n A c A2 c2 A1 c1 t other := h.chg ((Chg.refl [] W).ext hE) (fun _ _ => by simp)
theorem PairD.put {k i : Nat} {vs : List Value} (h : PairD W S pp pb tb gx g0 g1 n A c A2 c2 A1 c1 t other) (p : Put W V k i vs) (hk : pp ≠ k ∧ pb ≠ k ∧ gx ≠ k ∧ S ≤ k) : PairD V S pp pb tb gx g0 g1 n A c A2 c2 A1 c1 t other := by
 have hC := p.chg;have e1 : pp ∉ [k] := by simpa using hk.1
 have e2 : pb ∉ [k] := by simpa using hk.2.1
 have e3 : gx ∉ [k] := by simpa using hk.2.2.1
 have hs : ∀ b ∈ [k],S ≤ b := by simpa using hk.2.2.2
 exact ⟨Chg.cell hC h.p e1,Chg.cell hC h.k0 e2,Chg.cell hC h.k1 e2,Chg.cell hC h.k2 e2,Chg.cell hC h.k3 e2,Chg.cell hC h.k4 e2,Chg.cell hC h.k5 e2,Chg.cell hC h.k6 e2,Chg.cell hC h.k7 e2,Chg.cell hC h.fg e3,
  h.tour.chg hC hs,h.oth.chg hC hs,⟨h.s.1,h.s.2.1,h.s.2.2.1,Nat.le_trans h.s.2.2.2 hC.size⟩,h.ne⟩
theorem PairD.adm {m : Nat} (h : PairD W S pp pb tb gx g0 g1 n A c A2 c2 A1 c1 t other) (hA : Adm m W V) : PairD V S pp pb tb gx g0 g1 n A c A2 c2 A1 c1 t other :=
 ⟨hA.cell h.p,hA.cell h.k0,hA.cell h.k1,hA.cell h.k2,hA.cell h.k3,hA.cell h.k4,hA.cell h.k5,hA.cell h.k6,hA.cell h.k7,hA.cell h.fg,h.tour.adm hA,h.oth.adm hA,⟨h.s.1,h.s.2.1,h.s.2.2.1,Nat.le_trans h.s.2.2.2 hA.size⟩,h.ne⟩
end
@[go_sem] theorem index2_0 (a b c d e f : Value) (w : World) : (Instr.index 172 (.agg #[a,b,c,d,e,f]) (.int .i64 0)).run Tryz.prog w = .ok (.agg #[a,b,c]) w := by simp [Instr.index,run_underlying Tryz.underlying172,asIntOf,go_sem]
@[go_sem] theorem index2_1 (a b c d e f : Value) (w : World) : (Instr.index 172 (.agg #[a,b,c,d,e,f]) (.int .i64 1)).run Tryz.prog w = .ok (.agg #[d,e,f]) w := by simp [Instr.index,run_underlying Tryz.underlying172,asIntOf,go_sem]
theorem give2_enters : ∀ args w,(callFunc 186 args).run Tryz.prog w = .ok (.enter 186 args) w := enters_of Tryz.func186 (by kernel_rfl) rfl
def leftB (L0 L1 : List Nat) (k : Nat) : List Nat := if k = 0 then L0 ++ L1.map (60 + ·) else if k = 1 then L1.map (60 + ·) else []
theorem give2_c (t : Tr) (other : List Int) (S pp pb tb qg g0 g1 n : Nat) (A : Option Addr) (c : Nat) (A2 : Option Addr) (c2 : Nat) (A1 : Option Addr) (c1 : Nat) (hn : n ≤ 60) (hcl : t.cl.length ≤ 1000000000000000) (hol : other.length ≤ 1000000000000000) (hfl : t.fl.length ≤ 1000) (hfd : ∀ k (h : k < t.fl.length),0 ≤ t.fl[k].lo ∧ t.fl[k].hi < n) :
  ∀ (f i : Nat) (h : Nat → Int) (tr : Nat → Bool) (w : World),untr 120 tr < f → i < t.fl.length → (∀ d,h d < t.fl.length) → PairD w S pp pb tb qg g0 g1 n A c A2 c2 A1 c1 t other → HasB w g0 g1 n h → TriedB w tb tr →
  CallsV Tryz.prog 186 #[.int .i64 (i : Int),.pointer (some ⟨pp,0,none⟩),.pointer (some ⟨tb,0,none⟩),.pointer (some ⟨qg,0,none⟩)] w fun v w' =>
   v = .bool (giveF (dN t other) f i h tr).1 ∧ HasB w' g0 g1 n (giveF (dN t other) f i h tr).2.1 ∧ TriedB w' tb (giveF (dN t other) f i h tr).2.2 ∧ Chg [g0,g1,tb] w w'
 | 0,_,_,_,_,h0,_,_,_,_,_ => absurd h0 (Nat.not_lt_zero _)
 | f + 1,i,h,tr,w,hun,hi,hhl,hD,hR,hT => by
   have IH := give2_c t other S pp pb tb qg g0 g1 n A c A2 c2 A1 c1 hn hcl hol hfl hfd f;have heg := give2_enters;obtain ⟨⟨m1,m2,m3⟩,⟨m4,m5,m6⟩,⟨m7,m8,m9⟩,m10,m11,m12⟩ := hD.ne;obtain ⟨sa,sb,sc,sd⟩ := hD.s;have lb1 := hR.a.r.lt;have lb2 := hR.b.r.lt;have lb3 := hT.r.lt;have hn0 := hR.a.p;have lbp : pp < w.heap.size := cell_lt hD.p;have lbk : pb < w.heap.size := cell_lt hD.k0;have lbg : qg < w.heap.size := cell_lt hD.fg;obtain ⟨b4,o4,rfl,hb4,x0,x1,x2,x3⟩ := FlawsV.at (show FlawsV w S (.slice A2 t.fl.length c2) t.fl by obtain ⟨cv,fv,e,h1,h2⟩ := hD.tour.v;injection e with e;simp only [Array.mk.injEq,List.cons.injEq,and_true] at e;obtain ⟨-,rfl,rfl⟩ := e;exact h2) hi;obtain ⟨F,hF⟩ : ∃ F,∃ _u : Unit,t.fl[i] = F := ⟨_,(),rfl⟩;obtain ⟨hlo,hhi⟩ := hfd i hi;rw [hF.choose_spec] at x1 x2 hlo hhi;obtain ⟨lo,hlo2⟩ : ∃ lo : Nat,∃ _u : Unit,F.lo = (lo : Int) := ⟨F.lo.toNat,(),by omega⟩;rw [hlo2.choose_spec] at x1;clear hlo x0 x3;obtain ⟨hi2,hhi2⟩ : ∃ hi2,∃ _u : Unit,F.hi = hi2 := ⟨_,(),rfl⟩;rw [hhi2.choose_spec] at x2 hhi;obtain ⟨L0,hL0⟩ : ∃ L,∃ _u : Unit,openN t.cl (lo : Int) hi2 = L ∧ t.N (i : Int) = L := ⟨_,(),rfl,by unfold Tr.N;rw [Int.toNat_natCast,List.getElem?_eq_getElem hi,hF.choose_spec];dsimp only;rw [hlo2.choose_spec,hhi2.choose_spec]⟩;obtain ⟨L1,hL1⟩ : ∃ L,∃ _u : Unit,openN other (lo : Int) hi2 = L ∧ (secT t other).N (i : Int) = L := ⟨_,(),rfl,by unfold Tr.N secT;rw [Int.toNat_natCast,List.getElem?_eq_getElem hi,hF.choose_spec];dsimp only;rw [hlo2.choose_spec,hhi2.choose_spec]⟩
   obtain ⟨R,hRR⟩ : ∃ R,∃ _u : Unit,giveF (dN t other) (f + 1) i h tr = R ∧ loopF (giveF (dN t other) f) i (leftB L0 L1 0) h tr = R := ⟨_,(),rfl,by rw [← hL0.choose_spec.2,← hL1.choose_spec.2];rfl⟩;rw [hRR.choose_spec.1];have hLd0 : ∃ _u : Unit,∀ d ∈ L0,d < n := ⟨(),fun d hd => by rw [← hL0.choose_spec.1,openN_mem (by omega)] at hd;omega⟩;have hLd1 : ∃ _u : Unit,∀ d ∈ L1,d < n := ⟨(),fun d hd => by rw [← hL1.choose_spec.1,openN_mem (by omega)] at hd;omega⟩;have y0 := hD.p;have u0 := hD.k0;have u1 := hD.k1;have u2 := hD.k2;have u3 := hD.k3;have u4 := hD.k4;have u5 := hD.k5;have hii : (i : Int) < (t.fl.length : Int) := by omega
   replace hhl : ∃ _u : Unit,_ := ⟨(),hhl⟩;refine Wp.fnM Tryz.func186 rfl Tryz.ntmps186 (by simp) ?_;have xw := Ext.refl w;refine Wp.keep [0,1,2,3] ?_;rintro r1 ⟨a0,be,bx,bL,-⟩;simp [go_sem] at a0 be bx bL;have xg := Chg.refl [g0,g1,tb] w;refine sRg fun K' gd hK => ?_;refine cu1 fun K1 hK1 => ?_;go_simp;apply hK1;clear hK1 K1;refine Wops.absA fun dM n4 D => ?_;obtain ⟨q4,D,s4,cS,f4,r4⟩ := D;try simp only [q4] at cS f4 r4 ⊢
   replace hD := hD.ext D;replace hR := hR.ext D;replace hT := hT.ext D;replace xw := xw.trans D;replace xg := Chg.ext xg D;replace y0 := D.cell y0;replace u0 := D.cell u0;replace u1 := D.cell u1;replace u2 := D.cell u2;replace u3 := D.cell u3;replace u4 := D.cell u4;replace u5 := D.cell u5;replace x1 := D.cell x1;replace x2 := D.cell x2;have o := cS 0 _ rfl;clear cS D;clear r4;refine cu1 fun K1 hK1 => ?_;go_simp;apply hK1;clear hK1 K1;refine Wops.absA fun aZ n5 C => ?_;obtain ⟨q5,C,s5,cT,f5,r5⟩ := C;try simp only [q5] at cT f5 r5 ⊢
   replace hD := hD.ext C;replace hR := hR.ext C;replace hT := hT.ext C;replace xw := xw.trans C;replace xg := Chg.ext xg C;replace y0 := C.cell y0;replace u0 := C.cell u0;replace u1 := C.cell u1;replace u2 := C.cell u2;replace u3 := C.cell u3;replace u4 := C.cell u4;replace u5 := C.cell u5;replace x1 := C.cell x1;replace x2 := C.cell x2;replace o := C.cell o;have g := cT 0 _ rfl;clear cT C;clear r5;try simp only [Wops_nil,updO_some,updO_none]
   apply hK;clear hK K' gd;refine Wp.keep [1,2,3,4,5] ?_;rintro r2 ⟨bi,bA,bN,bZ,ck,-⟩;simp [go_sem,a0,be,bx,bL] at bi bA bN bZ ck;clear a0 be bx bL;refine Wp.seq ?_;obtain ⟨M0,hM0,hM1⟩ : ∃ M0,n5 < M0 ∧ M0 ≤ aZ.heap.size := ⟨aZ.heap.size,by omega,Nat.le_refl _⟩;refine sRg fun K' gd hK => ?_;go_simp;apply hK;clear hK K' gd;refine Wp.keep [1,2,3,4,5,12,13] ?_;rintro r3 ⟨aH,aM,aP,aS,aV,aC,cZ,-⟩;simp [go_sem,bi,bA,bN,bZ,ck] at aH aM aP aS aV aC cZ;clear bi bA bN bZ ck;refine Wp.block ?_;refine Wp.loop (fun b ρ ds wb => AllEq [1,2,3,4,5,12] ρ r3 ∧ MarksF (M0) ds wb ∧ (Chg [g0,g1,tb] aZ wb) ∧ (∃ (K : Int) (h1 : Nat → Int) (t1 : Nat → Bool),ρ 13 = .int .i64 K ∧ HasB wb g0 g1 n h1 ∧ TriedB wb tb t1 ∧ (∃ _u : Unit,K = (b : Int) ∧ loopF (giveF (dN t other) f) i (leftB L0 L1 b) h1 t1 = R ∧ untr 120 t1 ≤ f ∧ ∀ d,h1 d < t.fl.length))) (2) ?_ ?_
   ·refine ⟨AllEq.refl _ _,MarksF.nil,Chg.refl _ _,?_⟩;exact ⟨0,h,tr,by rw [cZ],hR.ext (XE),hT.ext (XE),(),rfl,hRR.choose_spec.2,by omega,hhl.choose_spec⟩
   ·rintro b r4 dsb wb hb ⟨hA,hMk,xl4,⟨K,h1,t1,e13,hR1,hT1,hq⟩⟩;obtain ⟨Q,T,Y,ab,ae,J,-⟩ := hA;rw [aH] at Q;rw [aM] at T;rw [aP] at Y;rw [aS] at ab;rw [aV] at ae;rw [aC] at J;have zxl4 := Chg.size xl4;replace f5 := Chg.fz xl4 g f5 XN;replace hD := hD.chg xl4 XB;clear xw;replace xg := Chg.more xg xl4 (by intro b hm;simp only [List.mem_cons,List.not_mem_nil,or_false] at hm;first | (left;omega) | (right;simp [hm];done) | (rcases hm with hm | hm <;> first | (left;omega) | (right;simp [hm])));replace y0 := Chg.cell xl4 y0 XN;replace x1 := Chg.cell xl4 x1 XN;replace x2 := Chg.cell xl4 x2 XN;replace o := Chg.cell xl4 o XN;replace g := Chg.cell xl4 g XN
    by_cases hb0 : b = 0
    ·skip;obtain rfl : K = 0 := by have := hq.choose_spec.1;omega
     have hq9 : ∃ _u : Unit,loopF (giveF (dN t other) f) i (leftB L0 L1 0) h1 t1 = R ∧ untr 120 t1 ≤ f ∧ ∀ d,h1 d < t.fl.length := ⟨(),by have q := hq.choose_spec.2;rw [hb0] at q;exact q⟩;clear hq;refine sRg fun K' gd hK => ?_;go_simp;apply hK;clear hK K' gd;refine Wp.keep [1,2,3,4,5,12,13,14] ?_;rintro r5 ⟨bq,bG,bT,b8,cw,a4,a9,bd,-⟩;simp [go_sem,Q,T,Y,ab,ae,J,e13] at bq bG bT b8 cw a4 a9 bd;clear Q T Y ab ae J e13;refine Wp.seq ?_;refine cTt ?_;refine skN ?_;refine sBk ?_;refine sRg fun K' gd hK => ?_;refine cu3 fun K1 hK1 => ?_;go_simp;apply hK1;clear hK1 K1;refine Wops.absA fun dP n6 I => ?_;obtain ⟨q6,I,s6,cV,f6,r6⟩ := I;try simp only [q6] at cV f6 r6 ⊢
     replace f5 := I.fz g f5;replace hD := hD.ext I;replace hMk := hMk.ext I;replace hR1 := hR1.ext I;replace hT1 := hT1.ext I;replace xg := Chg.ext xg I;replace xl4 := Chg.ext xl4 I;replace y0 := I.cell y0;replace x1 := I.cell x1;replace x2 := I.cell x2;replace o := I.cell o;replace g := I.cell g;have m := cV 0 _ rfl;clear cV I;clear r6;refine cu1 fun K1 hK1 => ?_;go_simp;apply hK1;clear hK1 K1;refine Wops.absA fun dR n7 G => ?_;obtain ⟨q7,G,s7,aA,f7,r7⟩ := G;try simp only [q7] at aA f7 r7 ⊢
     replace f5 := G.fz g f5;replace f6 := G.fz m f6;replace hD := hD.ext G;replace hMk := hMk.ext G;replace hR1 := hR1.ext G;replace hT1 := hT1.ext G;replace xg := Chg.ext xg G;replace xl4 := Chg.ext xl4 G;replace y0 := G.cell y0;replace x1 := G.cell x1;replace x2 := G.cell x2;replace o := G.cell o;replace g := G.cell g;replace m := G.cell m;have u := aA 0 _ rfl;have z := aA 1 _ rfl;have B := aA 2 _ rfl;clear aA G;clear r7;refine cu1 fun K1 hK1 => ?_;go_simp;apply hK1;clear hK1 K1;refine Wops.absS (b := n6) (i := 0) [_] (somes [cellVal m] (by simp) (by intro j v hj;match j,hj with | 0,hj => (simp at hj;subst hj;exact m))) fun P7 hP7 => ?_;have zP7 := hP7.same;replace f5 := hP7.frz f5;replace f7 := hP7.frz f7;replace hD := hD.put hP7 (by omega);replace hMk := hMk.put hP7 (by omega);replace hR1 := hR1.put hP7 (by omega);replace hT1 := hT1.put hP7 (by omega);replace xg := Put.more xg hP7 (.inl (by omega));replace xl4 := Put.more xl4 hP7 (.inl (by omega));replace y0 := hP7.cell y0 (by omega);replace x1 := hP7.cell x1 (by omega);replace x2 := hP7.cell x2 (by omega);replace o := hP7.cell o (by omega);replace g := hP7.cell g (by omega);clear m;replace u := hP7.cell u (by omega)
     replace z := hP7.cell z (by omega);replace B := hP7.cell B (by omega);have m := hP7.new 0 _ rfl;try simp only [Nat.reduceAdd,Nat.zero_add,Nat.add_zero] at m
     clear hP7;refine cu1 fun K1 hK1 => ?_;go_simp;apply hK1;clear hK1 K1;refine Wops.absS (b := n7) (i := 0) [_,_,_] (somes [cellVal u,cellVal z,cellVal B] (by simp) (by intro j v hj;match j,hj with | 0,hj => (simp at hj;subst hj;exact u) | 1,hj => (simp at hj;subst hj;exact z) | 2,hj => (simp at hj;subst hj;exact B))) fun P8 hP8 => ?_;have zP8 := hP8.same;replace f5 := hP8.frz f5;replace hD := hD.put hP8 (by omega);replace hMk := hMk.put hP8 (by omega);replace hR1 := hR1.put hP8 (by omega);replace hT1 := hT1.put hP8 (by omega);replace xg := Put.more xg hP8 (.inl (by omega));replace xl4 := Put.more xl4 hP8 (.inl (by omega));replace y0 := hP8.cell y0 (by omega);replace x1 := hP8.cell x1 (by omega);replace x2 := hP8.cell x2 (by omega);replace o := hP8.cell o (by omega);replace g := hP8.cell g (by omega);clear u;clear z;clear B;replace m := hP8.cell m (by omega);have u := hP8.new 0 _ rfl;try simp only [Nat.reduceAdd,Nat.zero_add,Nat.add_zero] at u
     have z := hP8.new 1 _ rfl;try simp only [Nat.reduceAdd,Nat.zero_add,Nat.add_zero] at z
     have B := hP8.new 2 _ rfl;try simp only [Nat.reduceAdd,Nat.zero_add,Nat.add_zero] at B
     clear hP8;try simp only [Wops_nil,updO_some,updO_none]
     apply hK;clear hK K' gd;refine Wp.keep [1,2,3,4,5,6,7,12,13] ?_;rintro r6 ⟨br,bH,bU,b9,cx,cI,cL,a5,ba,-⟩;simp [go_sem,bq,bG,bT,b8,cw,a4,a9,bd] at br bH bU b9 cx cI cL a5 ba;clear bq bG bT b8 cw a4 a9 bd;refine Wp.seqDraw (.inl rfl) mixed [([0,1,2,3,4],none),([5,6],some (7,false))] (by kernel_rfl) fun K' gd hK hg => ?_;clear hg;simp only [pick,nth,List.map_cons,List.map_nil,Option.map_none,Option.map_some];refine Mops.absD fun D9 hD9 zD9 => ?_;replace f5 := hD9.fz g f5;replace hD := hD.ext hD9;replace hMk := hMk.ext hD9;replace hR1 := hR1.ext hD9;replace hT1 := hT1.ext hD9;replace xg := Chg.ext xg hD9;replace xl4 := Chg.ext xl4 hD9;replace y0 := hD9.cell y0;replace x1 := hD9.cell x1;replace x2 := hD9.cell x2;replace o := hD9.cell o;replace g := hD9.cell g;replace m := hD9.cell m;replace u := hD9.cell u;replace z := hD9.cell z;replace B := hD9.cell B;clear hD9;refine mNo ?_
     refine mAc ?_
     intro K1 hK1;go_simp;refine Wcall (.inl rfl) (open_c (.slice A t.cl.length c) (.slice (some ⟨b4,o4,none⟩) t.fl.length c2) t.n (lo : Int) hi2 _) ?_;rintro v w2 ⟨bs,bt,rfl,hE,z0,z1,zt,hz1,hz2⟩;go_simp;refine hK1 _ _ (by assumption) ?_;clear hK1 K1;have z7 := Below.size hE;replace f5 := hE.fz g f5;replace hD := hD.ext hE;replace hMk := hMk.ext hE;replace hR1 := hR1.ext hE;replace hT1 := hT1.ext hE;replace xg := Chg.ext xg hE;replace xl4 := Chg.ext xl4 hE;replace y0 := hE.cell y0;replace o := hE.cell o;replace g := hE.cell g;replace m := hE.cell m;clear hE;refine Mops.done ?_;apply hK;clear hK K' gd;refine Wp.keep [1,2,3,4,5,6,12,13,24] ?_;rintro r8 ⟨aI,aN,aQ,aT,aW,aY,aD,aF,aK,-⟩;simp [go_sem,br,bH,bU,b9,cx,cI,cL,a5,ba] at aI aN aQ aT aW aY aD aF aK;clear br bH bU b9 cx cI cL a5 ba;have hOD : OpenD w2 bs bt S lo hi2 (.slice A t.cl.length c) t.cl := ⟨z0,z1,zt,⟨by obtain ⟨cv,fv,e,h1,h2⟩ := hD.tour.v;injection e with e;simp only [Array.mk.injEq,List.cons.injEq,and_true] at e;obtain ⟨-,rfl,-⟩ := e;exact h1⟩,hD.s.2.2.2⟩;clear z0 z1 zt;have xr5 := Chg.refl [n5,g0,g1,tb] w2;refine Wp.block ?_;have hMk_0 := hMk;refine Wp.range (open_it bs bt S lo hi2 A c t.cl hcl (by omega)) (by go_simp) (enters_of Tryz.func173 (by kernel_rfl) rfl) (fun _ => rfl) (fun k W => (Chg [g0,g1,tb] w2 W) ∧ (∃ (h2 : Nat → Int) (t2 : Nat → Bool),HasB W g0 g1 n h2 ∧ TriedB W tb t2 ∧ (∃ _u : Unit,loopF (giveF (dN t other) f) i (L0.drop k ++ L1.map (60 + ·)) h2 t2 = R ∧ untr 120 t2 ≤ f ∧ ∀ d,h2 d < t.fl.length))) (fun c W => c = .ret ∧ Chg [n5,g0,g1,tb] w2 W ∧ W.cell? ⟨n5,0,none⟩ = some (.bool true) ∧ HasB W g0 g1 n R.2.1 ∧ TriedB W tb R.2.2 ∧ (∃ _u : Unit,R.1 = true)) ?_ ?_ ?_ ?_ ?_ ?_ ?_
     ·rintro k W ⟨xr,⟨h2,t2,hR2,hT2,hq⟩⟩;exact hOD.chg xr (by simp;omega) (by simp;omega) (by simp;omega)
     ·rintro k W W' hA ⟨xr,⟨h2,t2,hR2,hT2,hq⟩⟩;refine ⟨Adm.chg hA xr (Nat.le_refl _),?_⟩;exact ⟨h2,t2,hR2.adm hA,hT2.adm hA,hq⟩
     ·skip;exact fun c V V' hA ⟨e1,e2,e3,e4,e5,e6⟩ => ⟨e1,Adm.chg hA e2 (Nat.le_refl _),hA.cell e3,e4.adm hA,e5.adm hA,e6⟩
     ·refine ⟨Chg.refl _ _,?_⟩;exact ⟨h1,t1,hR1,hT1,(),by rw [List.drop_zero];exact hq9.choose_spec.1,hq9.choose_spec.2⟩
     ·rintro l k x W hx ⟨xr,⟨h2,t2,hR2,hT2,hq⟩⟩ hl;have hD_b := hD;replace f5 := Chg.fz xr g f5 XN;replace xg := Chg.more xg xr (by intro b hm;simp only [List.mem_cons,List.not_mem_nil,or_false] at hm;first | (left;omega) | (right;simp [hm];done) | (rcases hm with hm | hm <;> first | (left;omega) | (right;simp [hm])));replace xl4 := Chg.more xl4 xr (by intro b hm;simp only [List.mem_cons,List.not_mem_nil,or_false] at hm;first | (left;omega) | (right;simp [hm];done) | (rcases hm with hm | hm <;> first | (left;omega) | (right;simp [hm])));replace xr5 := Chg.more xr5 xr (by intro b hm;simp only [List.mem_cons,List.not_mem_nil,or_false] at hm;first | (left;omega) | (right;simp [hm];done) | (rcases hm with hm | hm <;> first | (left;omega) | (right;simp [hm])));replace y0 := Chg.cell xr y0 XN;replace o := Chg.cell xr o XN;replace g := Chg.cell xr g XN;replace m := Chg.cell xr m XN;have xb := Ext.refl W;simp only [encD,List.zip_toArray,List.zip_cons_cons,List.zip_nil_left,putL_cons,putL_nil];refine Wp.keep [1,2,3,4,5,6,25] ?_;rintro r9 ⟨bu,bI,bV,ca,cy,cJ,bw,-⟩;simp [go_sem,aI,aN,aQ,aT,aW,aY,aD,aF,aK] at bu bI bV ca cy cJ bw;refine Wp.loneRegion (.inr ⟨_,rfl⟩) (by kernel_rfl) fun K' gd hK hg => ?_;clear hg;go_simp;apply hK;clear hK K' gd;refine Ends.keep [1,2,3,4,5,6,8] ?_;rintro r10 ⟨aj,al,an,ap,ar,av,ax,-⟩
      simp [go_sem,bu,bI,bV,ca,cy,cJ,bw] at aj al an ap ar av ax;clear bu bI bV ca cy cJ bw;refine Ends.mk ?_;refine tNo ?_;refine ⟨KeepsOthers.of_ext xb,fun W2 hA2 hl2 => ?_⟩;replace f5 := Adm.fz hA2 g f5;replace xg := Adm.chg hA2 xg (by omega);replace xl4 := Adm.chg hA2 xl4 (by omega);replace xr5 := Adm.chg hA2 xr5 (by omega);replace xr := Adm.chg hA2 xr (by omega);clear xb;replace hD := hD_b.chg xr XB;replace hR2 := hR2.adm hA2;replace hT2 := hT2.adm hA2;replace y0 := Adm.cell hA2 y0;replace o := Adm.cell hA2 o;replace g := Adm.cell hA2 g;replace m := Adm.cell hA2 m;obtain ⟨lr,hl2⟩ := hl2;have xk := Chg.refl [g0,g1,tb] W2;rw [hL0.choose_spec.1] at hx;have hkL : k < L0.length := (List.getElem?_eq_some_iff.1 hx).1;have hxL : L0[k] = x := (List.getElem?_eq_some_iff.1 hx).2;have hdn : x < n := hLd0.choose_spec x (by rw [← hxL];exact List.getElem_mem hkL);have hq0 : ∃ _u : Unit,loopF (giveF (dN t other) f) i (x :: (L0.drop (k + 1) ++ L1.map (60 + ·))) h2 t2 = R := ⟨(),by have := hq.choose_spec.1;rwa [drop_cons hkL,hxL] at this⟩;have hq1 : ∃ _u : Unit,untr 120 t2 ≤ f ∧ ∀ d,h2 d < t.fl.length := ⟨(),hq.choose_spec.2⟩;clear hq hkL hxL;have kb_g0 := IsC.of (hR2.a.r.c 0 hn0);have kb_g1 := IsC.of (hR2.b.r.c 0 hn0);have kb_tb := IsC.of (hT2.r.c 0 (by omega));have z1 := hT2.r.c x (by omega);have hx60 : (x : Int) < 60 := by omega
      have hxn : (x : Int) < (n : Int) := by omega
      by_cases ht : t2 x = true
      ·skip;rw [ht] at z1;refine Wp.block ?_;refine Wp.seq ?_;refine Wp.seqRegion (.inr ⟨_,rfl⟩) (by kernel_rfl) fun K' gd hK hg => ?_;clear hg;go_simp;apply hK;clear hK K' gd;refine Wp.keep [1,2,3,4,5,6,8,30] ?_;rintro r11 ⟨de,di,dm,dp,dw,dE,dI,dk,-⟩;simp [go_sem,aj,al,an,ap,ar,av,ax] at de di dm dp dw dE dI dk;clear aj al an ap ar av ax;refine cTt ?_;refine Wp.exit ?_;refine tEx ?_;refine blockK_here ?_;refine ⟨KeepsOthers.of_chg xk (mem3 kb_g0 kb_g1 kb_tb),xr,?_⟩;exact ⟨h2,t2,hR2,hT2,(),by rw [← hq0.choose_spec,loopF,if_pos ht],hq1.choose_spec⟩
      ·skip;have ht9 : t2 x = false := by simpa using ht
       rw [ht9] at z1;refine Wp.block ?_;refine Wp.seq ?_;refine Wp.seqRegion (.inr ⟨_,rfl⟩) (by kernel_rfl) fun K' gd hK hg => ?_;clear hg;go_simp;apply hK;clear hK K' gd;refine Wp.keep [1,2,3,4,5,6,8,30] ?_;rintro r12 ⟨bf,bz,bM,bW,cf,cA,cM,bJ,-⟩;simp [go_sem,aj,al,an,ap,ar,av,ax] at bf bz bM bW cf cA cM bJ;clear aj al an ap ar av ax;refine cFf ?_;have ft := hT2.r.fz;have z2 := hR2.a.r.c x hdn;refine skN ?_;refine Wp.seqRegion (.inr ⟨_,rfl⟩) (by kernel_rfl) fun K' gd hK hg => ?_;clear hg;refine cu5 fun K1 hK1 => ?_;go_simp;apply hK1;clear hK1 K1;refine Wops.absS (b := tb) (i := x) [_] (hT2.r.some (by omega)) fun P1 hP1 => ?_;replace f5 := hP1.frz f5;replace hD := hD.put hP1 (by omega);replace hR2 := hR2.put hP1 (by omega);replace xg := Put.more xg hP1 (.inr (by simp));replace xl4 := Put.more xl4 hP1 (.inr (by simp));replace xr5 := Put.more xr5 hP1 (.inr (by simp));replace xr := Put.more xr hP1 (.inr (by simp));replace xk := Put.more xk hP1 (.inr (by simp));replace y0 := hP1.cell y0 (by omega);replace o := hP1.cell o (by omega);replace g := hP1.cell g (by omega);replace m := hP1.cell m (by omega);replace z2 := hP1.cell z2 (by omega)
       try simp only [Wops_nil,updO_some,updO_none]
       apply hK;clear hK K' gd;refine Wp.keep [1,3,4,5,6,8] ?_;rintro r13 ⟨M,U,Z,ac,af,ah,-⟩;simp [go_sem,bf,bz,bM,bW,cf,cA,cM,bJ] at M U Z ac af ah;clear bf bz bM bW cf cA cM bJ;have hT3 : TriedB P1 tb (markT t2 x) := ⟨hT2.r.mark hP1⟩;have y5 := hD.k6;have y6 := hD.fg
       by_cases hneg : h2 x < 0
       ·skip;refine Wp.seqDraw (.inr ⟨_,rfl⟩) mixed [([0,1,2,3,4],none),([5,6,7,8,9],none),([10],none),([11,12,13,14,15],none),([16,17,18,19,20],some (21,false)),([22],none)] (by kernel_rfl) fun K' gd hK hg => ?_;have g10 : gd 10 = some 45 := hg 10;clear hg;simp only [pick,nth,List.map_cons,List.map_nil,Option.map_none,Option.map_some];refine Mops.absD fun D15 hD15 zD15 => ?_;replace f5 := hD15.fz g f5;replace hR2 := hR2.ext hD15;replace hT3 := hT3.ext hD15;replace xg := Chg.ext xg hD15;replace xl4 := Chg.ext xl4 hD15;replace xr5 := Chg.ext xr5 hD15;replace xr := Chg.ext xr hD15;replace xk := Chg.ext xk hD15;replace y0 := hD15.cell y0;replace o := hD15.cell o;replace g := hD15.cell g;replace m := hD15.cell m;replace z2 := hD15.cell z2;replace y5 := hD15.cell y5;clear hD15;refine mNo ?_
        refine mNo ?_
        apply Mops.none
        ·intro w' hE';go_simp;with_reducible rfl
        apply Mops.none
        ·intro w' hE';go_simp;with_reducible rfl
        apply Mops.act
        ·intro w' hE';go_simp;with_reducible rfl
        intro K1 hK1;go_simp;refine hK1 _ _ (Ext.refl _) ?_;clear hK1 K1;apply Mops.none
        ·intro w' hE';go_simp;with_reducible rfl
        refine Mops.done ?_;apply hK;clear hK K' gd g10;refine Wp.keep [1,4,5,6,8,57] ?_;rintro r14 ⟨bg,bX,cg,cB,cN,cb,-⟩;simp [go_sem,M,U,Z,ac,af,ah] at bg bX cg cB cN cb;clear M U Z ac af ah;refine cTt ?_;have fh := hR2.a.r.fz;refine Wp.seqDraw (.inr ⟨_,rfl⟩) mixed [([0,1,2,3,4],none),([5,6,7,8],some (9,true))] (by kernel_rfl) fun K' gd hK hg => ?_;clear hg;simp only [pick,nth,List.map_cons,List.map_nil,Option.map_none,Option.map_some];refine Mops.absD fun D16 hD16 zD16 => ?_;replace f5 := hD16.fz g f5;replace fh := hD16.fz z2 fh;replace hR2 := hR2.ext hD16;replace hT3 := hT3.ext hD16;replace xg := Chg.ext xg hD16;replace xl4 := Chg.ext xl4 hD16;replace xr5 := Chg.ext xr5 hD16;replace xr := Chg.ext xr hD16;replace xk := Chg.ext xk hD16;replace y0 := hD16.cell y0;replace o := hD16.cell o;replace g := hD16.cell g;replace m := hD16.cell m;replace z2 := hD16.cell z2;replace y5 := hD16.cell y5;clear hD16;refine mNo ?_
        refine mLa ?_
        intro K1 hK1;go_simp;apply hK1;clear hK1 K1;refine Mops.absS (b := g0) (i := x) [_] (hR2.a.r.some hdn) fun P2 hP2 => ?_;replace f5 := hP2.frz f5;replace hT3 := hT3.put hP2 (by omega);replace xg := Put.more xg hP2 (.inr (by simp));replace xl4 := Put.more xl4 hP2 (.inr (by simp));replace xr5 := Put.more xr5 hP2 (.inr (by simp));replace xr := Put.more xr hP2 (.inr (by simp));replace xk := Put.more xk hP2 (.inr (by simp));replace g := hP2.cell g (by omega);refine Mops.done ?_;apply hK;clear hK K' gd;refine Wp.keep [5] ?_;rintro r15 ⟨ch,-⟩;simp [go_sem,bg,bX,cg,cB,cN,cb] at ch;clear bg bX cg cB cN cb;have hR3 : HasB P2 g0 g1 n (updI h2 x i) := hR2.set0 hP2 (by omega) m10;have hRe : ∃ _u : Unit,R = (true,updI h2 x i,markT t2 x) := ⟨(),by rw [← hq0.choose_spec,loopF,if_neg ht,if_pos hneg]⟩;have hKp : KeepR W2 P2 := ⟨KeepsOthers.of_chg xk (mem3 kb_g0 kb_g1 kb_tb)⟩;refine Wp.seqRegion (.inr ⟨_,rfl⟩) (by kernel_rfl) fun K' gd hK hg => ?_;clear hg;refine cu1 fun K1 hK1 => ?_;go_simp;apply hK1;clear hK1 K1;refine Wops.absS (b := n5) (i := 0) [_] (somes [cellVal g] (by simp) (by intro j v hj;match j,hj with | 0,hj => (simp at hj;subst hj;exact g))) fun P18 hP18 => ?_;replace hT3 := hT3.put hP18 (by omega);replace hR3 := hR3.put hP18 (by omega)
        replace hKp := hKp.put hP18 (by omega);replace xg := Put.more xg hP18 (.inl (by omega));clear xl4;replace xr5 := Put.more xr5 hP18 (.inr (by simp));clear xr;clear xk;clear g;have g := hP18.new 0 _ rfl;try simp only [Nat.reduceAdd,Nat.zero_add,Nat.add_zero] at g
        clear hP18;try simp only [Wops_nil,updO_some,updO_none]
        apply hK;clear hK K' gd;refine Wp.keep [5] ?_;rintro r16 ⟨dx,-⟩;simp [go_sem,ch] at dx;clear ch;refine Wp.ret ?_;refine bRe ?_;exact ⟨hKp.k,rfl,xr5,g,by rw [hRe.choose_spec];exact hR3,by rw [hRe.choose_spec];exact hT3,(),by rw [hRe.choose_spec]⟩
       ·skip;obtain ⟨j,hj⟩ : ∃ j : Nat,∃ _u : Unit,h2 x = (j : Int) ∧ j < t.fl.length := ⟨(h2 x).toNat,(),by omega,by have := hq1.choose_spec.2 x;omega⟩;rw [hj.choose_spec.1] at z2;have hjn : ¬ (j : Int) < 0 := by omega
        have hu2 : ∃ _u : Unit,untr 120 (markT t2 x) < f := ⟨(),by have := untr_mark (n := 120) (d := x) (by omega) ht9;have := hq1.choose_spec.1;omega⟩;obtain ⟨r1,hr1⟩ : ∃ r1,∃ _u : Unit,giveF (dN t other) f (j : Int) h2 (markT t2 x) = r1 := ⟨_,(),rfl⟩;have hstep : ∃ _u : Unit,(if r1.1 = true then (true,updI r1.2.1 x i,r1.2.2) else loopF (giveF (dN t other) f) i (L0.drop (k + 1) ++ L1.map (60 + ·)) r1.2.1 r1.2.2) = R := ⟨(),by rw [← hq0.choose_spec,loopF,if_neg ht,if_neg hneg];dsimp only;rw [hj.choose_spec.1,hr1.choose_spec]⟩
        by_cases hb1 : r1.1 = true
        ·skip;refine Wp.seqDraw (.inr ⟨_,rfl⟩) mixed [([0,1,2,3,4],none),([5,6,7,8,9],none),([10],none),([11,12,13,14,15],none),([16,17,18,19,20],some (21,true)),([],some (22,true))] (by kernel_rfl) fun K' gd hK hg => ?_;have g10 : gd 10 = some 45 := hg 10;clear hg;simp only [pick,nth,List.map_cons,List.map_nil,Option.map_none,Option.map_some];refine Mops.absD fun D19 hD19 zD19 => ?_;replace f5 := hD19.fz g f5;replace hD := hD.ext hD19;replace hR2 := hR2.ext hD19;replace hT3 := hT3.ext hD19;replace xg := Chg.ext xg hD19;replace xl4 := Chg.ext xl4 hD19;replace xr5 := Chg.ext xr5 hD19;replace xr := Chg.ext xr hD19;replace xk := Chg.ext xk hD19;replace y0 := hD19.cell y0;replace o := hD19.cell o;replace g := hD19.cell g;replace m := hD19.cell m;replace z2 := hD19.cell z2;replace y5 := hD19.cell y5;replace y6 := hD19.cell y6;clear hD19;refine mNo ?_
         refine mNo ?_
         apply Mops.none
         ·intro w' hE';go_simp;with_reducible rfl
         refine mNo ?_
         refine mLa ?_
         intro K1 hK1;go_simp;refine Wcall (.inr ⟨_,rfl⟩) (IH j h2 (markT t2 x) _ hu2.choose_spec hj.choose_spec.2 hq1.choose_spec.2 hD hR2 hT3) ?_;rintro v w5 ⟨hv,hR4,hT4,hC⟩;rw [hr1.choose_spec] at hv hR4 hT4;rw [hb1] at hv;subst hv;go_simp;apply hK1;clear hK1 K1;replace f5 := Chg.fz hC g f5 XN;replace xg := Chg.more xg hC (by intro b hm;simp only [List.mem_cons,List.not_mem_nil,or_false] at hm;first | (left;omega) | (right;simp [hm];done) | (rcases hm with hm | hm <;> first | (left;omega) | (right;simp [hm])));replace xl4 := Chg.more xl4 hC (by intro b hm;simp only [List.mem_cons,List.not_mem_nil,or_false] at hm;first | (left;omega) | (right;simp [hm];done) | (rcases hm with hm | hm <;> first | (left;omega) | (right;simp [hm])));replace xr5 := Chg.more xr5 hC (by intro b hm;simp only [List.mem_cons,List.not_mem_nil,or_false] at hm;first | (left;omega) | (right;simp [hm];done) | (rcases hm with hm | hm <;> first | (left;omega) | (right;simp [hm])));replace xr := Chg.more xr hC (by intro b hm;simp only [List.mem_cons,List.not_mem_nil,or_false] at hm;first | (left;omega) | (right;simp [hm];done) | (rcases hm with hm | hm <;> first | (left;omega) | (right;simp [hm])));replace xk := Chg.more xk hC (by intro b hm;simp only [List.mem_cons,List.not_mem_nil,or_false] at hm;first | (left;omega) | (right;simp [hm];done) | (rcases hm with hm | hm <;> first | (left;omega) | (right;simp [hm])));replace y0 := Chg.cell hC y0 XN
         replace o := Chg.cell hC o XN;replace g := Chg.cell hC g XN;replace m := Chg.cell hC m XN;replace y5 := Chg.cell hC y5 XN;apply Mops.last
         ·exact fun _ _ => Rops_done
         intro K1 hK1;go_simp;apply hK1;clear hK1 K1;refine Mops.done ?_;apply hK;clear hK K' gd g10;refine Wp.keep [1,4,5,6,8,57] ?_;rintro r18 ⟨bh,bY,ci,cC,cO,cc,-⟩;simp [go_sem,M,U,Z,ac,af,ah] at bh bY ci cC cO cc;clear M U Z ac af ah;refine cTt ?_;have z3 := hR4.a.r.c x hdn;have fh := hR4.a.r.fz;refine Wp.seqDraw (.inr ⟨_,rfl⟩) mixed [([0,1,2,3,4],none),([5,6,7,8],some (9,true))] (by kernel_rfl) fun K' gd hK hg => ?_;clear hg;simp only [pick,nth,List.map_cons,List.map_nil,Option.map_none,Option.map_some];refine Mops.absD fun D20 hD20 zD20 => ?_;replace f5 := hD20.fz g f5;replace fh := hD20.fz z3 fh;replace hR4 := hR4.ext hD20;replace hT4 := hT4.ext hD20;replace xg := Chg.ext xg hD20;replace xl4 := Chg.ext xl4 hD20;replace xr5 := Chg.ext xr5 hD20;replace xr := Chg.ext xr hD20;replace xk := Chg.ext xk hD20;replace y0 := hD20.cell y0;replace o := hD20.cell o;replace g := hD20.cell g;replace m := hD20.cell m;replace y5 := hD20.cell y5;replace z3 := hD20.cell z3;clear hD20;refine mNo ?_
         refine mLa ?_
         intro K1 hK1;go_simp;apply hK1;clear hK1 K1;refine Mops.absS (b := g0) (i := x) [_] (hR4.a.r.some hdn) fun P2 hP2 => ?_;replace f5 := hP2.frz f5;replace hT4 := hT4.put hP2 (by omega);replace xg := Put.more xg hP2 (.inr (by simp));replace xl4 := Put.more xl4 hP2 (.inr (by simp));replace xr5 := Put.more xr5 hP2 (.inr (by simp));replace xr := Put.more xr hP2 (.inr (by simp));replace xk := Put.more xk hP2 (.inr (by simp));replace g := hP2.cell g (by omega);refine Mops.done ?_;apply hK;clear hK K' gd;refine Wp.keep [5] ?_;rintro r19 ⟨cj,-⟩;simp [go_sem,bh,bY,ci,cC,cO,cc] at cj;clear bh bY ci cC cO cc;have hR5 : HasB P2 g0 g1 n (updI r1.2.1 x i) := hR4.set0 hP2 (by omega) m10;have hRe : ∃ _u : Unit,R = (true,updI r1.2.1 x i,r1.2.2) := ⟨(),by rw [← hstep.choose_spec,if_pos hb1]⟩;have hKp : KeepR W2 P2 := ⟨KeepsOthers.of_chg xk (mem3 kb_g0 kb_g1 kb_tb)⟩;refine Wp.seqRegion (.inr ⟨_,rfl⟩) (by kernel_rfl) fun K' gd hK hg => ?_;clear hg;refine cu1 fun K1 hK1 => ?_;go_simp;apply hK1;clear hK1 K1;refine Wops.absS (b := n5) (i := 0) [_] (somes [cellVal g] (by simp) (by intro j v hj;match j,hj with | 0,hj => (simp at hj;subst hj;exact g))) fun P22 hP22 => ?_;replace hT4 := hT4.put hP22 (by omega);replace hR5 := hR5.put hP22 (by omega)
         replace hKp := hKp.put hP22 (by omega);replace xg := Put.more xg hP22 (.inl (by omega));clear xl4;replace xr5 := Put.more xr5 hP22 (.inr (by simp));clear xr;clear xk;clear g;have g := hP22.new 0 _ rfl;try simp only [Nat.reduceAdd,Nat.zero_add,Nat.add_zero] at g
         clear hP22;try simp only [Wops_nil,updO_some,updO_none]
         apply hK;clear hK K' gd;refine Wp.keep [5] ?_;rintro r20 ⟨dy,-⟩;simp [go_sem,cj] at dy;clear cj;refine Wp.ret ?_;refine bRe ?_;exact ⟨hKp.k,rfl,xr5,g,by rw [hRe.choose_spec];exact hR5,by rw [hRe.choose_spec];exact hT4,(),by rw [hRe.choose_spec]⟩
        ·skip;refine Wp.seqDraw (.inr ⟨_,rfl⟩) mixed [([0,1,2,3,4],none),([5,6,7,8,9],none),([10],none),([11,12,13,14,15],none),([16,17,18,19,20],some (21,true)),([],some (22,true))] (by kernel_rfl) fun K' gd hK hg => ?_;have g10 : gd 10 = some 45 := hg 10;clear hg;simp only [pick,nth,List.map_cons,List.map_nil,Option.map_none,Option.map_some];refine Mops.absD fun D23 hD23 zD23 => ?_;replace hD := hD.ext hD23;replace hR2 := hR2.ext hD23;replace hT3 := hT3.ext hD23;replace xg := Chg.ext xg hD23;replace xl4 := Chg.ext xl4 hD23;replace xr5 := Chg.ext xr5 hD23;replace xr := Chg.ext xr hD23;replace xk := Chg.ext xk hD23;replace y0 := hD23.cell y0;replace m := hD23.cell m;replace z2 := hD23.cell z2;replace y5 := hD23.cell y5;replace y6 := hD23.cell y6;clear hD23;refine mNo ?_
         refine mNo ?_
         apply Mops.none
         ·intro w' hE';go_simp;with_reducible rfl
         refine mNo ?_
         refine mLa ?_
         intro K1 hK1;go_simp;refine Wcall (.inr ⟨_,rfl⟩) (IH j h2 (markT t2 x) _ hu2.choose_spec hj.choose_spec.2 hq1.choose_spec.2 hD hR2 hT3) ?_;rintro v w5 ⟨hv,hR4,hT4,hC⟩;rw [hr1.choose_spec] at hv hR4 hT4;rw [show r1.1 = false by simpa using hb1] at hv;subst hv;go_simp;apply hK1;clear hK1 K1;replace xg := Chg.more xg hC (by intro b hm;simp only [List.mem_cons,List.not_mem_nil,or_false] at hm;first | (left;omega) | (right;simp [hm];done) | (rcases hm with hm | hm <;> first | (left;omega) | (right;simp [hm])));replace xl4 := Chg.more xl4 hC (by intro b hm;simp only [List.mem_cons,List.not_mem_nil,or_false] at hm;first | (left;omega) | (right;simp [hm];done) | (rcases hm with hm | hm <;> first | (left;omega) | (right;simp [hm])));replace xr5 := Chg.more xr5 hC (by intro b hm;simp only [List.mem_cons,List.not_mem_nil,or_false] at hm;first | (left;omega) | (right;simp [hm];done) | (rcases hm with hm | hm <;> first | (left;omega) | (right;simp [hm])));replace xr := Chg.more xr hC (by intro b hm;simp only [List.mem_cons,List.not_mem_nil,or_false] at hm;first | (left;omega) | (right;simp [hm];done) | (rcases hm with hm | hm <;> first | (left;omega) | (right;simp [hm])));replace xk := Chg.more xk hC (by intro b hm;simp only [List.mem_cons,List.not_mem_nil,or_false] at hm;first | (left;omega) | (right;simp [hm];done) | (rcases hm with hm | hm <;> first | (left;omega) | (right;simp [hm])));apply Mops.last
         ·exact fun _ _ => Rops_done
         intro K1 hK1;go_simp;apply hK1;clear hK1 K1;refine Mops.done ?_;apply hK;clear hK K' gd g10;refine Wp.keep [1,4,5,6,8,57] ?_;rintro r22 ⟨df,dq,dz,dF,dJ,du,-⟩;simp [go_sem,M,U,Z,ac,af,ah] at df dq dz dF dJ du;clear M U Z ac af ah;refine cFf ?_;refine Wp.skip ?_;refine bNo ?_;refine ⟨KeepsOthers.of_chg xk (mem3 kb_g0 kb_g1 kb_tb),xr,?_⟩;exact ⟨r1.2.1,r1.2.2,hR4,hT4,(),by rw [← hstep.choose_spec,if_neg hb1],by have g1 := hu2.choose_spec;have g2 := untr_le (n := 120) (t := markT t2 x) (t2 := r1.2.2) (fun d hd => by rw [← hr1.choose_spec];exact giveF_mono f j h2 _ d hd);omega,by rw [← hr1.choose_spec];exact giveF_vals (P := fun y => y < (t.fl.length : Int)) f j h2 _ (by have := hj.choose_spec.2;omega) hq1.choose_spec.2⟩
     ·rintro rm W hrm ⟨xr,⟨h2,t2,hR2,hT2,hq⟩⟩ hmk;replace hMk := hMk.chg xr XB;replace xg := Chg.more xg xr (by intro b hm;simp only [List.mem_cons,List.not_mem_nil,or_false] at hm;first | (left;omega) | (right;simp [hm];done) | (rcases hm with hm | hm <;> first | (left;omega) | (right;simp [hm])));replace xl4 := Chg.more xl4 xr (by intro b hm;simp only [List.mem_cons,List.not_mem_nil,or_false] at hm;first | (left;omega) | (right;simp [hm];done) | (rcases hm with hm | hm <;> first | (left;omega) | (right;simp [hm])));replace xr5 := Chg.more xr5 xr (by intro b hm;simp only [List.mem_cons,List.not_mem_nil,or_false] at hm;first | (left;omega) | (right;simp [hm];done) | (rcases hm with hm | hm <;> first | (left;omega) | (right;simp [hm])));replace hMk := MarksF.cons hMk_0 hMk hrm hmk (by omega);refine bNo ?_;refine bNo ?_;refine tNo ?_;refine lRg fun K' gd hK => ?_;go_simp;apply hK;clear hK K' gd;refine Ends.keep [1,2,3,4,5,12,13] ?_;rintro r23 ⟨c3,c5,c7,c9,db,cW,cY,-⟩;simp [go_sem,aI,aN,aQ,aT,aW,aY,aD,aF,aK] at c3 c5 c7 c9 db cW cY;clear aI aN aQ aT aW aY aD aF aK;refine Ends.mk ?_;refine thenK_normal ⟨by omega,⟨by rw [c3,aH],by rw [c5,aM],by rw [c7,aP],by rw [c9,aS],by rw [db,aV],by rw [cW,aC],trivial⟩,hMk,xl4,?_⟩
      exact ⟨1,h2,t2,by rw [cY];rfl,hR2,hT2,(),by rw [hb0];rfl,by rw [hb0];have q := hq.choose_spec.1;rw [hL0.choose_spec.1,List.drop_length] at q;exact q,hq.choose_spec.2⟩
     ·rintro rm c W hrm ⟨rfl,hCs,h6,hr6,ht6,hq6⟩ hmk;refine Wp.ret ?_
      repeat (first | with_reducible refine bRe ?_ | with_reducible refine tRe ?_)
      refine endM_cell Tryz.results186 (by decide) ((MarksF.cons hMk_0 (hMk_0.chg hCs (by simp;omega)) hrm hmk (by omega)).to (by omega)) (a := ⟨n5,0,none⟩) (by assumption) fun wz hS => ?_;have cz := hS.cell h6;exact ⟨.bool true,by go_simp,by rw [hq6.choose_spec],hr6.shut hS,ht6.shut hS,(Chg.more xg hCs (by intro b hm;simp only [List.mem_cons,List.not_mem_nil,or_false] at hm;rcases hm with hm | hm | hm | hm <;> first | (left;omega) | (right;simp [hm]))).shut hS⟩
    ·skip
     by_cases hb1 : b = 1
     ·skip;obtain rfl : K = 1 := by have := hq.choose_spec.1;omega
      have hq9 : ∃ _u : Unit,loopF (giveF (dN t other) f) i (leftB L0 L1 1) h1 t1 = R ∧ untr 120 t1 ≤ f ∧ ∀ d,h1 d < t.fl.length := ⟨(),by have q := hq.choose_spec.2;rw [hb1] at q;exact q⟩;clear hq;refine sRg fun K' gd hK => ?_;go_simp;apply hK;clear hK K' gd;refine Wp.keep [1,2,3,4,5,12,13,14] ?_;rintro r24 ⟨bj,bB,bO,b0,cm,a1,a6,bb,-⟩;simp [go_sem,Q,T,Y,ab,ae,J,e13] at bj bB bO b0 cm a1 a6 bb;clear Q T Y ab ae J e13;refine Wp.seq ?_;refine cTt ?_;refine skN ?_;refine sBk ?_;refine sRg fun K' gd hK => ?_;refine cu3 fun K1 hK1 => ?_;go_simp;apply hK1;clear hK1 K1;refine Wops.absA fun dO n6 H => ?_;obtain ⟨q6,H,s6,cU,f6,r6⟩ := H;try simp only [q6] at cU f6 r6 ⊢
      replace f5 := H.fz g f5;replace hD := hD.ext H;replace hMk := hMk.ext H;replace hR1 := hR1.ext H;replace hT1 := hT1.ext H;replace xg := Chg.ext xg H;replace xl4 := Chg.ext xl4 H;replace y0 := H.cell y0;replace x1 := H.cell x1;replace x2 := H.cell x2;replace o := H.cell o;replace g := H.cell g;have m := cU 0 _ rfl;clear cU H;clear r6;refine cu1 fun K1 hK1 => ?_;go_simp;apply hK1;clear hK1 K1;refine Wops.absA fun dQ n7 E => ?_;obtain ⟨q7,E,s7,az,f7,r7⟩ := E;try simp only [q7] at az f7 r7 ⊢
      replace f5 := E.fz g f5;replace f6 := E.fz m f6;replace hD := hD.ext E;replace hMk := hMk.ext E;replace hR1 := hR1.ext E;replace hT1 := hT1.ext E;replace xg := Chg.ext xg E;replace xl4 := Chg.ext xl4 E;replace y0 := E.cell y0;replace x1 := E.cell x1;replace x2 := E.cell x2;replace o := E.cell o;replace g := E.cell g;replace m := E.cell m;have u := az 0 _ rfl;have z := az 1 _ rfl;have B := az 2 _ rfl;clear az E;clear r7;refine cu1 fun K1 hK1 => ?_;go_simp;apply hK1;clear hK1 K1;refine Wops.absS (b := n6) (i := 0) [_] (somes [cellVal m] (by simp) (by intro j v hj;match j,hj with | 0,hj => (simp at hj;subst hj;exact m))) fun P26 hP26 => ?_;have zP26 := hP26.same;replace f5 := hP26.frz f5;replace f7 := hP26.frz f7;replace hD := hD.put hP26 (by omega);replace hMk := hMk.put hP26 (by omega);replace hR1 := hR1.put hP26 (by omega);replace hT1 := hT1.put hP26 (by omega);replace xg := Put.more xg hP26 (.inl (by omega));replace xl4 := Put.more xl4 hP26 (.inl (by omega));replace y0 := hP26.cell y0 (by omega);replace x1 := hP26.cell x1 (by omega);replace x2 := hP26.cell x2 (by omega);replace o := hP26.cell o (by omega);replace g := hP26.cell g (by omega)
      clear m;replace u := hP26.cell u (by omega);replace z := hP26.cell z (by omega);replace B := hP26.cell B (by omega);have m := hP26.new 0 _ rfl;try simp only [Nat.reduceAdd,Nat.zero_add,Nat.add_zero] at m
      clear hP26;refine cu1 fun K1 hK1 => ?_;go_simp;apply hK1;clear hK1 K1;refine Wops.absS (b := n7) (i := 0) [_,_,_] (somes [cellVal u,cellVal z,cellVal B] (by simp) (by intro j v hj;match j,hj with | 0,hj => (simp at hj;subst hj;exact u) | 1,hj => (simp at hj;subst hj;exact z) | 2,hj => (simp at hj;subst hj;exact B))) fun P27 hP27 => ?_;have zP27 := hP27.same;replace f5 := hP27.frz f5;replace hD := hD.put hP27 (by omega);replace hMk := hMk.put hP27 (by omega);replace hR1 := hR1.put hP27 (by omega);replace hT1 := hT1.put hP27 (by omega);replace xg := Put.more xg hP27 (.inl (by omega));replace xl4 := Put.more xl4 hP27 (.inl (by omega));replace y0 := hP27.cell y0 (by omega);replace x1 := hP27.cell x1 (by omega);replace x2 := hP27.cell x2 (by omega);replace o := hP27.cell o (by omega);replace g := hP27.cell g (by omega);clear u;clear z;clear B;replace m := hP27.cell m (by omega);have u := hP27.new 0 _ rfl;try simp only [Nat.reduceAdd,Nat.zero_add,Nat.add_zero] at u
      have z := hP27.new 1 _ rfl;try simp only [Nat.reduceAdd,Nat.zero_add,Nat.add_zero] at z
      have B := hP27.new 2 _ rfl;try simp only [Nat.reduceAdd,Nat.zero_add,Nat.add_zero] at B
      clear hP27;try simp only [Wops_nil,updO_some,updO_none]
      apply hK;clear hK K' gd;refine Wp.keep [1,2,3,4,5,6,7,12,13] ?_;rintro r25 ⟨bk,bC,bP,b1,cn,cD,cK,a2,a7,-⟩;simp [go_sem,bj,bB,bO,b0,cm,a1,a6,bb] at bk bC bP b1 cn cD cK a2 a7;clear bj bB bO b0 cm a1 a6 bb;refine Wp.seqDraw (.inl rfl) mixed [([0,1,2,3,4],none),([5,6],some (7,false))] (by kernel_rfl) fun K' gd hK hg => ?_;clear hg;simp only [pick,nth,List.map_cons,List.map_nil,Option.map_none,Option.map_some];refine Mops.absD fun D28 hD28 zD28 => ?_;replace f5 := hD28.fz g f5;replace hD := hD.ext hD28;replace hMk := hMk.ext hD28;replace hR1 := hR1.ext hD28;replace hT1 := hT1.ext hD28;replace xg := Chg.ext xg hD28;replace xl4 := Chg.ext xl4 hD28;replace y0 := hD28.cell y0;replace x1 := hD28.cell x1;replace x2 := hD28.cell x2;replace o := hD28.cell o;replace g := hD28.cell g;replace m := hD28.cell m;replace u := hD28.cell u;replace z := hD28.cell z;replace B := hD28.cell B;clear hD28;refine mNo ?_
      refine mAc ?_
      intro K1 hK1;go_simp;refine Wcall (.inl rfl) (open_c (.slice A1 other.length c1) (.slice (some ⟨b4,o4,none⟩) t.fl.length c2) t.n (lo : Int) hi2 _) ?_;rintro v w2 ⟨bs,bt,rfl,hE,z0,z1,zt,hz1,hz2⟩;go_simp;refine hK1 _ _ (by assumption) ?_;clear hK1 K1;have z26 := Below.size hE;replace f5 := hE.fz g f5;replace hD := hD.ext hE;replace hMk := hMk.ext hE;replace hR1 := hR1.ext hE;replace hT1 := hT1.ext hE;replace xg := Chg.ext xg hE;replace xl4 := Chg.ext xl4 hE;replace y0 := hE.cell y0;replace o := hE.cell o;replace g := hE.cell g;replace m := hE.cell m;clear hE;refine Mops.done ?_;apply hK;clear hK K' gd;refine Wp.keep [1,2,3,4,5,6,12,13,24] ?_;rintro r27 ⟨aG,aL,aO,aR,aU,aX,aB,aE,aJ,-⟩;simp [go_sem,bk,bC,bP,b1,cn,cD,cK,a2,a7] at aG aL aO aR aU aX aB aE aJ;clear bk bC bP b1 cn cD cK a2 a7;have hOD : OpenD w2 bs bt S lo hi2 (.slice A1 other.length c1) other := ⟨z0,z1,zt,⟨by obtain ⟨cv,fv,e,h1,h2⟩ := hD.oth.v;injection e with e;simp only [Array.mk.injEq,List.cons.injEq,and_true] at e;obtain ⟨-,rfl,-⟩ := e;exact h1⟩,hD.s.2.2.2⟩;clear z0 z1 zt;have xr5 := Chg.refl [n5,g0,g1,tb] w2;refine Wp.block ?_;have hMk_0 := hMk;refine Wp.range (open_it bs bt S lo hi2 A1 c1 other hol (by omega)) (by go_simp) (enters_of Tryz.func173 (by kernel_rfl) rfl) (fun _ => rfl) (fun k W => (Chg [g0,g1,tb] w2 W) ∧ (∃ (h2 : Nat → Int) (t2 : Nat → Bool),HasB W g0 g1 n h2 ∧ TriedB W tb t2 ∧ (∃ _u : Unit,loopF (giveF (dN t other) f) i ((L1.drop k).map (60 + ·)) h2 t2 = R ∧ untr 120 t2 ≤ f ∧ ∀ d,h2 d < t.fl.length))) (fun c W => c = .ret ∧ Chg [n5,g0,g1,tb] w2 W ∧ W.cell? ⟨n5,0,none⟩ = some (.bool true) ∧ HasB W g0 g1 n R.2.1 ∧ TriedB W tb R.2.2 ∧ (∃ _u : Unit,R.1 = true)) ?_ ?_ ?_ ?_ ?_ ?_ ?_
      ·rintro k W ⟨xr,⟨h2,t2,hR2,hT2,hq⟩⟩;exact hOD.chg xr (by simp;omega) (by simp;omega) (by simp;omega)
      ·rintro k W W' hA ⟨xr,⟨h2,t2,hR2,hT2,hq⟩⟩;refine ⟨Adm.chg hA xr (Nat.le_refl _),?_⟩;exact ⟨h2,t2,hR2.adm hA,hT2.adm hA,hq⟩
      ·skip;exact fun c V V' hA ⟨e1,e2,e3,e4,e5,e6⟩ => ⟨e1,Adm.chg hA e2 (Nat.le_refl _),hA.cell e3,e4.adm hA,e5.adm hA,e6⟩
      ·refine ⟨Chg.refl _ _,?_⟩;exact ⟨h1,t1,hR1,hT1,(),by rw [List.drop_zero];exact hq9.choose_spec.1,hq9.choose_spec.2⟩
      ·rintro l k x W hx ⟨xr,⟨h2,t2,hR2,hT2,hq⟩⟩ hl;have hD_b := hD;replace f5 := Chg.fz xr g f5 XN;replace xg := Chg.more xg xr (by intro b hm;simp only [List.mem_cons,List.not_mem_nil,or_false] at hm;first | (left;omega) | (right;simp [hm];done) | (rcases hm with hm | hm <;> first | (left;omega) | (right;simp [hm])));replace xl4 := Chg.more xl4 xr (by intro b hm;simp only [List.mem_cons,List.not_mem_nil,or_false] at hm;first | (left;omega) | (right;simp [hm];done) | (rcases hm with hm | hm <;> first | (left;omega) | (right;simp [hm])));replace xr5 := Chg.more xr5 xr (by intro b hm;simp only [List.mem_cons,List.not_mem_nil,or_false] at hm;first | (left;omega) | (right;simp [hm];done) | (rcases hm with hm | hm <;> first | (left;omega) | (right;simp [hm])));replace y0 := Chg.cell xr y0 XN;replace o := Chg.cell xr o XN;replace g := Chg.cell xr g XN;replace m := Chg.cell xr m XN;have xb := Ext.refl W;simp only [encD,List.zip_toArray,List.zip_cons_cons,List.zip_nil_left,putL_cons,putL_nil];refine Wp.keep [1,2,3,4,5,6,25] ?_;rintro r28 ⟨bl,bD,bQ,b2,co,cE,bv,-⟩;simp [go_sem,aG,aL,aO,aR,aU,aX,aB,aE,aJ] at bl bD bQ b2 co cE bv;refine Wp.loneRegion (.inr ⟨_,rfl⟩) (by kernel_rfl) fun K' gd hK hg => ?_;clear hg;go_simp;apply hK;clear hK K' gd;refine Ends.keep [1,2,3,4,5,6,8] fun r29 hkeep => ?_
       obtain ⟨ak,am,ao,aq,au,aw,ay,-⟩ := hkeep;simp [go_sem,bl,bD,bQ,b2,co,cE,bv] at ak am ao aq au aw ay;clear bl bD bQ b2 co cE bv;refine Ends.mk ?_;refine tNo ?_;refine ⟨KeepsOthers.of_ext xb,fun W2 hA2 hl2 => ?_⟩;replace f5 := Adm.fz hA2 g f5;replace xg := Adm.chg hA2 xg (by omega);replace xl4 := Adm.chg hA2 xl4 (by omega);replace xr5 := Adm.chg hA2 xr5 (by omega);replace xr := Adm.chg hA2 xr (by omega);clear xb;replace hD := hD_b.chg xr XB;replace hR2 := hR2.adm hA2;replace hT2 := hT2.adm hA2;replace y0 := Adm.cell hA2 y0;replace o := Adm.cell hA2 o;replace g := Adm.cell hA2 g;replace m := Adm.cell hA2 m;obtain ⟨lr,hl2⟩ := hl2;have xk := Chg.refl [g0,g1,tb] W2;rw [hL1.choose_spec.1] at hx;have hkL : k < L1.length := (List.getElem?_eq_some_iff.1 hx).1;have hxL : L1[k] = x := (List.getElem?_eq_some_iff.1 hx).2;have hdn : x < n := hLd1.choose_spec x (by rw [← hxL];exact List.getElem_mem hkL);have hq0 : ∃ _u : Unit,loopF (giveF (dN t other) f) i ((60 + x) :: ((L1.drop (k + 1)).map (60 + ·))) h2 t2 = R := ⟨(),by have := hq.choose_spec.1;rwa [drop_cons hkL,hxL] at this⟩;have hq1 : ∃ _u : Unit,untr 120 t2 ≤ f ∧ ∀ d,h2 d < t.fl.length := ⟨(),hq.choose_spec.2⟩;clear hq hkL hxL;have kb_g0 := IsC.of (hR2.a.r.c 0 hn0);have kb_g1 := IsC.of (hR2.b.r.c 0 hn0);have kb_tb := IsC.of (hT2.r.c 0 (by omega));have z1 := hT2.r.c (60 + x) (by omega)
       have hx60 : (x : Int) < 60 := by omega
       have hxn : (x : Int) < (n : Int) := by omega
       by_cases ht : t2 (60 + x) = true
       ·skip;rw [ht] at z1;refine Wp.block ?_;refine Wp.seq ?_;refine Wp.seqRegion (.inr ⟨_,rfl⟩) (by kernel_rfl) fun K' gd hK hg => ?_;clear hg;go_simp;apply hK;clear hK K' gd;refine Wp.keep [1,2,3,4,5,6,8,30] ?_;rintro r30 ⟨dg,dj,dn,dr,dA,dG,dK,dl,-⟩;simp [go_sem,ak,am,ao,aq,au,aw,ay] at dg dj dn dr dA dG dK dl;clear ak am ao aq au aw ay;refine cTt ?_;refine Wp.exit ?_;refine tEx ?_;refine blockK_here ?_;refine ⟨KeepsOthers.of_chg xk (mem3 kb_g0 kb_g1 kb_tb),xr,?_⟩;exact ⟨h2,t2,hR2,hT2,(),by rw [← hq0.choose_spec,loopF,if_pos ht],hq1.choose_spec⟩
       ·skip;have ht9 : t2 (60 + x) = false := by simpa using ht
        rw [ht9] at z1;refine Wp.block ?_;refine Wp.seq ?_;refine Wp.seqRegion (.inr ⟨_,rfl⟩) (by kernel_rfl) fun K' gd hK hg => ?_;clear hg;go_simp;apply hK;clear hK K' gd;refine Wp.keep [1,2,3,4,5,6,8,30] ?_;rintro r31 ⟨bm,bE,bR,b3,cp,cF,cP,bK,-⟩;simp [go_sem,ak,am,ao,aq,au,aw,ay] at bm bE bR b3 cp cF cP bK;clear ak am ao aq au aw ay;refine cFf ?_;have ft := hT2.r.fz;have z2 := hR2.b.r.c x hdn;refine skN ?_;refine Wp.seqRegion (.inr ⟨_,rfl⟩) (by kernel_rfl) fun K' gd hK hg => ?_;clear hg;refine cu5 fun K1 hK1 => ?_;go_simp;apply hK1;clear hK1 K1;refine Wops.absS (b := tb) (i := 60 + x) [_] (hT2.r.some (by omega)) fun P1 hP1 => ?_;replace f5 := hP1.frz f5;replace hD := hD.put hP1 (by omega);replace hR2 := hR2.put hP1 (by omega);replace xg := Put.more xg hP1 (.inr (by simp));replace xl4 := Put.more xl4 hP1 (.inr (by simp));replace xr5 := Put.more xr5 hP1 (.inr (by simp));replace xr := Put.more xr hP1 (.inr (by simp));replace xk := Put.more xk hP1 (.inr (by simp));replace y0 := hP1.cell y0 (by omega);replace o := hP1.cell o (by omega);replace g := hP1.cell g (by omega);replace m := hP1.cell m (by omega)
        replace z2 := hP1.cell z2 (by omega);try simp only [Wops_nil,updO_some,updO_none]
        apply hK;clear hK K' gd;refine Wp.keep [1,3,4,5,6,8] ?_;rintro r32 ⟨O,X,aa,ad,ag,ai,-⟩;simp [go_sem,bm,bE,bR,b3,cp,cF,cP,bK] at O X aa ad ag ai;clear bm bE bR b3 cp cF cP bK;have hT3 : TriedB P1 tb (markT t2 (60 + x)) := ⟨hT2.r.mark hP1⟩;have y5 := hD.k7;have y6 := hD.fg
        by_cases hneg : h2 (60 + x) < 0
        ·skip;refine Wp.seqDraw (.inr ⟨_,rfl⟩) mixed [([0,1,2,3,4],none),([5,6,7,8,9],none),([10],none),([11,12,13,14,15],none),([16,17,18,19,20],some (21,false)),([22],none)] (by kernel_rfl) fun K' gd hK hg => ?_;have g10 : gd 10 = some 45 := hg 10;clear hg;simp only [pick,nth,List.map_cons,List.map_nil,Option.map_none,Option.map_some];refine Mops.absD fun D34 hD34 zD34 => ?_;replace f5 := hD34.fz g f5;replace hR2 := hR2.ext hD34;replace hT3 := hT3.ext hD34;replace xg := Chg.ext xg hD34;replace xl4 := Chg.ext xl4 hD34;replace xr5 := Chg.ext xr5 hD34;replace xr := Chg.ext xr hD34;replace xk := Chg.ext xk hD34;replace y0 := hD34.cell y0;replace o := hD34.cell o;replace g := hD34.cell g;replace m := hD34.cell m;replace z2 := hD34.cell z2;replace y5 := hD34.cell y5;clear hD34;refine mNo ?_
         refine mNo ?_
         apply Mops.none
         ·intro w' hE';go_simp;with_reducible rfl
         apply Mops.none
         ·intro w' hE';go_simp;with_reducible rfl
         apply Mops.act
         ·intro w' hE';go_simp;with_reducible rfl
         intro K1 hK1;go_simp;refine hK1 _ _ (Ext.refl _) ?_;clear hK1 K1;apply Mops.none
         ·intro w' hE';go_simp;with_reducible rfl
         refine Mops.done ?_;apply hK;clear hK K' gd g10;refine Wp.keep [1,4,5,6,8,57] ?_;rintro r33 ⟨bn,b5,cq,cG,cQ,cd,-⟩;simp [go_sem,O,X,aa,ad,ag,ai] at bn b5 cq cG cQ cd;clear O X aa ad ag ai;refine cTt ?_;have fh := hR2.b.r.fz;refine Wp.seqDraw (.inr ⟨_,rfl⟩) mixed [([0,1,2,3,4],none),([5,6,7,8],some (9,true))] (by kernel_rfl) fun K' gd hK hg => ?_;clear hg;simp only [pick,nth,List.map_cons,List.map_nil,Option.map_none,Option.map_some];refine Mops.absD fun D35 hD35 zD35 => ?_;replace f5 := hD35.fz g f5;replace fh := hD35.fz z2 fh;replace hR2 := hR2.ext hD35;replace hT3 := hT3.ext hD35;replace xg := Chg.ext xg hD35;replace xl4 := Chg.ext xl4 hD35;replace xr5 := Chg.ext xr5 hD35;replace xr := Chg.ext xr hD35;replace xk := Chg.ext xk hD35;replace y0 := hD35.cell y0;replace o := hD35.cell o;replace g := hD35.cell g;replace m := hD35.cell m;replace z2 := hD35.cell z2;replace y5 := hD35.cell y5;clear hD35;refine mNo ?_
         refine mLa ?_
         intro K1 hK1;go_simp;apply hK1;clear hK1 K1;refine Mops.absS (b := g1) (i := x) [_] (hR2.b.r.some hdn) fun P2 hP2 => ?_;replace f5 := hP2.frz f5;replace hT3 := hT3.put hP2 (by omega);replace xg := Put.more xg hP2 (.inr (by simp));replace xl4 := Put.more xl4 hP2 (.inr (by simp));replace xr5 := Put.more xr5 hP2 (.inr (by simp));replace xr := Put.more xr hP2 (.inr (by simp));replace xk := Put.more xk hP2 (.inr (by simp));replace g := hP2.cell g (by omega);refine Mops.done ?_;apply hK;clear hK K' gd;refine Wp.keep [5] ?_;rintro r34 ⟨cr,-⟩;simp [go_sem,bn,b5,cq,cG,cQ,cd] at cr;clear bn b5 cq cG cQ cd;have hR3 : HasB P2 g0 g1 n (updI h2 (60 + x) i) := hR2.set1 hP2 hn m10;have hRe : ∃ _u : Unit,R = (true,updI h2 (60 + x) i,markT t2 (60 + x)) := ⟨(),by rw [← hq0.choose_spec,loopF,if_neg ht,if_pos hneg]⟩;have hKp : KeepR W2 P2 := ⟨KeepsOthers.of_chg xk (mem3 kb_g0 kb_g1 kb_tb)⟩;refine Wp.seqRegion (.inr ⟨_,rfl⟩) (by kernel_rfl) fun K' gd hK hg => ?_;clear hg;refine cu1 fun K1 hK1 => ?_;go_simp;apply hK1;clear hK1 K1;refine Wops.absS (b := n5) (i := 0) [_] (somes [cellVal g] (by simp) (by intro j v hj;match j,hj with | 0,hj => (simp at hj;subst hj;exact g))) fun P37 hP37 => ?_;replace hT3 := hT3.put hP37 (by omega)
         replace hR3 := hR3.put hP37 (by omega);replace hKp := hKp.put hP37 (by omega);replace xg := Put.more xg hP37 (.inl (by omega));clear xl4;replace xr5 := Put.more xr5 hP37 (.inr (by simp));clear xr;clear xk;clear g;have g := hP37.new 0 _ rfl;try simp only [Nat.reduceAdd,Nat.zero_add,Nat.add_zero] at g
         clear hP37;try simp only [Wops_nil,updO_some,updO_none]
         apply hK;clear hK K' gd;refine Wp.keep [5] ?_;rintro r35 ⟨dB,-⟩;simp [go_sem,cr] at dB;clear cr;refine Wp.ret ?_;refine bRe ?_;exact ⟨hKp.k,rfl,xr5,g,by rw [hRe.choose_spec];exact hR3,by rw [hRe.choose_spec];exact hT3,(),by rw [hRe.choose_spec]⟩
        ·skip;obtain ⟨j,hj⟩ : ∃ j : Nat,∃ _u : Unit,h2 (60 + x) = (j : Int) ∧ j < t.fl.length := ⟨(h2 (60 + x)).toNat,(),by omega,by have := hq1.choose_spec.2 (60 + x);omega⟩;rw [hj.choose_spec.1] at z2;have hjn : ¬ (j : Int) < 0 := by omega
         have hu2 : ∃ _u : Unit,untr 120 (markT t2 (60 + x)) < f := ⟨(),by have := untr_mark (n := 120) (d := (60 + x)) (by omega) ht9;have := hq1.choose_spec.1;omega⟩;obtain ⟨r1,hr1⟩ : ∃ r1,∃ _u : Unit,giveF (dN t other) f (j : Int) h2 (markT t2 (60 + x)) = r1 := ⟨_,(),rfl⟩;have hstep : ∃ _u : Unit,(if r1.1 = true then (true,updI r1.2.1 (60 + x) i,r1.2.2) else loopF (giveF (dN t other) f) i ((L1.drop (k + 1)).map (60 + ·)) r1.2.1 r1.2.2) = R := ⟨(),by rw [← hq0.choose_spec,loopF,if_neg ht,if_neg hneg];dsimp only;rw [hj.choose_spec.1,hr1.choose_spec]⟩
         by_cases hb1 : r1.1 = true
         ·skip;refine Wp.seqDraw (.inr ⟨_,rfl⟩) mixed [([0,1,2,3,4],none),([5,6,7,8,9],none),([10],none),([11,12,13,14,15],none),([16,17,18,19,20],some (21,true)),([],some (22,true))] (by kernel_rfl) fun K' gd hK hg => ?_;have g10 : gd 10 = some 45 := hg 10;clear hg;simp only [pick,nth,List.map_cons,List.map_nil,Option.map_none,Option.map_some];refine Mops.absD fun D38 hD38 zD38 => ?_;replace f5 := hD38.fz g f5;replace hD := hD.ext hD38;replace hR2 := hR2.ext hD38;replace hT3 := hT3.ext hD38;replace xg := Chg.ext xg hD38;replace xl4 := Chg.ext xl4 hD38;replace xr5 := Chg.ext xr5 hD38;replace xr := Chg.ext xr hD38;replace xk := Chg.ext xk hD38;replace y0 := hD38.cell y0;replace o := hD38.cell o;replace g := hD38.cell g;replace m := hD38.cell m;replace z2 := hD38.cell z2;replace y5 := hD38.cell y5;replace y6 := hD38.cell y6;clear hD38;refine mNo ?_
          refine mNo ?_
          apply Mops.none
          ·intro w' hE';go_simp;with_reducible rfl
          refine mNo ?_
          refine mLa ?_
          intro K1 hK1;go_simp;refine Wcall (.inr ⟨_,rfl⟩) (IH j h2 (markT t2 (60 + x)) _ hu2.choose_spec hj.choose_spec.2 hq1.choose_spec.2 hD hR2 hT3) ?_;rintro v w5 ⟨hv,hR4,hT4,hC⟩;rw [hr1.choose_spec] at hv hR4 hT4;rw [hb1] at hv;subst hv;go_simp;apply hK1;clear hK1 K1;replace f5 := Chg.fz hC g f5 XN;replace xg := Chg.more xg hC (by intro b hm;simp only [List.mem_cons,List.not_mem_nil,or_false] at hm;first | (left;omega) | (right;simp [hm];done) | (rcases hm with hm | hm <;> first | (left;omega) | (right;simp [hm])));replace xl4 := Chg.more xl4 hC (by intro b hm;simp only [List.mem_cons,List.not_mem_nil,or_false] at hm;first | (left;omega) | (right;simp [hm];done) | (rcases hm with hm | hm <;> first | (left;omega) | (right;simp [hm])));replace xr5 := Chg.more xr5 hC (by intro b hm;simp only [List.mem_cons,List.not_mem_nil,or_false] at hm;first | (left;omega) | (right;simp [hm];done) | (rcases hm with hm | hm <;> first | (left;omega) | (right;simp [hm])));replace xr := Chg.more xr hC (by intro b hm;simp only [List.mem_cons,List.not_mem_nil,or_false] at hm;first | (left;omega) | (right;simp [hm];done) | (rcases hm with hm | hm <;> first | (left;omega) | (right;simp [hm])));replace xk := Chg.more xk hC (by intro b hm;simp only [List.mem_cons,List.not_mem_nil,or_false] at hm;first | (left;omega) | (right;simp [hm];done) | (rcases hm with hm | hm <;> first | (left;omega) | (right;simp [hm])));replace y0 := Chg.cell hC y0 XN
          replace o := Chg.cell hC o XN;replace g := Chg.cell hC g XN;replace m := Chg.cell hC m XN;replace y5 := Chg.cell hC y5 XN;apply Mops.last
          ·exact fun _ _ => Rops_done
          intro K1 hK1;go_simp;apply hK1;clear hK1 K1;refine Mops.done ?_;apply hK;clear hK K' gd g10;refine Wp.keep [1,4,5,6,8,57] ?_;rintro r37 ⟨bo,b6,cs,cH,cR,ce,-⟩;simp [go_sem,O,X,aa,ad,ag,ai] at bo b6 cs cH cR ce;clear O X aa ad ag ai;refine cTt ?_;have z3 := hR4.b.r.c x hdn;have fh := hR4.b.r.fz;refine Wp.seqDraw (.inr ⟨_,rfl⟩) mixed [([0,1,2,3,4],none),([5,6,7,8],some (9,true))] (by kernel_rfl) fun K' gd hK hg => ?_;clear hg;simp only [pick,nth,List.map_cons,List.map_nil,Option.map_none,Option.map_some];refine Mops.absD fun D39 hD39 zD39 => ?_;replace f5 := hD39.fz g f5;replace fh := hD39.fz z3 fh;replace hR4 := hR4.ext hD39;replace hT4 := hT4.ext hD39;replace xg := Chg.ext xg hD39;replace xl4 := Chg.ext xl4 hD39;replace xr5 := Chg.ext xr5 hD39;replace xr := Chg.ext xr hD39;replace xk := Chg.ext xk hD39;replace y0 := hD39.cell y0;replace o := hD39.cell o;replace g := hD39.cell g;replace m := hD39.cell m;replace y5 := hD39.cell y5;replace z3 := hD39.cell z3;clear hD39;refine mNo ?_
          refine mLa ?_
          intro K1 hK1;go_simp;apply hK1;clear hK1 K1;refine Mops.absS (b := g1) (i := x) [_] (hR4.b.r.some hdn) fun P2 hP2 => ?_;replace f5 := hP2.frz f5;replace hT4 := hT4.put hP2 (by omega);replace xg := Put.more xg hP2 (.inr (by simp));replace xl4 := Put.more xl4 hP2 (.inr (by simp));replace xr5 := Put.more xr5 hP2 (.inr (by simp));replace xr := Put.more xr hP2 (.inr (by simp));replace xk := Put.more xk hP2 (.inr (by simp));replace g := hP2.cell g (by omega);refine Mops.done ?_;apply hK;clear hK K' gd;refine Wp.keep [5] ?_;rintro r38 ⟨ct,-⟩;simp [go_sem,bo,b6,cs,cH,cR,ce] at ct;clear bo b6 cs cH cR ce;have hR5 : HasB P2 g0 g1 n (updI r1.2.1 (60 + x) i) := hR4.set1 hP2 hn m10;have hRe : ∃ _u : Unit,R = (true,updI r1.2.1 (60 + x) i,r1.2.2) := ⟨(),by rw [← hstep.choose_spec,if_pos hb1]⟩;have hKp : KeepR W2 P2 := ⟨KeepsOthers.of_chg xk (mem3 kb_g0 kb_g1 kb_tb)⟩;refine Wp.seqRegion (.inr ⟨_,rfl⟩) (by kernel_rfl) fun K' gd hK hg => ?_;clear hg;refine cu1 fun K1 hK1 => ?_;go_simp;apply hK1;clear hK1 K1;refine Wops.absS (b := n5) (i := 0) [_] (somes [cellVal g] (by simp) (by intro j v hj;match j,hj with | 0,hj => (simp at hj;subst hj;exact g))) fun P41 hP41 => ?_;replace hT4 := hT4.put hP41 (by omega);replace hR5 := hR5.put hP41 (by omega)
          replace hKp := hKp.put hP41 (by omega);replace xg := Put.more xg hP41 (.inl (by omega));clear xl4;replace xr5 := Put.more xr5 hP41 (.inr (by simp));clear xr;clear xk;clear g;have g := hP41.new 0 _ rfl;try simp only [Nat.reduceAdd,Nat.zero_add,Nat.add_zero] at g
          clear hP41;try simp only [Wops_nil,updO_some,updO_none]
          apply hK;clear hK K' gd;refine Wp.keep [5] ?_;rintro r39 ⟨dC,-⟩;simp [go_sem,ct] at dC;clear ct;refine Wp.ret ?_;refine bRe ?_;exact ⟨hKp.k,rfl,xr5,g,by rw [hRe.choose_spec];exact hR5,by rw [hRe.choose_spec];exact hT4,(),by rw [hRe.choose_spec]⟩
         ·skip;refine Wp.seqDraw (.inr ⟨_,rfl⟩) mixed [([0,1,2,3,4],none),([5,6,7,8,9],none),([10],none),([11,12,13,14,15],none),([16,17,18,19,20],some (21,true)),([],some (22,true))] (by kernel_rfl) fun K' gd hK hg => ?_;have g10 : gd 10 = some 45 := hg 10;clear hg;simp only [pick,nth,List.map_cons,List.map_nil,Option.map_none,Option.map_some];refine Mops.absD fun D42 hD42 zD42 => ?_;replace hD := hD.ext hD42;replace hR2 := hR2.ext hD42;replace hT3 := hT3.ext hD42;replace xg := Chg.ext xg hD42;replace xl4 := Chg.ext xl4 hD42;replace xr5 := Chg.ext xr5 hD42;replace xr := Chg.ext xr hD42;replace xk := Chg.ext xk hD42;replace y0 := hD42.cell y0;replace m := hD42.cell m;replace z2 := hD42.cell z2;replace y5 := hD42.cell y5;replace y6 := hD42.cell y6;clear hD42;refine mNo ?_
          refine mNo ?_
          apply Mops.none
          ·intro w' hE';go_simp;with_reducible rfl
          refine mNo ?_
          refine mLa ?_
          intro K1 hK1;go_simp;refine Wcall (.inr ⟨_,rfl⟩) (IH j h2 (markT t2 (60 + x)) _ hu2.choose_spec hj.choose_spec.2 hq1.choose_spec.2 hD hR2 hT3) ?_;rintro v w5 ⟨hv,hR4,hT4,hC⟩;rw [hr1.choose_spec] at hv hR4 hT4;rw [show r1.1 = false by simpa using hb1] at hv;subst hv;go_simp;apply hK1;clear hK1 K1;replace xg := Chg.more xg hC (by intro b hm;simp only [List.mem_cons,List.not_mem_nil,or_false] at hm;first | (left;omega) | (right;simp [hm];done) | (rcases hm with hm | hm <;> first | (left;omega) | (right;simp [hm])));replace xl4 := Chg.more xl4 hC (by intro b hm;simp only [List.mem_cons,List.not_mem_nil,or_false] at hm;first | (left;omega) | (right;simp [hm];done) | (rcases hm with hm | hm <;> first | (left;omega) | (right;simp [hm])));replace xr5 := Chg.more xr5 hC (by intro b hm;simp only [List.mem_cons,List.not_mem_nil,or_false] at hm;first | (left;omega) | (right;simp [hm];done) | (rcases hm with hm | hm <;> first | (left;omega) | (right;simp [hm])));replace xr := Chg.more xr hC (by intro b hm;simp only [List.mem_cons,List.not_mem_nil,or_false] at hm;first | (left;omega) | (right;simp [hm];done) | (rcases hm with hm | hm <;> first | (left;omega) | (right;simp [hm])));replace xk := Chg.more xk hC (by intro b hm;simp only [List.mem_cons,List.not_mem_nil,or_false] at hm;first | (left;omega) | (right;simp [hm];done) | (rcases hm with hm | hm <;> first | (left;omega) | (right;simp [hm])));apply Mops.last
          ·exact fun _ _ => Rops_done
          intro K1 hK1;go_simp;apply hK1;clear hK1 K1;refine Mops.done ?_;apply hK;clear hK K' gd g10;refine Wp.keep [1,4,5,6,8,57] ?_;rintro r41 ⟨dh,dt,dD,dH,dL,dv,-⟩;simp [go_sem,O,X,aa,ad,ag,ai] at dh dt dD dH dL dv;clear O X aa ad ag ai;refine cFf ?_;refine Wp.skip ?_;refine bNo ?_;refine ⟨KeepsOthers.of_chg xk (mem3 kb_g0 kb_g1 kb_tb),xr,?_⟩;exact ⟨r1.2.1,r1.2.2,hR4,hT4,(),by rw [← hstep.choose_spec,if_neg hb1],by have g1 := hu2.choose_spec;have g2 := untr_le (n := 120) (t := markT t2 (60 + x)) (t2 := r1.2.2) (fun d hd => by rw [← hr1.choose_spec];exact giveF_mono f j h2 _ d hd);omega,by rw [← hr1.choose_spec];exact giveF_vals (P := fun y => y < (t.fl.length : Int)) f j h2 _ (by have := hj.choose_spec.2;omega) hq1.choose_spec.2⟩
      ·rintro rm W hrm ⟨xr,⟨h2,t2,hR2,hT2,hq⟩⟩ hmk;replace hMk := hMk.chg xr XB;replace xg := Chg.more xg xr (by intro b hm;simp only [List.mem_cons,List.not_mem_nil,or_false] at hm;first | (left;omega) | (right;simp [hm];done) | (rcases hm with hm | hm <;> first | (left;omega) | (right;simp [hm])));replace xl4 := Chg.more xl4 xr (by intro b hm;simp only [List.mem_cons,List.not_mem_nil,or_false] at hm;first | (left;omega) | (right;simp [hm];done) | (rcases hm with hm | hm <;> first | (left;omega) | (right;simp [hm])));replace xr5 := Chg.more xr5 xr (by intro b hm;simp only [List.mem_cons,List.not_mem_nil,or_false] at hm;first | (left;omega) | (right;simp [hm];done) | (rcases hm with hm | hm <;> first | (left;omega) | (right;simp [hm])));replace hMk := MarksF.cons hMk_0 hMk hrm hmk (by omega);refine bNo ?_;refine bNo ?_;refine tNo ?_;refine lRg fun K' gd hK => ?_;go_simp;apply hK;clear hK K' gd;refine Ends.keep [1,2,3,4,5,12,13] ?_;rintro r42 ⟨c4,c6,c8,da,dc,cX,c0,-⟩;simp [go_sem,aG,aL,aO,aR,aU,aX,aB,aE,aJ] at c4 c6 c8 da dc cX c0;clear aG aL aO aR aU aX aB aE aJ;refine Ends.mk ?_;refine thenK_normal ⟨by omega,⟨by rw [c4,aH],by rw [c6,aM],by rw [c8,aP],by rw [da,aS],by rw [dc,aV],by rw [cX,aC],trivial⟩,hMk,xl4,?_⟩
       exact ⟨2,h2,t2,by rw [c0];rfl,hR2,hT2,(),by rw [hb1];rfl,by rw [hb1];have q := hq.choose_spec.1;rw [hL1.choose_spec.1,List.drop_length] at q;exact q,hq.choose_spec.2⟩
      ·rintro rm c W hrm ⟨rfl,hCs,h6,hr6,ht6,hq6⟩ hmk;refine Wp.ret ?_
       repeat (first | with_reducible refine bRe ?_ | with_reducible refine tRe ?_)
       refine endM_cell Tryz.results186 (by decide) ((MarksF.cons hMk_0 (hMk_0.chg hCs (by simp;omega)) hrm hmk (by omega)).to (by omega)) (a := ⟨n5,0,none⟩) (by assumption) fun wz hS => ?_;have cz := hS.cell h6;exact ⟨.bool true,by go_simp,by rw [hq6.choose_spec],hr6.shut hS,ht6.shut hS,(Chg.more xg hCs (by intro b hm;simp only [List.mem_cons,List.not_mem_nil,or_false] at hm;rcases hm with hm | hm | hm | hm <;> first | (left;omega) | (right;simp [hm]))).shut hS⟩
     ·skip;obtain rfl : K = 2 := by have := hq.choose_spec.1;omega
      have hRe : ∃ _u : Unit,R = (false,h1,t1) := ⟨(),by have q := hq.choose_spec.2.1;rw [show b = 2 by omega] at q;exact q.symm⟩;refine sRg fun K' gd hK => ?_;go_simp;apply hK;clear hK K' gd;refine Wp.keep [1,2,3,4,5,12,13,14] ?_;rintro r43 ⟨bp,bF,bS,b7,cu,a3,a8,bc,-⟩;simp [go_sem,Q,T,Y,ab,ae,J,e13] at bp bF bS b7 cu a3 a8 bc;clear Q T Y ab ae J e13;refine Wp.seq ?_;refine cFf ?_;refine Wp.exit ?_;refine tEx ?_;refine tEx ?_;refine blockK_here ?_;refine tNo ?_;refine sRg fun K' gd hK => ?_;refine cu1 fun K1 hK1 => ?_;go_simp;apply hK1;clear hK1 K1;refine Wops.absS (b := n5) (i := 0) [_] (somes [cellVal g] (by simp) (by intro j v hj;match j,hj with | 0,hj => (simp at hj;subst hj;exact g))) fun P43 hP43 => ?_;replace hMk := hMk.put hP43 (by omega);replace hR1 := hR1.put hP43 (by omega);replace hT1 := hT1.put hP43 (by omega);replace xg := Put.more xg hP43 (.inl (by omega));clear xl4;clear g;have g := hP43.new 0 _ rfl;try simp only [Nat.reduceAdd,Nat.zero_add,Nat.add_zero] at g
      clear hP43;try simp only [Wops_nil,updO_some,updO_none]
      apply hK;clear hK K' gd;refine Wp.keep [5] ?_;rintro r44 ⟨dd,-⟩;simp [go_sem,bp,bF,bS,b7,cu,a3,a8,bc] at dd;clear bp bF bS b7 cu a3 a8 bc;refine Wp.ret ?_;refine endM_cell Tryz.results186 (by decide) (hMk.to (by omega)) dd fun wz hS => ?_;have cz := hS.cell g;refine ⟨cellVal cz,by dsimp only [cellVal];go_simp,?_⟩
      dsimp only [cellVal]
      exact ⟨by rw [hRe.choose_spec],by rw [hRe.choose_spec];exact hR1.shut hS,by rw [hRe.choose_spec];exact hT1.shut hS,xg.shut hS⟩
end Go.Proofs.YtnklbepeoicgpaaGreat
namespace Go.Proofs.YtnklbepeoicgpaaGreat
open Go.Wk Go.Proofs
set_option maxHeartbeats 8000000
theorem sumN_at {i : Nat} {W : Nat → Int} : ∀ m,sumN (fun j => if i = j then W j else 0) m = if i < m then W i else 0
 | 0 => by rw [if_neg (by omega)];rfl
 | m + 1 => by
   show sumN _ m + (if i = m then W m else 0) = _
   rw [sumN_at m]
   by_cases h : i = m
   ·subst h;rw [if_neg (by omega),if_pos rfl,if_pos (by omega)];omega
   ·rw [if_neg h]
    by_cases h2 : i < m
    ·rw [if_pos h2,if_pos (by omega)];omega
    ·rw [if_neg h2,if_neg (by omega)];rfl
theorem worth_one {W : Int → Int} {g h : Nat → Int} {n m i : Nat} (hg : ∀ d,d < n → g d < m) (hh : ∀ d,d < n → h d < m) (hi : i < m) (hc : ∀ j : Nat,cntN g (j : Int) n = cntN h (j : Int) n + if i = j then 1 else 0) :
  worthW W g n = worthW W h n + W i := by
 rw [worth_cnt (m := m) n hg,worth_cnt (m := m) n hh]
 have e : sumN (fun j => cntN g (j : Int) n * W (j : Int)) m = sumN (fun j => cntN h (j : Int) n * W (j : Int) + if i = j then W (j : Int) else 0) m := sumN_eq m fun j _ => by
  rw [hc,Int.add_mul]
  congr 1
  split
  ·rw [Int.one_mul]
  ·rw [Int.zero_mul]
 rw [e,sumN_add,sumN_at (W := fun j => W (j : Int)),if_pos hi]
theorem worthN_leC {fl : List Fl} {C : Int} (h0 : 0 ≤ C) (hm : ∀ k (h : k < fl.length),0 ≤ fl[k].m ∧ fl[k].m ≤ C) (h : Nat → Int) : ∀ k,0 ≤ worthN fl h k ∧ worthN fl h k ≤ C * (k : Int)
 | 0 => ⟨Int.le_refl _,by simp [worthN]⟩
 | k + 1 => by
   have ih := worthN_leC h0 hm h k
   have hx : 0 ≤ mAt fl (h k) ∧ mAt fl (h k) ≤ C := by
    unfold mAt
    cases e : fl[(h k).toNat]? with
    | none => exact ⟨Int.le_refl _,h0⟩
    | some f => obtain ⟨hk,rfl⟩ := List.getElem?_eq_some_iff.1 e;exact hm _ hk
   have e : C * ((k + 1 : Nat) : Int) = C * (k : Int) + C := by rw [Int.natCast_add,Int.mul_add];omega
   unfold worthN;rw [e]
   split <;> omega
theorem worthN_noPlan (fl : List Fl) (n : Nat) : worthN fl noPlan n = 0 := by rw [worthN_W];exact worth_no n
end Go.Proofs.YtnklbepeoicgpaaGreat
namespace Go.Proofs.YtnklbepeoicgpaaGreat
section
variable {t : Tr} {other : List Int} {n : Nat}
theorem OptT.sec (hT : OptT t n) (other : List Int) : OptT (secT t other) n := hT.cl t.n other
theorem dN_lt (hT : OptT t n) (hn : n ≤ 60) (i : Int) (d : Nat) (hd : d ∈ dN t other i) : d < 120 := by
 rcases dN_mem.1 hd with h | ⟨e,h,rfl⟩
 ·have := trN_lt hT.span i d h;omega
 ·have := trN_lt (hT.sec other).span i e h;omega
theorem dN_one (hT : OptT t n) (hn : n ≤ 60) {i : Int} {d : Nat} (hd : d < 60) : d ∈ dN t other i ↔ d ∈ t.N i := by
 rw [dN_mem];exact ⟨fun h => h.elim id fun ⟨e,_,q⟩ => by omega,.inl⟩
theorem dN_two (hT : OptT t n) (hn : n ≤ 60) {i : Int} {d : Nat} : 60 + d ∈ dN t other i ↔ d ∈ (secT t other).N i := by
 rw [dN_mem]
 constructor
 ·rintro (h | ⟨e,h,q⟩)
  ·have := trN_lt hT.span i _ h;omega
  ·obtain rfl : d = e := by omega
   exact h
 ·exact fun h => .inr ⟨d,h,rfl⟩
def planB (t : Tr) (other : List Int) : Nat → Int := planF (dN t other) 120 (ordL t.fl)
def meritB (t : Tr) (other : List Int) : Int := worthN t.fl (planB t other) 120
theorem planB_C (hT : OptT t n) (hn : n ≤ 60) : PlanC (dN t other) 120 t.fl.length (fun a b => mAt t.fl b ≤ mAt t.fl a) (ordL t.fl) (planB t other) :=
 planF_C (dN_lt hT hn) (ordL_nodup _) (ordL_sorted _) fun _ hx => ordL_mem.1 hx
theorem meritB_opt (hT : OptT t n) (hn : n ≤ 60) : IsOpt (dN t other) 120 t.fl.length (mAt t.fl) (meritB t other) := by
 have hC := planB_C (other := other) hT hn;have e : worthW (mAt t.fl) (planB t other) 120 = meritB t other := (worthN_W _ _ _).symm;refine ⟨⟨_,hC.ok,e⟩,fun g hg => ?_⟩;rw [← e];refine dual_max (S := fun _ => True) hC.ok hg (fun _ _ _ => .inl trivial) (mAt_pos hT.mr) fun i hi _ hz => ?_;obtain ⟨X,h1,h2,h3⟩ := hC.cert i (ordL_mem.2 ⟨i,rfl,hi⟩) hz;exact ⟨X,h1,h2,h3⟩
def dayB (x : Int) : Int := if x < 60 then x else x - 60
def whoB (x : Int) : Int := if x < 0 then -1 else if x < 60 then 0 else 1
def onB (h : Nat → Int) (m : Nat) : List Int := (List.range m).map fun i => dayB (onN h 120 i)
def byB (h : Nat → Int) (m : Nat) : List Int := (List.range m).map fun i => whoB (onN h 120 i)
theorem onB_len {h : Nat → Int} {m : Nat} : (onB h m).length = m := by simp [onB]
theorem byB_len {h : Nat → Int} {m : Nat} : (byB h m).length = m := by simp [byB]
theorem onB_at {h : Nat → Int} {m i : Nat} (hi : i < m) : gI (onB h m) i = dayB (onN h 120 i) := by
 rw [gI_lt (by rw [onB_len];exact hi)];unfold onB;rw [List.getElem_map,List.getElem_range]
theorem byB_at {h : Nat → Int} {m i : Nat} (hi : i < m) : gI (byB h m) i = whoB (onN h 120 i) := by
 rw [gI_lt (by rw [byB_len];exact hi)];unfold byB;rw [List.getElem_map,List.getElem_range]
theorem wrth_onB {g : Nat → Int} (hg : OkP (dN t other) 120 t.fl.length g) : wrthK t (onB g t.fl.length) t.fl.length = worthW (mAt t.fl) g 120 := by
 have q := onL_on hg;rw [q.worth,wrthK_sum _ (Nat.le_refl _)];refine sumN_eq _ fun i hi => ?_;rw [onB_at hi,onL_at hi];unfold dayB
 rcases onN_spec g i 120 with ⟨e,-⟩ | ⟨d,hd,e,e2⟩
 ·rw [e];rfl
 ·rw [e,if_pos (Int.natCast_nonneg d)]
  by_cases q : (d : Int) < 60
  ·rw [if_pos q,if_pos (Int.natCast_nonneg d)]
  ·rw [if_neg q,if_pos (by omega)]
theorem wrth_planB (hT : OptT t n) (hn : n ≤ 60) : wrthK t (onB (planB t other) t.fl.length) t.fl.length = meritB t other := by
 rw [wrth_onB (planB_C hT hn).ok];exact (worthN_W _ _ _).symm
end
end Go.Proofs.YtnklbepeoicgpaaGreat
namespace Go.Proofs.YtnklbepeoicgpaaGreat
open Go.RowKit Go.Wk Go.Proofs
attribute [local irreducible] Go.Wk.Wops Go.Wk.Wp Go.Wk.Mtree Go.Wk.Mops
set_option maxHeartbeats 8000000
set_option maxRecDepth 20000
structure PairF (W : World) (S pb g0 g1 n : Nat) (A : Option Addr) (c : Nat) (A2 : Option Addr) (c2 : Nat) (A1 : Option Addr) (c1 : Nat) (t : Tr) (other : List Int) : Prop where
 k0 : W.cell? ⟨pb,0,none⟩ = some (.int .i64 t.n)
 k1 : W.cell? ⟨pb,1,none⟩ = some (.slice A t.cl.length c)
 k2 : W.cell? ⟨pb,2,none⟩ = some (.slice A2 t.fl.length c2)
 k3 : W.cell? ⟨pb,3,none⟩ = some (.int .i64 t.n)
 k4 : W.cell? ⟨pb,4,none⟩ = some (.slice A1 other.length c1)
 k5 : W.cell? ⟨pb,5,none⟩ = some (.slice A2 t.fl.length c2)
 k6 : W.cell? ⟨pb,6,none⟩ = some (.slice (some ⟨g0,0,none⟩) n n)
 k7 : W.cell? ⟨pb,7,none⟩ = some (.slice (some ⟨g1,0,none⟩) n n)
 tour : TourS W S (.agg #[.int .i64 t.n,.slice A t.cl.length c,.slice A2 t.fl.length c2]) t
 oth : TourS W S (.agg #[.int .i64 t.n,.slice A1 other.length c1,.slice A2 t.fl.length c2]) (secT t other)
 s : S ≤ g0 ∧ S ≤ g1 ∧ S ≤ W.heap.size
 ne : pb ≠ g0 ∧ pb ≠ g1 ∧ g0 ≠ g1
section
variable {W V : World} {S pb g0 g1 n : Nat} {A : Option Addr} {c : Nat} {A2 : Option Addr} {c2 : Nat} {A1 : Option Addr} {c1 : Nat} {t : Tr} {other : List Int}
theorem PairF.chg {L : List Nat} (h : PairF W S pb g0 g1 n A c A2 c2 A1 c1 t other) (hC : Chg L W V) (hL : pb ∉ L ∧ ∀ b ∈ L,S ≤ b) : PairF V S pb g0 g1 n A c A2 c2 A1 c1 t other :=
 ⟨Chg.cell hC h.k0 hL.1,Chg.cell hC h.k1 hL.1,Chg.cell hC h.k2 hL.1,Chg.cell hC h.k3 hL.1,Chg.cell hC h.k4 hL.1,Chg.cell hC h.k5 hL.1,Chg.cell hC h.k6 hL.1,Chg.cell hC h.k7 hL.1,
  h.tour.chg hC hL.2,h.oth.chg hC hL.2,⟨h.s.1,h.s.2.1,Nat.le_trans h.s.2.2 hC.size⟩,h.ne⟩
theorem PairF.ext (h : PairF W S pb g0 g1 n A c A2 c2 A1 c1 t other) (hE : Ext W V) : PairF V S pb g0 g1 n A c A2 c2 A1 c1 t other := h.chg ((Chg.refl [] W).ext hE) ⟨by simp,by simp⟩
theorem PairF.put {k i : Nat} {vs : List Value} (h : PairF W S pb g0 g1 n A c A2 c2 A1 c1 t other) (p : Put W V k i vs) (hk : pb ≠ k ∧ S ≤ k) : PairF V S pb g0 g1 n A c A2 c2 A1 c1 t other := h.chg p.chg ⟨by simpa using hk.1,by simpa using hk.2⟩
end
theorem secE_z {t : Tr} {other : List Int} (h : secE t other = 0) : checkT t = 0 ∧ checkT (secT t other) = 0 := by
 unfold secE at h
 by_cases h1 : checkT t = 0
 ·rw [if_pos h1] at h
  by_cases h2 : checkT (secT t other) = 0
  ·exact ⟨h1,h2⟩
  ·rw [if_neg h2] at h;cases h
 ·rw [if_neg h1] at h;exact absurd h h1
theorem endK_tmp4 {P : Program} {N : Nat} {fn : Func} {R : Value → World → Prop} {ρ : Nat → Value} {w : World} {t u x y : Nat} (hr : fn.results = #[.tmp t,.tmp u,.tmp x,.tmp y]) (ht : t < N) (hu : u < N) (hx : x < N) (hy : y < N) (h : R (.tuple #[ρ t,ρ u,ρ x,ρ y]) w) : endK P N fn R .ret ρ [] w := by
 refine ⟨rfl,.tuple #[ρ t,ρ u,ρ x,ρ y],?_,h⟩
 have g : ∀ {z : Nat},z < N → (actOf N ρ []).tmps[z]?.getD undef = ρ z := fun {z} hz => by
  have := get?_act N ρ [] z;rw [if_pos hz] at this;rw [this];rfl
 simp only [results,hr];simp [g ht,g hu,g hx,g hy]
theorem triedB_of {W : World} {b : Nat} {cs : List Value} (a : RowX W b cs) (hcs : cs = List.replicate 120 (.bool false) := by rfl) : TriedB W b (fun _ => false) := by
 obtain ⟨t,h⟩ := a.ex;subst hcs;exact ⟨⟨fun d hd => by rw [h.cell,List.getElem?_replicate,if_pos hd],fun j => h.frozen j,h.lt⟩⟩
theorem add2_c (t : Tr) (other : List Int) (S pb g0 g1 n i : Nat) (A : Option Addr) (c : Nat) (A2 : Option Addr) (c2 : Nat) (A1 : Option Addr) (c1 : Nat) (h : Nat → Int) (w : World) (hn : n ≤ 60) (hcl : t.cl.length ≤ 1000000000000000) (hol : other.length ≤ 1000000000000000) (hfl : t.fl.length ≤ 1000) (hfd : ∀ k (h : k < t.fl.length),0 ≤ t.fl[k].lo ∧ t.fl[k].hi < n)
  (hi : i < t.fl.length) (hhl : ∀ d,h d < t.fl.length) (hP : PairF w S pb g0 g1 n A c A2 c2 A1 c1 t other) (hR : HasB w g0 g1 n h) :
  CallsV Tryz.prog 140 #[.pointer (some ⟨pb,0,none⟩),.int .i64 (i : Int)] w fun v w' =>
   v = .bool (addB (dN t other) 120 h i) ∧ HasB w' g0 g1 n (addF (dN t other) 120 h i) ∧ Chg [g0,g1] w w' := by
 have heg := give2_enters;obtain ⟨s1,s2,s3⟩ := hP.s;obtain ⟨m1,m2,m3⟩ := hP.ne;have lb1 := hR.a.r.lt;have lb2 := hR.b.r.lt;have lb3 : pb < w.heap.size := cell_lt hP.k0;replace hhl : ∃ _u : Unit,_ := ⟨(),hhl⟩;refine Wp.fn Tryz.func140 rfl Tryz.ntmps140 (by simp) ?_;have xw := Ext.refl w;refine Wp.keep [0,1] ?_;rintro r1 ⟨o,p,-⟩;simp [go_sem] at o p;have xg := Chg.refl [g0,g1] w;refine sRg fun K' gd hK => ?_;refine cu1 fun K1 hK1 => ?_;go_simp;apply hK1;clear hK1 K1;refine Wops.absA fun M n2 l => ?_;obtain ⟨q2,l,s2,I,f2,r2⟩ := l;try simp only [q2] at I f2 r2 ⊢
 replace hP := hP.ext l;replace hR := hR.ext l;replace xw := xw.trans l;replace xg := Chg.ext xg l;have g := I 0 _ rfl;clear I l;clear r2;go_simp;apply hK;clear hK K' gd;refine Wp.keep [1,2] ?_;rintro r2 ⟨u,B,-⟩;simp [go_sem,o,p] at u B;clear o p;refine sRg fun K' gd hK => ?_;refine cu1 fun K1 hK1 => ?_;go_simp;apply hK1;clear hK1 K1;refine Wops.absA fun O n5 f => ?_;obtain ⟨q5,f,s5,L,f5,r5⟩ := f;try simp only [q5] at L f5 r5 ⊢
 replace hP := hP.ext f;replace hR := hR.ext f;replace xw := xw.trans f;replace xg := Chg.ext xg f;replace g := f.cell g;clear f;have rx5 := RowX.mk2 r5;clear r5;try simp only [Wops_nil,updO_some,updO_none]
 apply hK;clear hK K' gd;refine Wp.keep [1,2,5] ?_;rintro r3 ⟨x,C,E,-⟩;simp [go_sem,u,B] at x C E;clear u B;refine sRg fun K' gd hK => ?_;refine cu1 fun K1 hK1 => ?_;go_simp;apply hK1;clear hK1 K1;refine Wops.absA fun P n6 e => ?_;obtain ⟨q6,e,s6,J,f6,r6⟩ := e;try simp only [q6] at J f6 r6 ⊢
 replace hP := hP.ext e;replace hR := hR.ext e;replace rx5 := rx5.ext e;replace xw := xw.trans e;replace xg := Chg.ext xg e;replace g := e.cell g;have m := J 0 _ rfl;clear J e;clear r6;try simp only [Wops_nil,updO_some,updO_none]
 apply hK;clear hK K' gd;refine Wp.keep [1,2,5,6] ?_;rintro r4 ⟨y,D,F,G,-⟩;simp [go_sem,x,C,E] at y D F G;clear x C E;refine sRg fun K' gd hK => ?_;refine cu2 fun K1 hK1 => ?_;go_simp;apply hK1;clear hK1 K1;refine Wops.absS (b := n6) (i := 0) [_] (somes [cellVal m] (by simp) (by intro j v hj;match j,hj with | 0,hj => (simp at hj;subst hj;exact m))) fun P5 hP5 => ?_;have zP5 := hP5.same;replace hP := hP.put hP5 (by omega);replace hR := hR.put hP5 (by omega);replace rx5 := rx5.put hP5 (by omega);replace xw := Put.to xw hP5 (by omega);replace xg := Put.more xg hP5 (.inl (by omega));replace g := hP5.cell g (by omega);clear m;have m := hP5.new 0 _ rfl;try simp only [Nat.reduceAdd,Nat.zero_add,Nat.add_zero] at m
 clear hP5;try simp only [Wops_nil,updO_some,updO_none]
 apply hK;clear hK K' gd;refine Wp.keep [1,6] ?_;rintro r5 ⟨z,H,-⟩;simp [go_sem,y,D,F,G] at z H;clear y D F G;have hTr : TriedB P5 n5 (fun _ => false) := triedB_of rx5;have hD : PairD P5 S n2 pb n5 n6 g0 g1 n A c A2 c2 A1 c1 t other := ⟨g,hP.k0,hP.k1,hP.k2,hP.k3,hP.k4,hP.k5,hP.k6,hP.k7,m,hP.tour,hP.oth,⟨by omega,by omega,by omega,by omega⟩,⟨by omega,by omega,by omega⟩,⟨by omega,by omega,by omega⟩,⟨by omega,by omega,by omega⟩,by omega,by omega,by omega⟩;refine sRg fun K' gd hK => ?_;refine cu3 fun K1 hK1 => ?_;go_simp;refine Wcall (.inl rfl) (give2_c t other S n2 pb n5 n6 g0 g1 n A c A2 c2 A1 c1 hn hcl hol hfl hfd (120 + 1) i h (fun _ => false) _ (by have := untr_none 120;omega) hi hhl.choose_spec hD hR hTr) ?_;rintro v w5 ⟨hv,hR5,hT5,hC⟩;subst hv;have xg9 := Chg.more xg hC (by intro b hm;simp only [List.mem_cons,List.not_mem_nil,or_false] at hm;rcases hm with hm | hm | hm;exact .inr (by simp [hm]);exact .inr (by simp [hm]);exact .inl (by omega));go_simp;apply hK1;clear hK1 K1;go_simp;apply hK;clear hK K' gd;refine Wp.keep [4] ?_;rintro r7 ⟨K,-⟩;simp [go_sem,z,H] at K;clear z H;refine Wp.ret ?_;refine endK_tmp Tryz.results140 (by decide) ?_
 rw [K];refine ⟨rfl,?_,xg9⟩;unfold addF
 by_cases hb : (addR (dN t other) 120 h i).1 = true
 rw [if_pos hb];exact hR5;rw [if_neg hb];have q := giveF_same (N := dN t other) (120 + 1) i h (fun _ => false) (by have q : ¬ (giveF (dN t other) (120 + 1) i h fun _ => false).1 = true := hb;simpa using q);rw [q] at hR5;exact hR5
theorem both1_enters : ∀ args w,(callFunc 139 args).run Tryz.prog w = .ok (.enter 139 args) w := enters_of Tryz.func139 (by kernel_rfl) rfl
theorem both1_c (f g : Fl) (hf : 0 ≤ f.m ∧ f.m ≤ 1000) (hg : 0 ≤ g.m ∧ g.m ≤ 1000) (w : World) : CallsV Tryz.prog 139 #[flV f,flV g] w fun v w' => (∃ r : Int,v = .int .i64 r ∧ decide (r < 0) = decide (g.m < f.m)) ∧ Ext w w' := by
 unfold flV;have hw : IntKind.i64.wrap (g.m - f.m) = g.m - f.m := IntWalk.i64_in _ (by omega);refine Wp.fn Tryz.func139 rfl Tryz.ntmps139 (by simp) ?_;have xw := Ext.refl w;refine Wp.keep [0,1] ?_;rintro r1 ⟨c,d,-⟩;simp [go_sem] at c d;refine sRg fun K' gd hK => ?_;refine cu1 fun K1 hK1 => ?_;go_simp;apply hK1;clear hK1 K1;refine Wops.absA fun n n2 b => ?_;obtain ⟨q2,b,s2,i,f2,r2⟩ := b;try simp only [q2] at i f2 r2 ⊢
 replace xw := xw.trans b;have k := i 3 _ rfl;clear i b;clear r2;refine cu1 fun K1 hK1 => ?_;go_simp;apply hK1;clear hK1 K1;refine Wops.absA fun o n3 a => ?_;obtain ⟨q3,a,s3,j,f3,r3⟩ := a;try simp only [q3] at j f3 r3 ⊢
 replace xw := xw.trans a;replace k := a.cell k;have p := j 3 _ rfl;clear j a;clear r3;go_simp;apply hK;clear hK K' gd;refine Wp.keep [2,3] ?_;rintro r2 ⟨e,h,-⟩;simp [go_sem,c,d] at e h;clear c d;refine sRg fun K' gd hK => ?_;go_simp;apply hK;clear hK K' gd;refine Wp.keep [4] ?_;rintro r3 ⟨l,-⟩;simp [go_sem,e,h] at l;clear e h;refine Wp.ret ?_;refine endK_tmp Tryz.results139 (by decide) ?_;rw [l];exact ⟨⟨_,rfl,decide_eq_decide.2 (by omega)⟩,xw⟩
@[go_sem] theorem indexR_0 (a b : Value) (w : World) : (Instr.index 173 (.agg #[a,b]) (.int .i64 0)).run Tryz.prog w = .ok a w := by simp [Instr.index,run_underlying Tryz.underlying173,asIntOf,go_sem]
@[go_sem] theorem indexR_1 (a b : Value) (w : World) : (Instr.index 173 (.agg #[a,b]) (.int .i64 1)).run Tryz.prog w = .ok b w := by simp [Instr.index,run_underlying Tryz.underlying173,asIntOf,go_sem]
theorem onN_skip {h : Nat → Int} {a : Nat} : ∀ k,(∀ d,a ≤ d → d < a + k → h d < 0) → onN h (a + k) = onN h a
 | 0,_ => rfl
 | k + 1,hz => by
   have e : onN h (a + k + 1) = onN h (a + k) := if_neg (by have := hz (a + k) (by omega) (by omega);omega)
   show onN h (a + k + 1) = _
   rw [e,onN_skip k fun d h1 h2 => hz d h1 (by omega)]
theorem onN_day {h : Nat → Int} {b d i : Nat} (hb : b ≤ 1) (hd : d < 60) (hi : h (60 * b + d) = (i : Int)) (j : Nat) : dayB (onN h (60 * b + d + 1) j) = updF (fun j => dayB (onN h (60 * b + d) j)) i (d : Int) j ∧ whoB (onN h (60 * b + d + 1) j) = updF (fun j => whoB (onN h (60 * b + d) j)) i (b : Int) j := by
 have e : onN h (60 * b + d + 1) = updF (onN h (60 * b + d)) (h (60 * b + d)).toNat ((60 * b + d : Nat) : Int) := if_pos (by omega);rw [e,hi,Int.toNat_natCast];unfold updF
 by_cases q : j = i
 ·rw [if_pos q,if_pos q,if_pos q];unfold dayB whoB
  rcases (show b = 0 ∨ b = 1 by omega) with rfl | rfl
  ·rw [if_pos (show ((60 * 0 + d : Nat) : Int) < 60 by omega),if_neg (show ¬ ((60 * 0 + d : Nat) : Int) < 0 by omega),if_pos (show ((60 * 0 + d : Nat) : Int) < 60 by omega)];exact ⟨by omega,rfl⟩
  ·rw [if_neg (show ¬ ((60 * 1 + d : Nat) : Int) < 60 by omega),if_neg (show ¬ ((60 * 1 + d : Nat) : Int) < 0 by omega),if_neg (show ¬ ((60 * 1 + d : Nat) : Int) < 60 by omega)];exact ⟨by omega,rfl⟩
 ·rw [if_neg q,if_neg q,if_neg q];exact ⟨rfl,rfl⟩
theorem onN_none {h : Nat → Int} {k : Nat} (hz : h k < 0) : onN h (k + 1) = onN h k := if_neg (by omega)
theorem day_0 (h : Nat → Int) (j : Nat) : (-1 : Int) = dayB (onN h (60 * 0) j) := by show (-1 : Int) = dayB (-1);decide
theorem who_0 (h : Nat → Int) (j : Nat) : (-1 : Int) = whoB (onN h (60 * 0) j) := by show (-1 : Int) = whoB (-1);decide
theorem both_gap {t : Tr} {other : List Int} {n : Nat} {g : Nat → Int} (hT : OptT t n) (hn : n ≤ 60) (hg : OkP (dN t other) 120 t.fl.length g) {b e : Nat} (hb : b ≤ 1) (h1 : 60 * b + n ≤ e) (h2 : e < 60 * b + 60) : g e < 0 := by
 refine Int.not_le.1 fun h0 => ?_;have hd := hg.day e (by omega) h0
 rcases (show b = 0 ∨ b = 1 by omega) with rfl | rfl
 ·have := trN_lt hT.span _ _ ((dN_one hT hn (by omega)).1 hd);omega
 ·obtain ⟨k,rfl⟩ : ∃ k,e = 60 + k := ⟨e - 60,by omega⟩;have := trN_lt (hT.sec other).span _ _ ((dN_two hT hn).1 hd);omega
theorem onN_full {t : Tr} {other : List Int} {n : Nat} {g : Nat → Int} (hT : OptT t n) (hn : n ≤ 60) (hg : OkP (dN t other) 120 t.fl.length g) {b : Nat} (hb : b ≤ 1) : onN g (60 * b + n) = onN g (60 * (b + 1)) := by
 have e := onN_skip (h := g) (a := 60 * b + n) (60 - n) (fun e h1 h2 => both_gap hT hn hg hb h1 (by omega));rw [show 60 * b + n + (60 - n) = 60 * (b + 1) by omega] at e;exact e.symm
theorem onN_next {h : Nat → Int} {b d i : Nat} {x : Int} (hx : x = (b : Int)) (hb : b ≤ 1) (hd : d < 60) (hi : h (60 * b + d) = (i : Int)) (j : Nat) : updF (fun j => dayB (onN h (60 * b + d) j)) i (d : Int) j = dayB (onN h (60 * b + (d + 1)) j) ∧ updF (fun j => whoB (onN h (60 * b + d) j)) i x j = whoB (onN h (60 * b + (d + 1)) j) := by
 have q := onN_day hb hd hi j;rw [show 60 * b + (d + 1) = 60 * b + d + 1 by omega,hx];exact ⟨q.1.symm,q.2.symm⟩
theorem rows_next {G : Nat → Int} {b d i m qa qb : Nat} {x : Int} {W V V2 : World} (hx : x = (b : Int)) (hb : b ≤ 1) (hd : d < 60) (hi : G (60 * b + d) = (i : Int)) (hq : qa ≠ qb) (hA : RowF W qa m (fun j => dayB (onN G (60 * b + d) j))) (hB : RowF V qb m (fun j => whoB (onN G (60 * b + d) j))) (p1 : Put W V qa i [.int .i64 (d : Int)]) (p2 : Put V V2 qb i [.int .i64 x]) : RowF V2 qa m (fun j => dayB (onN G (60 * b + (d + 1)) j)) ∧ RowF V2 qb m (fun j => whoB (onN G (60 * b + (d + 1)) j)) :=
 ⟨((hA.store p1).put p2 hq).congr fun j _ => (onN_next hx hb hd hi j).1,(hB.store p2).congr fun j _ => (onN_next hx hb hd hi j).2⟩
attribute [local irreducible] onN dayB whoB
theorem Both_c (t : Tr) (other : List Int) (v ov : Value) (w : World) (hV : TourV w w.heap.size v t) (hO : IntsV w w.heap.size ov other) (hf : FitT t) (hl : other.length ≤ 1000000) (hl2 : checkT t = 0 → t.fl.length ≤ 12) :
  CallsV Tryz.prog 68 #[v,ov] w fun v' w' => (∃ a b,v' = .tuple #[a,b,.int .i64 (if secE t other = 0 then meritB t other else 0),.int .i64 (secE t other)] ∧
   (secE t other = 0 → IntsB w' w.heap.size a (onB (planB t other) t.fl.length) ∧ IntsB w' w.heap.size b (byB (planB t other) t.fl.length)) ∧ (secE t other ≠ 0 → a = .slice none 0 0 ∧ b = .slice none 0 0)) ∧ Ext w w' := by
 obtain ⟨A,c,A2,c2,rfl,hCl,hF⟩ := hV.open';obtain ⟨A1,c1,rfl,-,-⟩ := id hO;clear hCl;obtain ⟨se,hse⟩ : ∃ e : Int,∃ _u : Unit,secE t other = e := ⟨_,(),rfl⟩;refine Wp.fn Tryz.func68 rfl Tryz.ntmps68 (by simp) ?_;have xw := Ext.refl w;refine Wp.keep [0,1] ?_;rintro r1 ⟨a4,cs,-⟩;simp [go_sem] at a4 cs;refine sRg fun K' gd hK => ?_;refine cu1 fun K1 hK1 => ?_;go_simp;apply hK1;clear hK1 K1;refine Wops.absT fun gh n2 a2 R2 => ?_;obtain ⟨q2,a2,s2,aA,f2,r2⟩ := a2;try simp only [q2] at aA f2 r2 ⊢
 replace xw := xw.trans a2;have C := aA 0 _ rfl;have D := aA 1 _ rfl;have E := aA 2 _ rfl;clear aA a2;clear r2;go_simp;apply hK;clear hK K' gd;refine Wp.keep [1,2] ?_;rintro r2 ⟨ct,cC,-⟩;simp [go_sem,a4,cs] at ct cC;clear a4 cs;refine sRg fun K' gd hK => ?_;refine cu3 fun K1 hK1 => ?_;go_simp;refine Wcall (.inl rfl) (second_c t other _ _ _ (hV.ext xw) (hO.ext xw) hf hl) ?_;rintro v w2 ⟨⟨n1,B1,k1,q1,D1,l1,r1,hv,hTa⟩,hE⟩;rw [hse.choose_spec] at hv hTa;subst hv;have x7 := Ext.refl w2;go_simp;apply hK1;clear hK1 K1;have z3 := Below.size hE;replace xw := xw.trans hE;replace C := hE.cell C;replace D := hE.cell D;replace E := hE.cell E;clear hE;refine cu5 fun K1 hK1 => ?_;go_simp;apply hK1;clear hK1 K1;refine Wops.absT fun au n8 M R8 => ?_;obtain ⟨q8,M,s8,aB,f8,r8⟩ := M;try simp only [q8] at aB f8 r8 ⊢
 replace R8 := (show RowC _ _ _ _ from R8);replace xw := xw.trans M;replace x7 := x7.trans M;replace C := M.cell C;replace D := M.cell D;replace E := M.cell E;have gg := aB 0 _ rfl;have gk := aB 1 _ rfl;have gl := aB 2 _ rfl;clear aB M;clear r8;go_simp;apply hK;clear hK K' gd;refine Wp.keep [2,8,9] ?_;rintro r4 ⟨ax,ay,az,-⟩;simp [go_sem,ct,cC] at ax ay az;clear ct cC
 by_cases h0 : se = 0
 ·skip;have hz := secE_z (hse.choose_spec.trans h0);have hg := checkT_zero.1 hz.1;have hl12 := hl2 hz.1;have hP : PlanT t t.n.toNat := hg.plan hl12;obtain ⟨hU,hu2⟩ := hTa h0;clear hTa;have e9 := agg3_inj (hu2 _ _ _ rfl);clear hu2;obtain ⟨e91,e92,e93⟩ := e9
  injection e91 with _ e91
  injection e92 with e92 e94 e95
  injection e93 with e93 e96 e97
  replace e91 := e91.symm;subst e91;replace e92 := e92.symm;subst e92;replace e94 := e94.symm;subst e94;replace e95 := e95.symm;subst e95;replace e93 := e93.symm;subst e93;replace e96 := e96.symm;subst e96;replace e97 := e97.symm;subst e97;obtain ⟨n,hn⟩ : ∃ n : Nat,∃ _u : Unit,t.n = (n : Int) := ⟨t.n.toNat,(),hP.tn⟩;have hn60 : 1 ≤ n ∧ n ≤ 60 := by have := hP.n1;have := hP.n2;have := hn.choose_spec;omega
  have hTn : ∃ _u : Unit,t.n.toNat = n := ⟨(),by rw [hn.choose_spec];rfl⟩;have hT : OptT t n := by have := hP.opt;rw [hTn.choose_spec] at this;exact this
  have hgok := (planB_C (other := other) hT hn60.2).ok;obtain ⟨O,hO9⟩ : ∃ O,∃ _u : Unit,ordL t.fl = O := ⟨_,(),rfl⟩;have hOl : ∃ _u : Unit,O.length = t.fl.length ∧ t.fl.length ≤ 12 := ⟨(),by rw [← hO9.choose_spec];exact ordL_len _,hl12⟩;have hOm : ∃ _u : Unit,∀ x ∈ O,∃ k : Nat,x = (k : Int) ∧ k < t.fl.length := ⟨(),fun x hx => by rw [← hO9.choose_spec] at hx;exact ordL_mem.1 hx⟩;obtain ⟨G,hG⟩ : ∃ G,∃ _u : Unit,planB t other = G := ⟨_,(),rfl⟩;rw [hG.choose_spec] at hgok;have hsp : ∀ k (h : k < t.fl.length),0 ≤ t.fl[k].lo ∧ t.fl[k].hi < n := by have q := hP.sp;rw [hTn.choose_spec] at q;exact q
  replace hsp : ∃ _u : Unit,_ := ⟨(),hsp⟩;subst h0;refine Wp.seq ?_;refine sRg fun K' gd hK => ?_;go_simp;apply hK;clear hK K' gd;refine Wp.keep [2,8,9,27] ?_;rintro r5 ⟨cU,eL,eN,cu,-⟩;simp [go_sem,ax,ay,az] at cU eL eN cu;clear ax ay az;refine cFf ?_;refine skN ?_;rw [hn.choose_spec] at C gg;obtain ⟨S,hS1,hS2⟩ : ∃ S,S ≤ au.heap.size ∧ au.heap.size ≤ S := ⟨_,Nat.le_refl _,Nat.le_refl _⟩;have hTS : TourS au S (.agg #[.int .i64 t.n,.slice A t.cl.length c,.slice A2 t.fl.length c2]) t := ⟨(hV.ext xw).more hS2⟩;have hUS : TourS au S (.agg #[.int .i64 t.n,.slice A1 other.length c1,.slice A2 t.fl.length c2]) (secT t other) := ⟨(hU.ext x7).more hS2⟩;have hFS : FlawsS au S (.slice A2 t.fl.length c2) t.fl := ⟨(hF.ext xw).more hS2⟩;refine sRg fun K' gd hK => ?_;refine cu5 fun K1 hK1 => ?_;go_simp;apply hK1;clear hK1 K1;refine Wops.absT fun gf n33 J R33 => ?_;obtain ⟨q33,J,s33,L,f33,r33⟩ := J;try simp only [q33] at L f33 r33 ⊢
  replace hTS := hTS.ext J;replace hUS := hUS.ext J;replace hFS := hFS.ext J;replace xw := xw.trans J;replace C := J.cell C;replace D := J.cell D;replace E := J.cell E;have f := L 0 _ rfl;have l := L 1 _ rfl;have m := L 2 _ rfl;have p := L 3 _ rfl;have s := L 4 _ rfl;have u := L 5 _ rfl;have z := L 6 _ rfl;have B := L 7 _ rfl;clear L J;clear r33;go_simp;apply hK;clear hK K' gd;refine Wp.keep [2,10] ?_;rintro r6 ⟨c0,bg,-⟩;simp [go_sem,cU,eL,eN,cu] at c0 bg;clear cU eL eN cu;refine Wp.seq ?_;refine sRg fun K' gd hK => ?_;go_simp;apply hK;clear hK K' gd;refine Wp.keep [2,10,34] ?_;rintro r7 ⟨aO,aC,fo,-⟩;simp [go_sem,c0,bg] at aO aC fo;clear c0 bg;refine Wp.block ?_;refine Wp.loop (fun b ρ ds wb => AllEq [2,10] ρ r7 ∧ ds = [] ∧ (Chg [n33] gf wb ∧ (∀ i,wb.frozen? ⟨n33,i,none⟩ = false)) ∧ (∃ (K : Int) (v6 v7 : Value),ρ 34 = .int .i64 K ∧ wb.cell? ⟨n33,0,none⟩ = some (.int .i64 (n : Int)) ∧ wb.cell? ⟨n33,1,none⟩ = some (.slice A t.cl.length c) ∧ wb.cell? ⟨n33,2,none⟩ = some (.slice A2 t.fl.length c2) ∧ wb.cell? ⟨n33,3,none⟩ = some (.int .i64 (n : Int)) ∧ wb.cell? ⟨n33,4,none⟩ = some (.slice A1 other.length c1) ∧ wb.cell? ⟨n33,5,none⟩ = some (.slice A2 t.fl.length c2) ∧ wb.cell? ⟨n33,6,none⟩ = some v6 ∧ wb.cell? ⟨n33,7,none⟩ = some v7 ∧ (∃ _u : Unit,K = (b : Int) ∧ (1 ≤ b → ∃ g,v6 = .slice (some ⟨g,0,none⟩) n n ∧ HasF wb g n noPlan ∧ n33 < g) ∧ (2 ≤ b → ∃ g,v7 = .slice (some ⟨g,0,none⟩) n n ∧ HasF wb g n noPlan ∧ n33 < g ∧ ∀ x,v6 = .slice (some ⟨x,0,none⟩) n n → x < g)))) (2) ?_ ?_
  ·refine ⟨AllEq.refl _ _,rfl,⟨Chg.refl _ _,f33⟩,?_⟩;exact ⟨0,_,_,by rw [fo],f,l,m,p,s,u,z,B,(),rfl,fun q => absurd q (by decide),fun q => absurd q (by decide)⟩
  ·rintro b r8 _ wb hb ⟨hA,rfl,⟨xl5,gf33⟩,⟨K,v6,v7,e34,f5,f6,f7,f9,ga,gb,gc,ge,hq⟩⟩;obtain ⟨ad,N,-⟩ := hA;rw [aO] at ad;rw [aC] at N;have zxl5 := Chg.size xl5;clear f33;replace hTS := hTS.chg xl5 XB;replace hUS := hUS.chg xl5 XB;replace hFS := hFS.chg xl5 XB;replace xw := Chg.to xw xl5 XL;replace C := Chg.cell xl5 C XN;replace D := Chg.cell xl5 D XN;replace E := Chg.cell xl5 E XN;clear f;clear l;clear m;clear p;clear s;clear u;clear z;clear B;have f33 := gf33;clear gf33;have f := f5;clear f5;have l := f6;clear f6;have m := f7;clear f7;have p := f9;clear f9;have s := ga;clear ga;have u := gb;clear gb;have z := gc;clear gc;have B := ge;clear ge
   by_cases hb0 : b = 0
   ·skip;obtain rfl : K = 0 := by have := hq.choose_spec.1;omega
    refine sRg fun K' gd hK => ?_;go_simp;apply hK;clear hK K' gd;refine Wp.keep [2,10,34,35] ?_;rintro r9 ⟨c5,bh,dc,df,-⟩;simp [go_sem,ad,N,e34] at c5 bh dc df;clear ad N e34;refine Wp.seq ?_;refine cTt ?_;refine skN ?_;refine sBk ?_;refine sRg fun K' gd hK => ?_;go_simp;apply hK;clear hK K' gd;refine Wp.keep [2,10,11,34] ?_;rintro r10 ⟨cw,a5,bi,c6,-⟩;simp [go_sem,c5,bh,dc,df] at cw a5 bi c6;clear c5 bh dc df;refine Wp.loneDraw (.inl rfl) mixed [([0,1,3,4,6],none),([7],some (2,false)),([],some (5,false)),([8],some (9,true))] (by kernel_rfl) fun K' gd hK hg => ?_;clear hg;simp only [pick,nth,List.map_cons,List.map_nil,Option.map_none,Option.map_some];refine Mops.absD fun D6 hD6 zD6 => ?_;replace f33 := hD6.fz f f33;replace xw := xw.trans hD6;replace xl5 := Chg.ext xl5 hD6;replace C := hD6.cell C;replace f := hD6.cell f;replace l := hD6.cell l;replace m := hD6.cell m;replace p := hD6.cell p;replace s := hD6.cell s;replace u := hD6.cell u;replace z := hD6.cell z;replace B := hD6.cell B
    clear hD6;refine mNo ?_
    apply Mops.act
    ·intro w' hE';go_simp;with_reducible rfl
    intro K1 hK1;go_simp;refine hK1 _ _ (XA) ?_;clear hK1 K1;refine Mops.absT fun gj n39 H R39 => ?_;obtain ⟨q39,H,s39,eQ,f39,r39⟩ := H;try simp only [q39] at eQ f39 r39 ⊢
    replace f33 := H.fz f f33;replace xw := xw.trans H;replace xl5 := Chg.ext xl5 H;replace f := H.cell f;replace l := H.cell l;replace m := H.cell m;replace p := H.cell p;replace s := H.cell s;replace u := H.cell u;replace z := H.cell z;replace B := H.cell B;clear H f39;have a3 := eQ 0 _ rfl;clear eQ;apply Mops.act
    ·exact fun _ _ => Rops_done
    intro K1 hK1;go_simp;refine Wcall (.inl rfl) (repeat_c (-1) n n39 1 _ hn60 a3) ?_;rintro v w5 ⟨⟨g,rfl,hg,hR⟩,hE⟩;have hH : HasF w5 g n noPlan := ⟨RowI.rep hR,by omega⟩;clear hR;go_simp;refine hK1 _ _ (by assumption) ?_;clear hK1 K1;replace f33 := hE.fz f f33;replace xw := xw.trans hE;replace xl5 := Chg.ext xl5 hE;replace f := hE.cell f;replace l := hE.cell l;replace m := hE.cell m;replace p := hE.cell p;replace s := hE.cell s;replace u := hE.cell u;replace z := hE.cell z;replace B := hE.cell B;clear hE;apply Mops.last
    ·intro w' hE';go_simp;with_reducible rfl
    intro K1 hK1;go_simp;apply hK1;clear hK1 K1;refine Mops.absS (b := n33) (i := 6) [_] (some1 z) fun P9 hP9 => ?_;replace f33 := hP9.frz f33;replace hH := hH.put hP9 (by omega);replace xw := Put.to xw hP9 (by omega);replace xl5 := Put.more xl5 hP9 (.inr (by simp));replace f := Put.cellOff hP9 f (by first | (simp;done) | (simp;omega));replace l := Put.cellOff hP9 l (by first | (simp;done) | (simp;omega));replace m := Put.cellOff hP9 m (by first | (simp;done) | (simp;omega));replace p := Put.cellOff hP9 p (by first | (simp;done) | (simp;omega));replace s := Put.cellOff hP9 s (by first | (simp;done) | (simp;omega));replace u := Put.cellOff hP9 u (by first | (simp;done) | (simp;omega));replace B := Put.cellOff hP9 B (by first | (simp;done) | (simp;omega));refine Mops.done ?_;apply hK;clear hK K' gd;refine Ends.keep [2,10,34] ?_;rintro r12 ⟨cx,a6,c7,-⟩;simp [go_sem,cw,a5,bi,c6] at cx a6 c7;clear cw a5 bi c6;refine Ends.mk ?_;refine bNo ?_;refine tNo ?_;have y9 := hP9.new 0 _ rfl;refine lRg fun K' gd hK => ?_;go_simp;apply hK;clear hK K' gd;refine Ends.keep [2,10,34] ?_;rintro r13 ⟨fb,eR,fk,-⟩;simp [go_sem,cx,a6,c7] at fb eR fk;clear cx a6 c7
    refine Ends.mk ?_;refine thenK_normal ⟨by omega,⟨by rw [fb,aO],by rw [eR,aC],trivial⟩,rfl,⟨xl5,f33⟩,?_⟩;exact ⟨1,_,_,by rw [fk];rfl,f,l,m,p,s,u,y9,B,(),by omega,fun _ => ⟨g,rfl,hH,by omega⟩,fun q => absurd q (by omega)⟩
   ·skip
    by_cases hb1 : b = 1
    ·skip;obtain rfl : K = 1 := by have := hq.choose_spec.1;omega
     obtain ⟨g0,ev0,hH0,hg0⟩ := hq.choose_spec.2.1 (by omega);subst ev0;have hl0 := hH0.r.lt;refine sRg fun K' gd hK => ?_;go_simp;apply hK;clear hK K' gd;refine Wp.keep [2,10,34,35] ?_;rintro r14 ⟨cy,a7,c8,dd,-⟩;simp [go_sem,ad,N,e34] at cy a7 c8 dd;clear ad N e34;refine Wp.seq ?_;refine cTt ?_;refine skN ?_;refine sBk ?_;refine sRg fun K' gd hK => ?_;go_simp;apply hK;clear hK K' gd;refine Wp.keep [2,10,11,34] ?_;rintro r15 ⟨cz,a8,bj,c9,-⟩;simp [go_sem,cy,a7,c8,dd] at cz a8 bj c9;clear cy a7 c8 dd;refine Wp.loneDraw (.inl rfl) mixed [([0,1,3,4,6],none),([7],some (2,false)),([],some (5,false)),([8],some (9,true))] (by kernel_rfl) fun K' gd hK hg => ?_;clear hg;simp only [pick,nth,List.map_cons,List.map_nil,Option.map_none,Option.map_some];refine Mops.absD fun D9 hD9 zD9 => ?_;replace f33 := hD9.fz f f33;replace hH0 := hH0.ext hD9;replace xw := xw.trans hD9;replace xl5 := Chg.ext xl5 hD9;replace C := hD9.cell C;replace f := hD9.cell f;replace l := hD9.cell l;replace m := hD9.cell m;replace p := hD9.cell p
     replace s := hD9.cell s;replace u := hD9.cell u;replace z := hD9.cell z;replace B := hD9.cell B;clear hD9;refine mNo ?_
     apply Mops.act
     ·intro w' hE';go_simp;with_reducible rfl
     intro K1 hK1;go_simp;refine hK1 _ _ (XA) ?_;clear hK1 K1;refine Mops.absT fun gi n39 F R39 => ?_;obtain ⟨q39,F,s39,eP,f39,r39⟩ := F;try simp only [q39] at eP f39 r39 ⊢
     replace f33 := F.fz f f33;replace hH0 := hH0.ext F;replace xw := xw.trans F;replace xl5 := Chg.ext xl5 F;replace f := F.cell f;replace l := F.cell l;replace m := F.cell m;replace p := F.cell p;replace s := F.cell s;replace u := F.cell u;replace z := F.cell z;replace B := F.cell B;clear F f39;have a3 := eP 0 _ rfl;clear eP;apply Mops.act
     ·exact fun _ _ => Rops_done
     intro K1 hK1;go_simp;refine Wcall (.inl rfl) (repeat_c (-1) n n39 1 _ hn60 a3) ?_;rintro v w5 ⟨⟨g,rfl,hg,hR⟩,hE⟩;have hH : HasF w5 g n noPlan := ⟨RowI.rep hR,by omega⟩;clear hR;go_simp;refine hK1 _ _ (by assumption) ?_;clear hK1 K1;replace f33 := hE.fz f f33;replace hH0 := hH0.ext hE;replace xw := xw.trans hE;replace xl5 := Chg.ext xl5 hE;replace f := hE.cell f;replace l := hE.cell l;replace m := hE.cell m;replace p := hE.cell p;replace s := hE.cell s;replace u := hE.cell u;replace z := hE.cell z;replace B := hE.cell B;clear hE;apply Mops.last
     ·intro w' hE';go_simp;with_reducible rfl
     intro K1 hK1;go_simp;apply hK1;clear hK1 K1;refine Mops.absS (b := n33) (i := 7) [_] (some1 B) fun P9 hP9 => ?_;replace f33 := hP9.frz f33;replace hH0 := hH0.put hP9 (by omega);replace hH := hH.put hP9 (by omega);replace xw := Put.to xw hP9 (by omega);replace xl5 := Put.more xl5 hP9 (.inr (by simp));replace f := Put.cellOff hP9 f (by first | (simp;done) | (simp;omega));replace l := Put.cellOff hP9 l (by first | (simp;done) | (simp;omega));replace m := Put.cellOff hP9 m (by first | (simp;done) | (simp;omega));replace p := Put.cellOff hP9 p (by first | (simp;done) | (simp;omega));replace s := Put.cellOff hP9 s (by first | (simp;done) | (simp;omega));replace u := Put.cellOff hP9 u (by first | (simp;done) | (simp;omega));replace z := Put.cellOff hP9 z (by first | (simp;done) | (simp;omega));refine Mops.done ?_;apply hK;clear hK K' gd;refine Ends.keep [2,10,34] ?_;rintro r17 ⟨cA,a9,da,-⟩;simp [go_sem,cz,a8,bj,c9] at cA a9 da;clear cz a8 bj c9;refine Ends.mk ?_;refine bNo ?_;refine tNo ?_;have y9 := hP9.new 0 _ rfl;refine lRg fun K' gd hK => ?_;go_simp;apply hK;clear hK K' gd;refine Ends.keep [2,10,34] ?_;rintro r18 ⟨fc,eS,fm,-⟩;simp [go_sem,cA,a9,da] at fc eS fm
     clear cA a9 da;refine Ends.mk ?_;refine thenK_normal ⟨by omega,⟨by rw [fc,aO],by rw [eS,aC],trivial⟩,rfl,⟨xl5,f33⟩,?_⟩;exact ⟨2,_,_,by rw [fm];rfl,f,l,m,p,s,u,z,y9,(),by omega,fun _ => ⟨g0,rfl,hH0,hg0⟩,fun _ => ⟨g,rfl,hH,by omega,fun x e => by injection e with e _ _;injection e with e;injection e with e;omega⟩⟩
    ·skip;obtain rfl : K = 2 := by have := hq.choose_spec.1;omega
     obtain ⟨g0,ev0,hH0,hg0⟩ := hq.choose_spec.2.1 (by omega);subst ev0;obtain ⟨g1,ev1,hH1,hg1,hg01⟩ := hq.choose_spec.2.2 (by omega);subst ev1;replace hg01 := hg01 _ rfl;have hl0 := hH0.r.lt;have hl1 := hH1.r.lt;refine sRg fun K' gd hK => ?_;go_simp;apply hK;clear hK K' gd;refine Wp.keep [2,10,34,35] ?_;rintro r19 ⟨cB,ba,db,de,-⟩;simp [go_sem,ad,N,e34] at cB ba db de;clear ad N e34;refine Wp.seq ?_;refine cFf ?_;refine Wp.exit ?_;refine tEx ?_;refine tEx ?_;refine blockK_here ?_;refine tNo ?_;refine Wp.seq ?_;refine sRg fun K' gd hK => ?_;refine cu3 fun K1 hK1 => ?_;go_simp;refine Wcall (.inl rfl) (ordered_c t.fl (.slice A2 t.fl.length c2) 139 (ltM t.fl) _ (hFS.v.more (by omega)) hl12 both1_enters (fun i j hi hj W => by rw [ltM_at hi hj];exact both1_c _ _ (hP.mr i hi) (hP.mr j hj) W)) ?_;rintro v w4 ⟨hI4,hE⟩;rw [show sortQ (ltM t.fl) (rangeI t.fl.length) = O from hO9.choose_spec] at hI4;obtain ⟨A4,c4,rfl⟩ := hI4.slice;go_simp;apply hK1;clear hK1 K1;have z20 := Below.size hE;replace hTS := hTS.ext hE;replace hUS := hUS.ext hE;replace hH0 := hH0.ext hE;replace hH1 := hH1.ext hE;replace xw := xw.trans hE
     replace xl5 := Chg.ext xl5 hE;replace C := hE.cell C;replace D := hE.cell D;replace E := hE.cell E;replace f := hE.cell f;replace l := hE.cell l;replace m := hE.cell m;replace p := hE.cell p;replace s := hE.cell s;replace u := hE.cell u;replace z := hE.cell z;replace B := hE.cell B;clear hE;go_simp;apply hK;clear hK K' gd;refine Wp.keep [2,10,49,50,51] ?_;rintro r21 ⟨cD,bb,dg,dk,ft,-⟩;simp [go_sem,cB,ba,db,de] at cD bb dg dk ft;clear cB ba db de;have hPF : PairF w4 S n33 g0 g1 n A c A2 c2 A1 c1 t other := ⟨by rw [hn.choose_spec];exact f,l,m,by rw [hn.choose_spec];exact p,s,u,z,B,hTS,hUS,⟨by omega,by omega,by omega⟩,⟨by omega,by omega,by omega⟩⟩;have hB0 : HasB w4 g0 g1 n noPlan := ⟨hH0,hH1⟩;refine Wp.block ?_;refine Wp.loop (fun k ρ ds wk => AllEq [2,10,49,50] ρ r21 ∧ ds = [] ∧ (Chg [g0,g1] w4 wk) ∧ (ρ 51 = .int .i64 (k : Int) ∧ HasB wk g0 g1 n ((O.take k).foldl (addF (dN t other) 120) noPlan))) (O.length) ?_ ?_
     ·refine ⟨AllEq.refl _ _,rfl,Chg.refl _ _,?_⟩;exact ⟨by rw [ft];rfl,hB0⟩
     ·rintro k r22 _ wk hk ⟨hA,rfl,xl14,⟨e51,hB⟩⟩;obtain ⟨cE,bc,dh,dl,-⟩ := hA;rw [cD] at cE;rw [bb] at bc;rw [dg] at dh;rw [dk] at dl;have zxl14 := Chg.size xl14;replace hI4 := hI4.chg xl14 XB;replace hPF := hPF.chg xl14 XB;replace xw := Chg.to xw xl14 XL;replace xl5 := Chg.more xl5 xl14 (by intro b hm;simp only [List.mem_cons,List.not_mem_nil,or_false] at hm;first | (left;omega) | (right;simp [hm];done) | (rcases hm with hm | hm <;> first | (left;omega) | (right;simp [hm])));replace C := Chg.cell xl14 C XN;replace D := Chg.cell xl14 D XN;replace E := Chg.cell xl14 E XN;refine sRg fun K' gd hK => ?_;go_simp;apply hK;clear hK K' gd;refine Wp.keep [2,10,49,50,51,52] ?_;rintro r23 ⟨aw,av,aP,aQ,aR,aS,-⟩;simp [go_sem,cE,bc,dh,dl,e51] at aw av aP aQ aR aS;clear cE bc dh dl e51;refine Wp.seq ?_
      by_cases h : k < O.length
      ·refine cTt ?_;obtain ⟨b,o,cc,ev,hb,hcc⟩ := hI4.ints.get h
       injection ev with ev1 _ ev2
       subst ev1;subst ev2;have d1 := hcc k h;obtain ⟨i,hi1,hi2⟩ := hOm.choose_spec _ (gI_mem h);rw [hi1] at d1;have hkl : (k : Int) < (O.length : Int) := by omega
       replace hi1 : ∃ _u : Unit,O[k] = (i : Int) := ⟨(),by rw [← gI_lt h];exact hi1⟩;clear hcc;refine skN ?_;refine sBk ?_;refine sRg fun K' gd hK => ?_;go_simp;apply hK;clear hK K' gd;refine Wp.keep [2,10,13,49,50,51] ?_;rintro r24 ⟨cF,bd,bk,di,dm,dp,-⟩;simp [go_sem,aw,av,aP,aQ,aR,aS] at cF bd bk di dm dp;clear aw av aP aQ aR aS;refine lRg fun K' gd hK => ?_;refine cu3 fun K1 hK1 => ?_;go_simp;refine Wcall (.inl rfl) (add2_c t other S n33 g0 g1 n i A c A2 c2 A1 c1 _ _ hn60.2 hP.cl (by omega) (by have := hP.fl;omega) hsp.choose_spec hi2 (foldl_vals (P := fun y => y < (t.fl.length : Int)) _ _ (fun x hx => by obtain ⟨q,rfl,hq⟩ := hOm.choose_spec x (List.mem_of_mem_take hx);omega) (fun d => by show (-1 : Int) < _;omega)) hPF hB) ?_;rintro v w5 ⟨rfl,hB2,hE⟩;go_simp;apply hK1;clear hK1 K1;replace xw := Chg.to xw hE XL;replace xl5 := Chg.more xl5 hE (by intro b hm;simp only [List.mem_cons,List.not_mem_nil,or_false] at hm;first | (left;omega) | (right;simp [hm];done) | (rcases hm with hm | hm <;> first | (left;omega) | (right;simp [hm])));replace xl14 := Chg.more xl14 hE (by intro b hm;simp only [List.mem_cons,List.not_mem_nil,or_false] at hm;first | (left;omega) | (right;simp [hm];done) | (rcases hm with hm | hm <;> first | (left;omega) | (right;simp [hm])))
       try simp only [Wops_nil,updO_some,updO_none]
       apply hK;clear hK K' gd;refine Ends.keep [2,10,49,50,51] ?_;rintro r26 ⟨cG,be,dj,dn,dq,-⟩;simp [go_sem,cF,bd,bk,di,dm,dp] at cG be dj dn dq;clear cF bd bk di dm dp;refine Ends.mk ?_;refine bNo ?_;refine tNo ?_;refine lRg fun K' gd hK => ?_;go_simp;apply hK;clear hK K' gd;refine Ends.keep [2,10,49,50,51] ?_;rintro r27 ⟨fd,eT,fp,fs,fu,-⟩;simp [go_sem,cG,be,dj,dn,dq] at fd eT fp fs fu;clear cG be dj dn dq;refine Ends.mk ?_;refine thenK_normal ⟨by omega,⟨by rw [fd,cD],by rw [eT,bb],by rw [fp,dg],by rw [fs,dk],trivial⟩,rfl,xl14,?_⟩;exact ⟨by rw [fu,IntWalk.i64_in _ (by have := hOl.choose_spec;omega)];rfl,by rw [take_snoc h,List.foldl_append,hi1.choose_spec];exact hB2⟩
      ·refine cFf ?_;have hkO : ∃ _u : Unit,k = O.length := ⟨(),by omega⟩;have hBG : HasB wk g0 g1 n G := by have q := hB;rw [hkO.choose_spec,List.take_length] at q;rw [← hG.choose_spec];unfold planB planF;rw [hO9.choose_spec];exact q
       have d6 := hPF.k6;have d7 := hPF.k7;clear hB;have dz := drew_size wk;obtain ⟨B0,hB0⟩ : ∃ B0 : Nat,∃ _u : Unit,wk.heap.size = B0 := ⟨_,(),rfl⟩;have hB1 : B0 ≤ wk.heap.size := by rw [← hB0.choose_spec];omega
       have hB2 : wk.heap.size ≤ B0 := by rw [← hB0.choose_spec];omega
       have hX : FromE wk wk.drew := FromE.drew (Ext.refl _);refine Wp.exit ?_;refine tEx ?_;refine tEx ?_;refine blockK_here ?_;refine tNo ?_;refine Wp.seqDrawT (.inl rfl) mixed (.rd [1,2,3,6,7] (.rd [8] (.both (.act 0 false (.both (.act 4 false (.act 5 false (.act 9 false (.rd [10,11] .done)))) (.act 5 false (.act 4 false (.act 9 false (.rd [10,11] .done)))))) (.act 5 false (.act 0 false (.act 4 false (.act 9 false (.rd [10,11] .done)))))))) (by kernel_rfl) (fun ρ W => AllEq [2,10] ρ r23 ∧ (Ext wk W ∧ ∃ qa qb,ρ 14 = .slice (some ⟨qa,0,none⟩) t.fl.length t.fl.length ∧ ρ 15 = .slice (some ⟨qb,0,none⟩) t.fl.length t.fl.length ∧ RowF W qa t.fl.length (fun _ => -1) ∧ RowF W qb t.fl.length (fun _ => -1) ∧ (∃ _u : Unit,B0 ≤ qa ∧ B0 ≤ qb ∧ qa ≠ qb))) (fun K' gd hK hg => ?_) ?_
       ·skip;clear hg;simp only [pickT,nth,List.map_cons,List.map_nil];apply Mtree.reads
        ·intro w' hE';have hC' := hE'.cellsS;go_simp;with_reducible rfl
        apply Mtree.reads
        ·intro w' hE';go_simp;with_reducible rfl
        refine Mtree.two ?_ ?_
        ·skip;refine Mtree.stepH fun K1 hK1 => ?_;go_simp;refine hK1.h _ _ XA ?_;clear hK1 K1
         first | refine Mtree.absT fun V0 hV0 sV0 hVc hVf RV0 => ?_ | refine Mtree.absTD fun V0 hV0 sV0 hVc hVf RV0 => ?_
         have ar := hVc 0 _ rfl;clear hVc hVf
         first | replace hX := hX.ext hV0 | replace hX := hX.extD hV0
         refine Mtree.two ?_ ?_
         ·skip;refine Mtree.stepH fun K1 hK1 => ?_;go_simp;refine Wcall (.inl rfl) (repeatF_c (-1) t.fl.length _ 1 _ (by omega) ar) ?_;rintro v w5 ⟨⟨qa,rfl,hqa,hRa⟩,hE6⟩;have lqa := hRa.lt;go_simp;refine hK1.h _ _ XR ?_;clear hK1 K1;replace hX := hX.ext hE6;refine Mtree.stepH fun K1 hK1 => ?_;go_simp;refine hK1.h _ _ XA ?_;clear hK1 K1
          first | refine Mtree.absT fun V5 hV5 sV5 hVc hVf RV5 => ?_ | refine Mtree.absTD fun V5 hV5 sV5 hVc hVf RV5 => ?_
          have I := hVc 0 _ rfl;clear hVc hVf;replace hX := hX.ext hV5;replace hRa := hRa.ext hV5;refine Mtree.stepH fun K1 hK1 => ?_;go_simp;refine Wcall (.inl rfl) (repeatF_c (-1) t.fl.length _ 1 _ (by omega) I) ?_;rintro v w6 ⟨⟨qb,rfl,hqb,hRb⟩,hE7⟩;go_simp;refine hK1.h _ _ XR ?_;clear hK1 K1;replace hX := hX.ext hE7;replace hRa := hRa.ext hE7;apply Mtree.reads
          ·intro w' hE';go_simp;with_reducible rfl
          refine Mtree.fin ?_;refine hK _ _ ⟨by simp [AllEq,go_sem],?_⟩;exact ⟨hX.h,qa,qb,by first | rfl | go_simp,by first | rfl | go_simp,hRa,hRb,(),by omega,by omega,by omega⟩
         ·skip;refine Mtree.stepH fun K1 hK1 => ?_;go_simp;refine hK1.h _ _ XA ?_;clear hK1 K1
          first | refine Mtree.absT fun V5 hV5 sV5 hVc hVf RV5 => ?_ | refine Mtree.absTD fun V5 hV5 sV5 hVc hVf RV5 => ?_
          have I := hVc 0 _ rfl;clear hVc hVf;replace ar := hV5.cell ar;replace hX := hX.ext hV5;refine Mtree.stepH fun K1 hK1 => ?_;go_simp;refine Wcall (.inl rfl) (repeatF_c (-1) t.fl.length _ 1 _ (by omega) ar) ?_;rintro v w5 ⟨⟨qa,rfl,hqa,hRa⟩,hE6⟩;have lqa := hRa.lt;go_simp;refine hK1.h _ _ XR ?_;clear hK1 K1;replace I := hE6.cell I;replace hX := hX.ext hE6;refine Mtree.stepH fun K1 hK1 => ?_;go_simp;refine Wcall (.inl rfl) (repeatF_c (-1) t.fl.length _ 1 _ (by omega) I) ?_;rintro v w6 ⟨⟨qb,rfl,hqb,hRb⟩,hE7⟩;go_simp;refine hK1.h _ _ XR ?_;clear hK1 K1;replace hX := hX.ext hE7;replace hRa := hRa.ext hE7;apply Mtree.reads
          ·intro w' hE';go_simp;with_reducible rfl
          refine Mtree.fin ?_;refine hK _ _ ⟨by simp [AllEq,go_sem],?_⟩;exact ⟨hX.h,qa,qb,by first | rfl | go_simp,by first | rfl | go_simp,hRa,hRb,(),by omega,by omega,by omega⟩
        ·skip;refine Mtree.stepH fun K1 hK1 => ?_;go_simp;refine hK1.h _ _ XA ?_;clear hK1 K1
         first | refine Mtree.absT fun V5 hV5 sV5 hVc hVf RV5 => ?_ | refine Mtree.absTD fun V5 hV5 sV5 hVc hVf RV5 => ?_
         have I := hVc 0 _ rfl;clear hVc hVf
         first | replace hX := hX.ext hV5 | replace hX := hX.extD hV5
         refine Mtree.stepH fun K1 hK1 => ?_;go_simp;refine hK1.h _ _ XA ?_;clear hK1 K1
         first | refine Mtree.absT fun V0 hV0 sV0 hVc hVf RV0 => ?_ | refine Mtree.absTD fun V0 hV0 sV0 hVc hVf RV0 => ?_
         have ar := hVc 0 _ rfl;clear hVc hVf;replace I := hV0.cell I;replace hX := hX.ext hV0;refine Mtree.stepH fun K1 hK1 => ?_;go_simp;refine Wcall (.inl rfl) (repeatF_c (-1) t.fl.length _ 1 _ (by omega) ar) ?_;rintro v w5 ⟨⟨qa,rfl,hqa,hRa⟩,hE6⟩;have lqa := hRa.lt;go_simp;refine hK1.h _ _ XR ?_;clear hK1 K1;replace I := hE6.cell I;replace hX := hX.ext hE6;refine Mtree.stepH fun K1 hK1 => ?_;go_simp;refine Wcall (.inl rfl) (repeatF_c (-1) t.fl.length _ 1 _ (by omega) I) ?_;rintro v w6 ⟨⟨qb,rfl,hqb,hRb⟩,hE7⟩;go_simp;refine hK1.h _ _ XR ?_;clear hK1 K1;replace hX := hX.ext hE7;replace hRa := hRa.ext hE7;apply Mtree.reads
         ·intro w' hE';go_simp;with_reducible rfl
         refine Mtree.fin ?_;refine hK _ _ ⟨by simp [AllEq,go_sem],?_⟩;exact ⟨hX.h,qa,qb,by first | rfl | go_simp,by first | rfl | go_simp,hRa,hRb,(),by omega,by omega,by omega⟩
       ·rintro r28 W ⟨hA,hT15,qa,qb,e14,e15,hRa,hRb,hd⟩;obtain ⟨cH,bf,-⟩ := hA;rw [aw] at cH;rw [av] at bf;clear aw av aP aQ aR aS;replace hBG := hBG.ext hT15;replace xw := xw.trans hT15;replace xl5 := Chg.ext xl5 hT15;replace xl14 := Chg.ext xl14 hT15;replace C := hT15.cell C;replace D := hT15.cell D;replace E := hT15.cell E;replace d6 := hT15.cell d6;replace d7 := hT15.cell d7;obtain ⟨-,hd1,hd2,hd3⟩ := hd;refine Wp.seq ?_;refine sRg fun K' gd hK => ?_;go_simp;apply hK;clear hK K' gd;refine Wp.keep [2,14,15,72,73] ?_;rintro r29 ⟨aL,aD,aG,aT,fG,-⟩;simp [go_sem,cH,bf,e14,e15] at aL aD aG aT fG;clear cH bf e14 e15;refine Wp.block ?_;refine Wp.loop (fun b ρ ds wb => AllEq [2,14,15,72] ρ r29 ∧ ds = [] ∧ (Chg [qa,qb] W wb) ∧ (∃ K : Int,ρ 73 = .int .i64 K ∧ RowF wb qa t.fl.length (fun j => dayB (onN G (60 * b) j)) ∧ RowF wb qb t.fl.length (fun j => whoB (onN G (60 * b) j)) ∧ (∃ _u : Unit,K = (b : Int)))) (2) ?_ ?_
        ·refine ⟨AllEq.refl _ _,rfl,Chg.refl _ _,?_⟩;exact ⟨0,by rw [fG],hRa.congr fun j _ => day_0 G j,hRb.congr fun j _ => who_0 G j,(),rfl⟩
        ·rintro b r30 _ wb hb ⟨hA,rfl,xl18,⟨K,e73,hRa,hRb,hq⟩⟩;obtain ⟨aa,Q,U,ae,-⟩ := hA;rw [aL] at aa;rw [aD] at Q;rw [aG] at U;rw [aT] at ae;replace hBG := hBG.chg xl18 XB;replace xw := Chg.to xw xl18 XL;replace xl5 := Chg.more xl5 xl18 (by intro b hm;simp only [List.mem_cons,List.not_mem_nil,or_false] at hm;first | (left;omega) | (right;simp [hm];done) | (rcases hm with hm | hm <;> first | (left;omega) | (right;simp [hm])));replace xl14 := Chg.more xl14 xl18 (by intro b hm;simp only [List.mem_cons,List.not_mem_nil,or_false] at hm;first | (left;omega) | (right;simp [hm];done) | (rcases hm with hm | hm <;> first | (left;omega) | (right;simp [hm])));replace C := Chg.cell xl18 C XN;replace D := Chg.cell xl18 D XN;replace E := Chg.cell xl18 E XN
         by_cases hb0 : b = 0
         ·skip;obtain rfl : K = 0 := by have := hq.choose_spec;omega
          refine sRg fun K' gd hK => ?_;go_simp;apply hK;clear hK K' gd;refine Wp.keep [2,14,15,72,73,74] ?_;rintro r31 ⟨cI,bl,bD,dr,dK,d3,-⟩;simp [go_sem,aa,Q,U,ae,e73] at cI bl bD dr dK d3;clear aa Q U ae e73;refine Wp.seq ?_;refine cTt ?_;refine skN ?_;refine sBk ?_;refine sRg fun K' gd hK => ?_;go_simp;apply hK;clear hK K' gd;refine Wp.keep [2,14,15,16,17,72,73] ?_;rintro r32 ⟨cJ,bm,bE,bU,b8,dt,dL,-⟩;simp [go_sem,cI,bl,bD,dr,dK,d3] at cJ bm bE bU b8 dt dL;clear cI bl bD dr dK d3;refine sRg fun K' gd hK => ?_;go_simp;apply hK;clear hK K' gd;refine Wp.keep [2,14,15,16,72,73,77,78,79] ?_;rintro r33 ⟨aM,aE,aH,aJ,aU,aW,aY,a0,fV,-⟩;simp [go_sem,cJ,bm,bE,bU,b8,dt,dL] at aM aE aH aJ aU aW aY a0 fV;clear cJ bm bE bU b8 dt dL;refine Wp.block ?_;refine Wp.loop (fun d ρ ds wd => AllEq [2,14,15,16,72,73,77,78] ρ r33 ∧ ds = [] ∧ (Chg [qa,qb] wb wd) ∧ (ρ 79 = .int .i64 (d : Int) ∧ RowF wd qa t.fl.length (fun j => dayB (onN G (60 * 0 + d) j)) ∧ RowF wd qb t.fl.length (fun j => whoB (onN G (60 * 0 + d) j)))) (n) ?_ ?_
          ·refine ⟨AllEq.refl _ _,rfl,Chg.refl _ _,?_⟩;exact ⟨by rw [fV];rfl,by have q := hRa;rw [hb0] at q;exact q,by have q := hRb;rw [hb0] at q;exact q⟩
          ·rintro d r34 _ wd hd ⟨hA,rfl,xl19,⟨e79,hRa,hRb⟩⟩;obtain ⟨cK,bn,bF,bV,du,dM,d8,ek,-⟩ := hA;rw [aM] at cK;rw [aE] at bn;rw [aH] at bF;rw [aJ] at bV;rw [aU] at du;rw [aW] at dM;rw [aY] at d8;rw [a0] at ek;replace hBG := hBG.chg xl19 XB;replace xw := Chg.to xw xl19 XL;replace xl5 := Chg.more xl5 xl19 (by intro b hm;simp only [List.mem_cons,List.not_mem_nil,or_false] at hm;first | (left;omega) | (right;simp [hm];done) | (rcases hm with hm | hm <;> first | (left;omega) | (right;simp [hm])));replace xl14 := Chg.more xl14 xl19 (by intro b hm;simp only [List.mem_cons,List.not_mem_nil,or_false] at hm;first | (left;omega) | (right;simp [hm];done) | (rcases hm with hm | hm <;> first | (left;omega) | (right;simp [hm])));replace xl18 := Chg.more xl18 xl19 (by intro b hm;simp only [List.mem_cons,List.not_mem_nil,or_false] at hm;first | (left;omega) | (right;simp [hm];done) | (rcases hm with hm | hm <;> first | (left;omega) | (right;simp [hm])));refine sRg fun K' gd hK => ?_;go_simp;apply hK;clear hK K' gd;refine Wp.keep [2,14,15,16,72,73,77,78,79,80] ?_;rintro r35 ⟨ab,R,V,Y,af,ah,aj,al,an,ap,-⟩;simp [go_sem,cK,bn,bF,bV,du,dM,d8,ek,e79] at ab R V Y af ah aj al an ap
           clear cK bn bF bV du dM d8 ek e79;refine Wp.seq ?_
           by_cases hdn : d < n
           ·refine cTt ?_;have d1 := hBG.a.r.c d hdn;have hkn : (d : Int) < (n : Int) := by omega
            have hon : ∃ _u : Unit,G d = G (60 * 0 + d) := ⟨(),congrArg G (by omega)⟩
            by_cases h0 : 0 ≤ G d
            ·skip;obtain ⟨i,hi⟩ : ∃ i : Nat,∃ _u : Unit,G d = (i : Int) := ⟨(G d).toNat,(),by omega⟩;have hil : i < t.fl.length := by have := (hgok.lt (60 * 0 + d)).2;have := hi.choose_spec;have := hon.choose_spec;omega
             have hii : (i : Int) < (t.fl.length : Int) := by omega
             rw [hi.choose_spec] at d1;have z1 := hRa.c i hil;have z2 := hRb.c i hil;have f1 := hRa.fz;have f2 := hRb.fz;refine skN ?_;refine sBk ?_;refine sRg fun K' gd hK => ?_;go_simp;apply hK;clear hK K' gd;refine Wp.keep [2,14,15,16,18,19,72,73,77,78,79] ?_;rintro r36 ⟨cL,bo,bG,bW,ca,cj,dv,dO,d9,el,ex,-⟩;simp [go_sem,ab,R,V,Y,af,ah,aj,al,an,ap] at cL bo bG bW ca cj dv dO d9 el ex;clear ab R V Y af ah aj al an ap;refine sRg fun K' gd hK => ?_;go_simp;apply hK;clear hK K' gd;refine Wp.keep [2,14,15,16,18,19,72,73,77,78,79,85] ?_;rintro r37 ⟨cM,bp,bH,bX,cb,ck,dw,dP,ea,em,ey,eH,-⟩;simp [go_sem,cL,bo,bG,bW,ca,cj,dv,dO,d9,el,ex] at cM bp bH bX cb ck dw dP ea em ey eH;clear cL bo bG bW ca cj dv dO d9 el ex;refine cTt ?_;refine lRg fun K' gd hK => ?_;refine cu8 fun K1 hK1 => ?_;go_simp;apply hK1;clear hK1 K1;refine Wops.absS (b := qa) (i := i) [_] (hRa.some hil) fun P1 hP1 => ?_;replace f2 := hP1.frz f2;replace hRb := hRb.put hP1 (by omega);replace xw := Put.to xw hP1 (by omega);replace xl5 := Put.more xl5 hP1 (.inl (by omega));replace xl14 := Put.more xl14 hP1 (.inl (by omega));replace xl18 := Put.more xl18 hP1 (.inr (by simp));replace xl19 := Put.more xl19 hP1 (.inr (by simp));replace z2 := hP1.cell z2 (by omega);refine cu2 fun K1 hK1 => ?_;go_simp;apply hK1;clear hK1 K1;refine Wops.absS (b := qb) (i := i) [_] (hRb.some hil) fun P2 hP2 => ?_;replace xw := Put.to xw hP2 (by omega);replace xl5 := Put.more xl5 hP2 (.inl (by omega));replace xl14 := Put.more xl14 hP2 (.inl (by omega));replace xl18 := Put.more xl18 hP2 (.inr (by simp));replace xl19 := Put.more xl19 hP2 (.inr (by simp));try simp only [Wops_nil,updO_some,updO_none]
             apply hK;clear hK K' gd;refine Ends.keep [2,14,15,16,72,73,77,78,79] ?_;rintro r38 ⟨cN,bq,bI,bY,dx,dQ,eb,en,ez,-⟩;simp [go_sem,cM,bp,bH,bX,cb,ck,dw,dP,ea,em,ey,eH] at cN bq bI bY dx dQ eb en ez;clear cM bp bH bX cb ck dw dP ea em ey eH;refine Ends.mk ?_;refine bNo ?_;refine tNo ?_;refine lRg fun K' gd hK => ?_;go_simp;apply hK;clear hK K' gd;refine Ends.keep [2,14,15,16,72,73,77,78,79] ?_;rintro r39 ⟨fe,eU,e0,e6,fA,fH,fN,fR,fW,-⟩;simp [go_sem,cN,bq,bI,bY,dx,dQ,eb,en,ez] at fe eU e0 e6 fA fH fN fR fW;clear cN bq bI bY dx dQ eb en ez;refine Ends.mk ?_;refine thenK_normal ⟨by omega,⟨by rw [fe,aM],by rw [eU,aE],by rw [e0,aH],by rw [e6,aJ],by rw [fA,aU],by rw [fH,aW],by rw [fN,aY],by rw [fR,a0],trivial⟩,rfl,xl19,?_⟩;exact ⟨by rw [fW,IntWalk.i64_in _ (by omega)];rfl,rows_next (b := 0) (by decide) (by omega) (by omega) (by rw [← hon.choose_spec];exact hi.choose_spec) hd3 hRa hRb hP1 hP2⟩
            ·skip;refine skN ?_;refine sBk ?_;refine sRg fun K' gd hK => ?_;go_simp;apply hK;clear hK K' gd;refine Wp.keep [2,14,15,16,18,19,72,73,77,78,79] ?_;rintro r40 ⟨cO,br,bJ,bZ,cd,cm,dy,dR,ec,eo,eA,-⟩;simp [go_sem,ab,R,V,Y,af,ah,aj,al,an,ap] at cO br bJ bZ cd cm dy dR ec eo eA;clear ab R V Y af ah aj al an ap;refine sRg fun K' gd hK => ?_;go_simp;apply hK;clear hK K' gd;refine Wp.keep [2,14,15,16,18,19,72,73,77,78,79,85] ?_;rintro r41 ⟨cP,bs,bK,b0,ce,cn,dA,dS,ed,ep,eB,eI,-⟩;simp [go_sem,cO,br,bJ,bZ,cd,cm,dy,dR,ec,eo,eA] at cP bs bK b0 ce cn dA dS ed ep eB eI;clear cO br bJ bZ cd cm dy dR ec eo eA;refine cFf ?_;have hst : ∃ _u : Unit,onN G (60 * 0 + (d + 1)) = onN G (60 * 0 + d) := ⟨(),onN_none (h := G) (k := 60 * 0 + d) (by rw [← hon.choose_spec];omega)⟩;refine Wp.skip ?_;refine bNo ?_;refine tNo ?_
             refine lRg fun K' gd hK => ?_;go_simp;apply hK;clear hK K' gd;refine Ends.keep [2,14,15,16,72,73,77,78,79] ?_;rintro r42 ⟨ff,eV,e1,e7,fB,fI,fO,fS,fX,-⟩;simp [go_sem,cP,bs,bK,b0,ce,cn,dA,dS,ed,ep,eB,eI] at ff eV e1 e7 fB fI fO fS fX;clear cP bs bK b0 ce cn dA dS ed ep eB eI;refine Ends.mk ?_;refine thenK_normal ⟨by omega,⟨by rw [ff,aM],by rw [eV,aE],by rw [e1,aH],by rw [e7,aJ],by rw [fB,aU],by rw [fI,aW],by rw [fO,aY],by rw [fS,a0],trivial⟩,rfl,xl19,?_⟩;exact ⟨by rw [fX,IntWalk.i64_in _ (by omega)];rfl,by rw [hst.choose_spec];exact hRa,by rw [hst.choose_spec];exact hRb⟩
           ·refine cFf ?_;have hdd : ∃ _u : Unit,onN G (60 * 0 + d) = onN G (60 * (0 + 1)) := ⟨(),by rw [show d = n by omega];exact onN_full (b := 0) hT hn60.2 hgok (by omega)⟩;refine Wp.exit ?_;refine tEx ?_;refine tEx ?_;refine blockK_here ?_;refine bNo ?_;refine tNo ?_;refine lRg fun K' gd hK => ?_;go_simp;apply hK;clear hK K' gd;refine Ends.keep [2,14,15,72,73] ?_;rintro r43 ⟨fg,eW,e2,fC,fJ,-⟩;simp [go_sem,ab,R,V,Y,af,ah,aj,al,an,ap] at fg eW e2 fC fJ;clear ab R V Y af ah aj al an ap;refine Ends.mk ?_;refine thenK_normal ⟨by omega,⟨by rw [fg,aL],by rw [eW,aD],by rw [e2,aG],by rw [fC,aT],trivial⟩,rfl,xl18,?_⟩;exact ⟨1,by rw [fJ];rfl,by rw [hb0,← hdd.choose_spec];exact hRa,by rw [hb0,← hdd.choose_spec];exact hRb,(),by omega⟩
         ·skip
          by_cases hb1 : b = 1
          ·skip;obtain rfl : K = 1 := by have := hq.choose_spec;omega
           refine sRg fun K' gd hK => ?_;go_simp;apply hK;clear hK K' gd;refine Wp.keep [2,14,15,72,73,74] ?_;rintro r44 ⟨cQ,bt,bL,dB,dT,d4,-⟩;simp [go_sem,aa,Q,U,ae,e73] at cQ bt bL dB dT d4;clear aa Q U ae e73;refine Wp.seq ?_;refine cTt ?_;refine skN ?_;refine sBk ?_;refine sRg fun K' gd hK => ?_;go_simp;apply hK;clear hK K' gd;refine Wp.keep [2,14,15,16,17,72,73] ?_;rintro r45 ⟨cR,bu,bM,b1,b9,dC,dU,-⟩;simp [go_sem,cQ,bt,bL,dB,dT,d4] at cR bu bM b1 b9 dC dU;clear cQ bt bL dB dT d4;refine sRg fun K' gd hK => ?_;go_simp;apply hK;clear hK K' gd;refine Wp.keep [2,14,15,16,72,73,77,78,79] ?_;rintro r46 ⟨aN,aF,aI,aK,aV,aX,aZ,a1,fY,-⟩;simp [go_sem,cR,bu,bM,b1,b9,dC,dU] at aN aF aI aK aV aX aZ a1 fY;clear cR bu bM b1 b9 dC dU;refine Wp.block ?_;refine Wp.loop (fun d ρ ds wd => AllEq [2,14,15,16,72,73,77,78] ρ r46 ∧ ds = [] ∧ (Chg [qa,qb] wb wd) ∧ (ρ 79 = .int .i64 (d : Int) ∧ RowF wd qa t.fl.length (fun j => dayB (onN G (60 * 1 + d) j)) ∧ RowF wd qb t.fl.length (fun j => whoB (onN G (60 * 1 + d) j)))) (n) ?_ ?_
           ·refine ⟨AllEq.refl _ _,rfl,Chg.refl _ _,?_⟩;exact ⟨by rw [fY];rfl,by have q := hRa;rw [hb1] at q;exact q,by have q := hRb;rw [hb1] at q;exact q⟩
           ·rintro d r47 _ wd hd ⟨hA,rfl,xl22,⟨e79,hRa,hRb⟩⟩;obtain ⟨cS,bv,bN,b2,dD,dV,ee,eq,-⟩ := hA;rw [aN] at cS;rw [aF] at bv;rw [aI] at bN;rw [aK] at b2;rw [aV] at dD;rw [aX] at dV;rw [aZ] at ee;rw [a1] at eq;replace hBG := hBG.chg xl22 XB;replace xw := Chg.to xw xl22 XL;replace xl5 := Chg.more xl5 xl22 (by intro b hm;simp only [List.mem_cons,List.not_mem_nil,or_false] at hm;first | (left;omega) | (right;simp [hm];done) | (rcases hm with hm | hm <;> first | (left;omega) | (right;simp [hm])));replace xl14 := Chg.more xl14 xl22 (by intro b hm;simp only [List.mem_cons,List.not_mem_nil,or_false] at hm;first | (left;omega) | (right;simp [hm];done) | (rcases hm with hm | hm <;> first | (left;omega) | (right;simp [hm])));replace xl18 := Chg.more xl18 xl22 (by intro b hm;simp only [List.mem_cons,List.not_mem_nil,or_false] at hm;first | (left;omega) | (right;simp [hm];done) | (rcases hm with hm | hm <;> first | (left;omega) | (right;simp [hm])));refine sRg fun K' gd hK => ?_;go_simp;apply hK;clear hK K' gd;refine Wp.keep [2,14,15,16,72,73,77,78,79,80] ?_;rintro r48 ⟨ac,T,X,Z,ag,ai,ak,am,ao,aq,-⟩;simp [go_sem,cS,bv,bN,b2,dD,dV,ee,eq,e79] at ac T X Z ag ai ak am ao aq
            clear cS bv bN b2 dD dV ee eq e79;refine Wp.seq ?_
            by_cases hdn : d < n
            ·refine cTt ?_;have d1 := hBG.b.r.c d hdn;have hkn : (d : Int) < (n : Int) := by omega
             have hon : ∃ _u : Unit,G (60 + d) = G (60 * 1 + d) := ⟨(),congrArg G (by omega)⟩
             by_cases h0 : 0 ≤ G (60 + d)
             ·skip;obtain ⟨i,hi⟩ : ∃ i : Nat,∃ _u : Unit,G (60 + d) = (i : Int) := ⟨(G (60 + d)).toNat,(),by omega⟩;have hil : i < t.fl.length := by have := (hgok.lt (60 * 1 + d)).2;have := hi.choose_spec;have := hon.choose_spec;omega
              have hii : (i : Int) < (t.fl.length : Int) := by omega
              rw [hi.choose_spec] at d1;have z1 := hRa.c i hil;have z2 := hRb.c i hil;have f1 := hRa.fz;have f2 := hRb.fz;refine skN ?_;refine sBk ?_;refine sRg fun K' gd hK => ?_;go_simp;apply hK;clear hK K' gd;refine Wp.keep [2,14,15,16,18,19,72,73,77,78,79] ?_;rintro r49 ⟨cT,bw,bO,b3,cf,co,dE,dW,ef,er,eC,-⟩;simp [go_sem,ac,T,X,Z,ag,ai,ak,am,ao,aq] at cT bw bO b3 cf co dE dW ef er eC;clear ac T X Z ag ai ak am ao aq;refine sRg fun K' gd hK => ?_;go_simp;apply hK;clear hK K' gd;refine Wp.keep [2,14,15,16,18,19,72,73,77,78,79,85] ?_;rintro r50 ⟨cV,bx,bP,b4,cg,cp,dF,dX,eg,es,eD,eJ,-⟩;simp [go_sem,cT,bw,bO,b3,cf,co,dE,dW,ef,er,eC] at cV bx bP b4 cg cp dF dX eg es eD eJ;clear cT bw bO b3 cf co dE dW ef er eC;refine cTt ?_;refine lRg fun K' gd hK => ?_;refine cu8 fun K1 hK1 => ?_;go_simp;apply hK1;clear hK1 K1;refine Wops.absS (b := qa) (i := i) [_] (hRa.some hil) fun P1 hP1 => ?_;replace f2 := hP1.frz f2;replace hRb := hRb.put hP1 (by omega);replace xw := Put.to xw hP1 (by omega);replace xl5 := Put.more xl5 hP1 (.inl (by omega));replace xl14 := Put.more xl14 hP1 (.inl (by omega));replace xl18 := Put.more xl18 hP1 (.inr (by simp));replace xl22 := Put.more xl22 hP1 (.inr (by simp));replace z2 := hP1.cell z2 (by omega);refine cu2 fun K1 hK1 => ?_;go_simp;apply hK1;clear hK1 K1;refine Wops.absS (b := qb) (i := i) [_] (hRb.some hil) fun P2 hP2 => ?_;replace xw := Put.to xw hP2 (by omega);replace xl5 := Put.more xl5 hP2 (.inl (by omega));replace xl14 := Put.more xl14 hP2 (.inl (by omega));replace xl18 := Put.more xl18 hP2 (.inr (by simp));replace xl22 := Put.more xl22 hP2 (.inr (by simp));try simp only [Wops_nil,updO_some,updO_none]
              apply hK;clear hK K' gd;refine Ends.keep [2,14,15,16,72,73,77,78,79] ?_;rintro r51 ⟨cW,bz,bQ,b5,dG,dY,eh,et,eE,-⟩;simp [go_sem,cV,bx,bP,b4,cg,cp,dF,dX,eg,es,eD,eJ] at cW bz bQ b5 dG dY eh et eE;clear cV bx bP b4 cg cp dF dX eg es eD eJ;refine Ends.mk ?_;refine bNo ?_;refine tNo ?_;refine lRg fun K' gd hK => ?_;go_simp;apply hK;clear hK K' gd;refine Ends.keep [2,14,15,16,72,73,77,78,79] ?_;rintro r52 ⟨fh,eX,e3,e8,fD,fK,fP,fT,fZ,-⟩;simp [go_sem,cW,bz,bQ,b5,dG,dY,eh,et,eE] at fh eX e3 e8 fD fK fP fT fZ;clear cW bz bQ b5 dG dY eh et eE;refine Ends.mk ?_;refine thenK_normal ⟨by omega,⟨by rw [fh,aN],by rw [eX,aF],by rw [e3,aI],by rw [e8,aK],by rw [fD,aV],by rw [fK,aX],by rw [fP,aZ],by rw [fT,a1],trivial⟩,rfl,xl22,?_⟩;exact ⟨by rw [fZ,IntWalk.i64_in _ (by omega)];rfl,rows_next (b := 1) (by decide) (by omega) (by omega) (by rw [← hon.choose_spec];exact hi.choose_spec) hd3 hRa hRb hP1 hP2⟩
             ·skip;refine skN ?_;refine sBk ?_;refine sRg fun K' gd hK => ?_;go_simp;apply hK;clear hK K' gd;refine Wp.keep [2,14,15,16,18,19,72,73,77,78,79] ?_;rintro r53 ⟨cX,bA,bR,b6,ch,cq,dH,dZ,ei,eu,eF,-⟩;simp [go_sem,ac,T,X,Z,ag,ai,ak,am,ao,aq] at cX bA bR b6 ch cq dH dZ ei eu eF;clear ac T X Z ag ai ak am ao aq;refine sRg fun K' gd hK => ?_;go_simp;apply hK;clear hK K' gd;refine Wp.keep [2,14,15,16,18,19,72,73,77,78,79,85] ?_;rintro r54 ⟨cY,bB,bS,b7,ci,cr,dI,d0,ej,ew,eG,eK,-⟩;simp [go_sem,cX,bA,bR,b6,ch,cq,dH,dZ,ei,eu,eF] at cY bB bS b7 ci cr dI d0 ej ew eG eK;clear cX bA bR b6 ch cq dH dZ ei eu eF;refine cFf ?_;have hst : ∃ _u : Unit,onN G (60 * 1 + (d + 1)) = onN G (60 * 1 + d) := ⟨(),onN_none (h := G) (k := 60 * 1 + d) (by rw [← hon.choose_spec];omega)⟩;refine Wp.skip ?_;refine bNo ?_;refine tNo ?_
              refine lRg fun K' gd hK => ?_;go_simp;apply hK;clear hK K' gd;refine Ends.keep [2,14,15,16,72,73,77,78,79] ?_;rintro r55 ⟨fi,eY,e4,fa,fE,fL,fQ,fU,f0,-⟩;simp [go_sem,cY,bB,bS,b7,ci,cr,dI,d0,ej,ew,eG,eK] at fi eY e4 fa fE fL fQ fU f0;clear cY bB bS b7 ci cr dI d0 ej ew eG eK;refine Ends.mk ?_;refine thenK_normal ⟨by omega,⟨by rw [fi,aN],by rw [eY,aF],by rw [e4,aI],by rw [fa,aK],by rw [fE,aV],by rw [fL,aX],by rw [fQ,aZ],by rw [fU,a1],trivial⟩,rfl,xl22,?_⟩;exact ⟨by rw [f0,IntWalk.i64_in _ (by omega)];rfl,by rw [hst.choose_spec];exact hRa,by rw [hst.choose_spec];exact hRb⟩
            ·refine cFf ?_;have hdd : ∃ _u : Unit,onN G (60 * 1 + d) = onN G (60 * (1 + 1)) := ⟨(),by rw [show d = n by omega];exact onN_full (b := 1) hT hn60.2 hgok (by omega)⟩;refine Wp.exit ?_;refine tEx ?_;refine tEx ?_;refine blockK_here ?_;refine bNo ?_;refine tNo ?_;refine lRg fun K' gd hK => ?_;go_simp;apply hK;clear hK K' gd;refine Ends.keep [2,14,15,72,73] ?_;rintro r56 ⟨fj,eZ,e5,fF,fM,-⟩;simp [go_sem,ac,T,X,Z,ag,ai,ak,am,ao,aq] at fj eZ e5 fF fM;clear ac T X Z ag ai ak am ao aq;refine Ends.mk ?_;refine thenK_normal ⟨by omega,⟨by rw [fj,aL],by rw [eZ,aD],by rw [e5,aG],by rw [fF,aT],trivial⟩,rfl,xl18,?_⟩;exact ⟨2,by rw [fM];rfl,by rw [hb1,← hdd.choose_spec];exact hRa,by rw [hb1,← hdd.choose_spec];exact hRb,(),by omega⟩
          ·skip;obtain rfl : K = 2 := by have := hq.choose_spec;omega
           have hb2 : ∃ _u : Unit,b = 2 := ⟨(),by omega⟩;have hIa : IntsB wb w.heap.size (.slice (some ⟨qa,0,none⟩) t.fl.length t.fl.length) (onB G t.fl.length) := by have q := hRa.intsB (base := w.heap.size) (c := t.fl.length) (by omega) (Nat.le_refl _);rw [hb2.choose_spec] at q;exact q
           have hIb : IntsB wb w.heap.size (.slice (some ⟨qb,0,none⟩) t.fl.length t.fl.length) (byB G t.fl.length) := by have q := hRb.intsB (base := w.heap.size) (c := t.fl.length) (by omega) (Nat.le_refl _);rw [hb2.choose_spec] at q;exact q
           have hwr : ∃ _u : Unit,wrthK t (onB G t.fl.length) t.fl.length = meritB t other := ⟨(),by rw [← hG.choose_spec];exact wrth_planB hT hn60.2⟩;have hVn : TourV w w.heap.size (.agg #[.int .i64 (n : Int),.slice A t.cl.length c,.slice A2 t.fl.length c2]) t := by have q := hV;rw [hn.choose_spec] at q;exact q
           refine sRg fun K' gd hK => ?_;go_simp;apply hK;clear hK K' gd;refine Wp.keep [2,14,15,72,73,74] ?_;rintro r57 ⟨cZ,bC,bT,dJ,d2,d5,-⟩;simp [go_sem,aa,Q,U,ae,e73] at cZ bC bT dJ d2 d5;clear aa Q U ae e73;refine Wp.seq ?_;refine cFf ?_;refine Wp.exit ?_;refine tEx ?_;refine tEx ?_;refine blockK_here ?_;refine tNo ?_;refine sRg fun K' gd hK => ?_;refine cu5 fun K1 hK1 => ?_;go_simp;refine Wcall (.inl rfl) (worthM_c t t.n.toNat (onB G t.fl.length) _ _ _ hP (hVn.ext xw) hIa.ints onB_len) ?_;rintro v w9 ⟨hv,hE⟩;rw [hwr.choose_spec] at hv;subst hv;go_simp;apply hK1;clear hK1 K1;replace hIa := hIa.ext hE;replace hIb := hIb.ext hE;replace xw := xw.trans hE;replace xl5 := Chg.ext xl5 hE;replace xl14 := Chg.ext xl14 hE;replace xl18 := Chg.ext xl18 hE;clear hE;go_simp;apply hK;clear hK K' gd;refine Wp.keep [4,5,6,7] ?_;rintro r59 ⟨fq,fv,fx,f3,-⟩;simp [go_sem,cZ,bC,bT,dJ,d2,d5] at fq fv fx f3;clear cZ bC bT dJ d2 d5;refine Wp.ret ?_;refine endK_tmp4 Tryz.results68 (by decide) (by decide) (by decide) (by decide) ?_
           rw [fq,fv,fx,f3];refine ⟨⟨_,_,by rw [hse.choose_spec,if_pos rfl],fun _ => ⟨by rw [hG.choose_spec];exact hIa,by rw [hG.choose_spec];exact hIb⟩,fun q => absurd hse.choose_spec q⟩,xw⟩
 ·skip;refine Wp.seq ?_;refine sRg fun K' gd hK => ?_;go_simp;apply hK;clear hK K' gd;refine Wp.keep [2,8,9,27] ?_;rintro r60 ⟨c3,eM,eO,cv,-⟩;simp [go_sem,ax,ay,az] at c3 eM eO cv;clear ax ay az;refine cTt ?_;refine sRg fun K' gd hK => ?_;go_simp;apply hK;clear hK K' gd;refine Wp.keep [4,5,6,7] ?_;rintro r61 ⟨fr,fw,fy,f4,-⟩;simp [go_sem,c3,eM,eO,cv] at fr fw fy f4;clear c3 eM eO cv;refine Wp.ret ?_;refine tRe ?_;refine endK_tmp4 Tryz.results68 (by decide) (by decide) (by decide) (by decide) ?_;rw [fr,fw,fy,f4];refine ⟨⟨_,_,by rw [hse.choose_spec,if_neg h0],fun q => absurd (hse.choose_spec.symm.trans q) h0,fun _ => ⟨rfl,rfl⟩⟩,xw⟩
end Go.Proofs.YtnklbepeoicgpaaGreat
namespace Go.Proofs.YtnklbepeoicgpaaGreat
open Go.RowKit Go.Wk Go.Proofs
attribute [local irreducible] Go.Wk.Wops Go.Wk.Wp Go.Wk.Mtree Go.Wk.Mops
set_option maxHeartbeats 8000000
set_option maxRecDepth 20000
theorem rin_c (a b c : Int) (w : World) : CallsV Tryz.prog 121 #[.int .i64 a,.int .i64 b,.int .i64 c] w fun v w' => v = .bool (decide (b ≤ a ∧ a ≤ c)) ∧ Ext w w' := by
 refine Wp.fn Tryz.func121 rfl Tryz.ntmps121 (by simp) ?_;have xw := Ext.refl w;refine Wp.keep [0,1,2] ?_;rintro r1 ⟨d,e,f,-⟩;simp [go_sem] at d e f
 by_cases h : b ≤ a
 ·skip;refine sRg fun K' gd hK => ?_;go_simp;apply hK;clear hK K' gd;refine Wp.keep [0,1,2] ?_;rintro r2 ⟨g,j,l,-⟩;simp [go_sem,d,e,f] at g j l;clear d e f;refine sRh fun K' gd hK hg => ?_;have g3 : gd 3 = some 10 := hg 3;clear hg;go_simp;apply hK;clear hK K' gd g3;refine Wp.keep [6] ?_;rintro r3 ⟨n,-⟩;simp [go_sem,g,j,l] at n;clear g j l;refine Wp.ret ?_;refine endK_tmp Tryz.results121 (by decide) ?_;rw [n];exact ⟨by first | (simp [h];done) | rfl,xw⟩
 ·skip;refine sRg fun K' gd hK => ?_;go_simp;apply hK;clear hK K' gd;refine Wp.keep [0,1,2] ?_;rintro r4 ⟨i,k,m,-⟩;simp [go_sem,d,e,f] at i k m;clear d e f;refine sRh fun K' gd hK hg => ?_;have g3 : gd 3 = some 10 := hg 3;clear hg;go_simp;apply hK;clear hK K' gd g3;refine Wp.keep [6] ?_;rintro r5 ⟨o,-⟩;simp [go_sem,i,k,m] at o;clear i k m;refine Wp.ret ?_;refine endK_tmp Tryz.results121 (by decide) ?_;rw [o];exact ⟨by first | (simp [h];done) | rfl,xw⟩
theorem rin_T {a b c : Int} (h : b ≤ a ∧ a ≤ c) (w : World) : CallsV Tryz.prog 121 #[.int .i64 a,.int .i64 b,.int .i64 c] w fun v w' => v = .bool true ∧ Ext w w' := (rin_c a b c w).mono fun v w' ⟨h1,h2⟩ => ⟨by rw [h1,decide_eq_true h],h2⟩
theorem rin_F {a b c : Int} (h : ¬ (b ≤ a ∧ a ≤ c)) (w : World) : CallsV Tryz.prog 121 #[.int .i64 a,.int .i64 b,.int .i64 c] w fun v w' => v = .bool false ∧ Ext w w' := (rin_c a b c w).mono fun v w' ⟨h1,h2⟩ => ⟨by rw [h1,decide_eq_false h],h2⟩
theorem rspan_c (n lo hi : Int) (cv fv : Value) (w : World) : CallsV Tryz.prog 120 #[.agg #[.int .i64 n,cv,fv],.agg #[.int .i64 lo,.int .i64 hi]] w fun v w' => v = .bool (decide (0 ≤ lo ∧ lo ≤ hi ∧ hi < n)) ∧ Ext w w' := by
 refine Wp.fn Tryz.func120 rfl Tryz.ntmps120 (by simp) ?_;have xw := Ext.refl w;refine Wp.keep [0,1] ?_;rintro r1 ⟨f,g,-⟩;simp [go_sem] at f g;refine sRg fun K' gd hK => ?_;refine cu1 fun K1 hK1 => ?_;go_simp;apply hK1;clear hK1 K1;refine Wops.absA fun o n2 d => ?_;obtain ⟨q2,d,s2,i,f2,r2⟩ := d;try simp only [q2] at i f2 r2 ⊢
 replace xw := xw.trans d;have j := i 0 _ rfl;clear i d;clear r2;refine cu1 fun K1 hK1 => ?_;go_simp;apply hK1;clear hK1 K1;refine Wops.absA fun p n3 c => ?_;obtain ⟨q3,c,s3,e,f3,r3⟩ := c;try simp only [q3] at e f3 r3 ⊢
 replace xw := xw.trans c;replace j := c.cell j;have q := e 0 _ rfl;have r := e 1 _ rfl;clear e c;clear r3;go_simp;apply hK;clear hK K' gd;refine Wp.keep [2,3] ?_;rintro r2 ⟨a,b,-⟩;simp [go_sem,f,g] at a b;clear f g
 by_cases h : 0 ≤ lo
 ·skip
  by_cases h2 : lo ≤ hi
  ·skip;refine sRh fun K' gd hK hg => ?_;have g3 : gd 3 = some 8 := hg 3;have g10 : gd 10 = some 15 := hg 10;clear hg;go_simp;apply hK;clear hK K' gd g3 g10;refine Wp.keep [4] ?_;rintro r3 ⟨k,-⟩;simp [go_sem,a,b] at k;clear a b;refine Wp.ret ?_;refine endK_tmp Tryz.results120 (by decide) ?_;rw [k];exact ⟨by first | (simp [h,h2];done) | rfl,xw⟩
  ·skip;refine sRh fun K' gd hK hg => ?_;have g3 : gd 3 = some 8 := hg 3;have g10 : gd 10 = some 15 := hg 10;clear hg;go_simp;apply hK;clear hK K' gd g3 g10;refine Wp.keep [4] ?_;rintro r4 ⟨l,-⟩;simp [go_sem,a,b] at l;clear a b;refine Wp.ret ?_;refine endK_tmp Tryz.results120 (by decide) ?_;rw [l];exact ⟨by first | (simp [h,h2];done) | rfl,xw⟩
 ·skip;refine sRh fun K' gd hK hg => ?_;have g3 : gd 3 = some 8 := hg 3;have g10 : gd 10 = some 15 := hg 10;clear hg;go_simp;apply hK;clear hK K' gd g3 g10;refine Wp.keep [4] ?_;rintro r5 ⟨m,-⟩;simp [go_sem,a,b] at m;clear a b;refine Wp.ret ?_;refine endK_tmp Tryz.results120 (by decide) ?_;rw [m];exact ⟨by first | (simp [h];done) | rfl,xw⟩
theorem rspan_T {n lo hi : Int} {cv fv : Value} (h : 0 ≤ lo ∧ lo ≤ hi ∧ hi < n) (w : World) : CallsV Tryz.prog 120 #[.agg #[.int .i64 n,cv,fv],.agg #[.int .i64 lo,.int .i64 hi]] w fun v w' => v = .bool true ∧ Ext w w' := (rspan_c n lo hi cv fv w).mono fun v w' ⟨h1,h2⟩ => ⟨by rw [h1,decide_eq_true h],h2⟩
theorem rspan_F {n lo hi : Int} {cv fv : Value} (h : ¬ (0 ≤ lo ∧ lo ≤ hi ∧ hi < n)) (w : World) : CallsV Tryz.prog 120 #[.agg #[.int .i64 n,cv,fv],.agg #[.int .i64 lo,.int .i64 hi]] w fun v w' => v = .bool false ∧ Ext w w' := (rspan_c n lo hi cv fv w).mono fun v w' ⟨h1,h2⟩ => ⟨by rw [h1,decide_eq_false h],h2⟩
theorem rhas_c (x : Value) (xs : List Int) (d : Int) (w : World) (hx : IntsV w w.heap.size x xs) (hl : xs.length ≤ 1000000000000000) :
  CallsV Tryz.prog 133 #[x,.int .i64 d] w fun v w' => v = .bool (decide (d ∈ xs)) ∧ Ext w w' := by
 obtain ⟨A,c,rfl,-,-⟩ := id hx;refine Wp.fn Tryz.func133 rfl Tryz.ntmps133 (by simp) ?_;have xw := Ext.refl w;refine Wp.keep [0,1] ?_;rintro r1 ⟨i,s,-⟩;simp [go_sem] at i s;refine sRg fun K' gd hK => ?_;go_simp;apply hK;clear hK K' gd;refine Wp.keep [0,1] ?_;rintro r2 ⟨j,t,-⟩;simp [go_sem,i,s] at j t;clear i s;refine Wp.seq ?_;refine sRg fun K' gd hK => ?_;go_simp;apply hK;clear hK K' gd;refine Wp.keep [0,1,5] ?_;rintro r3 ⟨l,u,I,-⟩;simp [go_sem,j,t] at l u I;clear j t;refine Wp.block ?_;refine Wp.loop (fun k ρ ds wk => AllEq [0,1] ρ r3 ∧ ds = [] ∧ (Ext w wk) ∧ (ρ 5 = .int .i64 (k : Int) ∧ d ∉ xs.take k)) (xs.length) ?_ ?_
 ·refine ⟨AllEq.refl _ _,rfl,Ext.refl _,?_⟩;exact ⟨by rw [I];rfl,by simp⟩
 ·rintro k r4 _ wk hk ⟨hA,rfl,xl1,⟨e5,hn⟩⟩;obtain ⟨m,y,-⟩ := hA;rw [l] at m;rw [u] at y;replace xw := Ext.trans xw xl1;refine Wp.seq ?_;refine sRg fun K' gd hK => ?_;go_simp;apply hK;clear hK K' gd;refine Wp.keep [0,1,5,9] ?_;rintro r5 ⟨a,e,f,g,-⟩;simp [go_sem,m,y,e5] at a e f g;clear m y e5
  by_cases h : k < xs.length
  ·refine cTt ?_;obtain ⟨b,o,c5,e1,hb,hc⟩ := hx.get h
   injection e1 with e1 _ e2
   subst e1;subst e2;have d1 := xw.cell (hc k h);rw [gI_lt h] at d1;clear hc
   by_cases h1 : xs[k] = d
   ·skip;refine skN ?_;refine sBk ?_;refine sRg fun K' gd hK => ?_;go_simp;apply hK;clear hK K' gd;refine Wp.keep [0,1,5,17] ?_;rintro r6 ⟨n,z,C,q,-⟩;simp [go_sem,a,e,f,g] at n z C q;clear a e f g;refine cTt ?_;refine sRg fun K' gd hK => ?_;go_simp;apply hK;clear hK K' gd;refine Wp.keep [4] ?_;rintro r7 ⟨H,-⟩;simp [go_sem,n,z,C,q] at H;clear n z C q;refine Wp.ret ?_;refine bRe ?_;refine tRe ?_;refine tRe ?_;refine bRe ?_;refine tRe ?_;refine endK_tmp Tryz.results133 (by decide) ?_;rw [H];exact ⟨by rw [decide_eq_true (show d ∈ xs by rw [← h1];exact List.getElem_mem h)],xw⟩
   ·skip;refine skN ?_;refine sBk ?_;refine sRg fun K' gd hK => ?_;go_simp;apply hK;clear hK K' gd;refine Wp.keep [0,1,5,17] ?_;rintro r8 ⟨p,B,D,r,-⟩;simp [go_sem,a,e,f,g] at p B D r;clear a e f g;refine cFf ?_;refine Wp.skip ?_;refine bNo ?_;refine tNo ?_;refine lRg fun K' gd hK => ?_;go_simp;apply hK;clear hK K' gd;refine Ends.keep [0,1,5] ?_;rintro r9 ⟨E,F,J,-⟩;simp [go_sem,p,B,D,r] at E F J;clear p B D r;refine Ends.mk ?_;refine thenK_normal ⟨by omega,⟨by rw [E,l],by rw [F,u],trivial⟩,rfl,xl1,?_⟩;exact ⟨by rw [J,IntWalk.i64_in _ (by omega)];rfl,by rw [take_snoc h,List.mem_append,List.mem_singleton];rintro (h2 | h2);exact hn h2;exact h1 h2.symm⟩
  ·refine cFf ?_;obtain rfl : k = xs.length := by omega
   rw [List.take_length] at hn;refine Wp.exit ?_;refine tEx ?_;refine tEx ?_;refine blockK_here ?_;refine tNo ?_;refine sRg fun K' gd hK => ?_;go_simp;apply hK;clear hK K' gd;refine Wp.keep [4] ?_;rintro r10 ⟨G,-⟩;simp [go_sem,a,e,f,g] at G;clear a e f g;refine Wp.ret ?_;refine endK_tmp Tryz.results133 (by decide) ?_;rw [G];exact ⟨by rw [decide_eq_false hn],xw⟩
theorem rflaw_c (t : Tr) (id : Int) (v : Value) (w : World) (hV : TourV w w.heap.size v t) (hl : t.fl.length ≤ 1000000000) :
  CallsV Tryz.prog 111 #[v,.int .i64 id] w fun v' w' => v' = .int .i64 (posF t.fl id) ∧ Ext w w' := by
 obtain ⟨A,c,A2,c2,rfl,hI,hF⟩ := hV.open';have hFS : FlawsS w w.heap.size (.slice A2 t.fl.length c2) t.fl := ⟨hF⟩;clear hV hI hF;refine Wp.fn Tryz.func111 rfl Tryz.ntmps111 (by simp) ?_;have xw := Ext.refl w;refine Wp.keep [0,1] ?_;rintro r1 ⟨l,m,-⟩;simp [go_sem] at l m;refine sRg fun K' gd hK => ?_;refine cu1 fun K1 hK1 => ?_;go_simp;apply hK1;clear hK1 K1;refine Wops.absA fun P n2 i => ?_;obtain ⟨q2,i,s2,H,f2,r2⟩ := i;try simp only [q2] at H f2 r2 ⊢
 replace hFS := hFS.ext i;replace xw := xw.trans i;have I := H 2 _ rfl;clear H i;clear r2;go_simp;apply hK;clear hK K' gd;refine Wp.keep [1,2] ?_;rintro r2 ⟨n,z,-⟩;simp [go_sem,l,m] at n z;clear l m;refine Wp.seq ?_;refine sRg fun K' gd hK => ?_;go_simp;apply hK;clear hK K' gd;refine Wp.keep [1,2,5] ?_;rintro r3 ⟨p,B,N,-⟩;simp [go_sem,n,z] at p B N;clear n z;refine Wp.block ?_;refine Wp.loop (fun k ρ ds wk => AllEq [1,2] ρ r3 ∧ ds = [] ∧ (Ext P wk) ∧ (ρ 5 = .int .i64 (k : Int) ∧ (∃ _u : Unit,∀ j (hj : j < t.fl.length),j < k → t.fl[j].id ≠ id))) (t.fl.length) ?_ ?_
 ·refine ⟨AllEq.refl _ _,rfl,Ext.refl _,?_⟩;exact ⟨by rw [N];rfl,(),fun j _ hj => absurd hj (Nat.not_lt_zero _)⟩
 ·rintro k r4 _ wk hk ⟨hA,rfl,xl2,⟨e5,hn⟩⟩;obtain ⟨q,C,-⟩ := hA;rw [p] at q;rw [B] at C;replace hFS := hFS.ext xl2;replace xw := Ext.trans xw xl2;replace I := Ext.cell xl2 I;refine Wp.seq ?_;refine sRg fun K' gd hK => ?_;go_simp;apply hK;clear hK K' gd;refine Wp.keep [1,2,5,10] ?_;rintro r5 ⟨d,f,g,a,-⟩;simp [go_sem,q,C,e5] at d f g a;clear q C e5
  by_cases h : k < t.fl.length
  ·refine cTt ?_;obtain ⟨b,o,eA,hb,x0,x1,x2,x3⟩ := FlawsV.at hFS.v h;subst eA;have hkl : (k : Int) < (t.fl.length : Int) := by omega
   by_cases he : t.fl[k].id = id
   ·skip;refine skN ?_;refine sBk ?_;refine sRg fun K' gd hK => ?_;go_simp;apply hK;clear hK K' gd;refine Wp.keep [1,2,5,20] ?_;rintro r6 ⟨s,D,F,x,-⟩;simp [go_sem,d,f,g,a] at s D F x;clear d f g a;refine cTt ?_;refine sRg fun K' gd hK => ?_;go_simp;apply hK;clear hK K' gd;refine Wp.keep [4] ?_;rintro r7 ⟨M,-⟩;simp [go_sem,s,D,F,x] at M;clear s D F x;refine Wp.ret ?_;refine bRe ?_;refine tRe ?_;refine tRe ?_;refine bRe ?_;refine tRe ?_;refine endK_tmp Tryz.results111 (by decide) ?_;rw [M];exact ⟨by rw [← FindP.eq (fl := t.fl) (id := id) (r := (k : Int)) (.inl ⟨k,rfl,h,he,fun j hj => hn.choose_spec j (by omega) hj⟩)],xw⟩
   ·skip;refine skN ?_;refine sBk ?_;refine sRg fun K' gd hK => ?_;go_simp;apply hK;clear hK K' gd;refine Wp.keep [1,2,5,20] ?_;rintro r8 ⟨u,E,G,y,-⟩;simp [go_sem,d,f,g,a] at u E G y;clear d f g a;refine cFf ?_;refine Wp.skip ?_;refine bNo ?_;refine tNo ?_;refine lRg fun K' gd hK => ?_;go_simp;apply hK;clear hK K' gd;refine Ends.keep [1,2,5] ?_;rintro r9 ⟨J,K,O,-⟩;simp [go_sem,u,E,G,y] at J K O;clear u E G y;refine Ends.mk ?_;refine thenK_normal ⟨by omega,⟨by rw [J,p],by rw [K,B],trivial⟩,rfl,xl2,?_⟩;exact ⟨by rw [O,IntWalk.i64_in _ (by omega)];rfl,(),fun j hj hk => by by_cases e : j = k;(subst e;exact he);exact hn.choose_spec j hj (by omega)⟩
  ·refine cFf ?_;refine Wp.exit ?_;refine tEx ?_;refine tEx ?_;refine blockK_here ?_;refine tNo ?_;refine sRg fun K' gd hK => ?_;go_simp;apply hK;clear hK K' gd;refine Wp.keep [4] ?_;rintro r10 ⟨L,-⟩;simp [go_sem,d,f,g,a] at L;clear d f g a;refine Wp.ret ?_;refine endK_tmp Tryz.results111 (by decide) ?_;rw [L];exact ⟨by rw [← FindP.eq (fl := t.fl) (id := id) (r := -1) (.inr ⟨rfl,fun j hj => hn.choose_spec j hj (by omega)⟩)],xw⟩
theorem rmay_c (t : Tr) (f : Fl) (d : Int) (v : Value) (w : World) (hV : TourV w w.heap.size v t) (hl : t.cl.length ≤ 1000000000000000) :
  CallsV Tryz.prog 112 #[v,flV f,.int .i64 d] w fun v' w' => v' = .bool (okDay t f.lo f.hi d) ∧ Ext w w' := by
 obtain ⟨A,c,A2,c2,rfl,hI,hF⟩ := hV.open';have hIS : IntsS w w.heap.size (.slice A t.cl.length c) t.cl := ⟨hI⟩;clear hV hI hF;unfold flV;refine Wp.fn Tryz.func112 rfl Tryz.ntmps112 (by simp) ?_;have xw := Ext.refl w;refine Wp.keep [0,1,2] ?_;rintro r1 ⟨l,m,n,-⟩;simp [go_sem] at l m n;refine sRg fun K' gd hK => ?_;refine cu1 fun K1 hK1 => ?_;go_simp;apply hK1;clear hK1 K1;refine Wops.absA fun s n3 i => ?_;obtain ⟨q3,i,s3,o,f3,r3⟩ := i;try simp only [q3] at o f3 r3 ⊢
 replace hIS := hIS.ext i;replace xw := xw.trans i;have j := o 1 _ rfl;clear o i;clear r3;refine cu1 fun K1 hK1 => ?_;go_simp;apply hK1;clear hK1 K1;refine Wops.absA fun u n4 a => ?_;obtain ⟨q4,a,s4,k,f4,r4⟩ := a;try simp only [q4] at k f4 r4 ⊢
 replace hIS := hIS.ext a;replace xw := xw.trans a;replace j := a.cell j;have x := k 1 _ rfl;have y := k 2 _ rfl;clear k a;clear r4;go_simp;apply hK;clear hK K' gd;refine Wp.keep [2,3,4] ?_;rintro r2 ⟨b,e,g,-⟩;simp [go_sem,l,m,n] at b e g;clear l m n
 by_cases h : f.lo ≤ d ∧ d ≤ f.hi
 ·skip;refine sRh fun K' gd hK hg => ?_;have g8 : gd 8 = some 15 := hg 8;clear hg;refine cu8 fun K1 hK1 => ?_;go_simp;refine Wcall (.inl rfl) (rin_T h _) ?_;rintro v w2 ⟨rfl,hE⟩;go_simp;apply hK1;clear hK1 K1;replace hIS := hIS.ext hE;replace xw := xw.trans hE;replace j := hE.cell j;clear hE;refine cu5 fun K1 hK1 => ?_;go_simp;refine Wcall (.inl rfl) (rhas_c _ t.cl d _ (hIS.v.more (Below.size (XE))) hl) ?_;rintro v w3 ⟨rfl,hE⟩;go_simp;apply hK1;clear hK1 K1;replace xw := xw.trans hE;clear hE;go_simp;apply hK;clear hK K' gd g8;refine Wp.keep [6] ?_;rintro r5 ⟨p,-⟩;simp [go_sem,b,e,g] at p;clear b e g;refine Wp.ret ?_;refine endK_tmp Tryz.results112 (by decide) ?_;rw [p];exact ⟨by first | (unfold okDay;simp [h];done) | (unfold okDay;rfl),xw⟩
 ·skip;refine sRh fun K' gd hK hg => ?_;have g8 : gd 8 = some 15 := hg 8;clear hg;refine cu8 fun K1 hK1 => ?_;go_simp;refine Wcall (.inl rfl) (rin_F h _) ?_;rintro v w2 ⟨rfl,hE⟩;go_simp;apply hK1;clear hK1 K1;replace xw := xw.trans hE;clear hE;refine cu5 fun K1 hK1 => ?_;go_simp;apply hK1;clear hK1 K1;go_simp;apply hK;clear hK K' gd g8;refine Wp.keep [6] ?_;rintro r7 ⟨r,-⟩;simp [go_sem,b,e,g] at r;clear b e g;refine Wp.ret ?_;refine endK_tmp Tryz.results112 (by decide) ?_;rw [r];exact ⟨by unfold okDay;rw [decide_eq_false fun q => h q.1],xw⟩
end Go.Proofs.YtnklbepeoicgpaaGreat
