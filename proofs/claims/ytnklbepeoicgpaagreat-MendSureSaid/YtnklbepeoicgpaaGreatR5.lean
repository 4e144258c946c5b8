/- What the greatest plan is worth: other names of the flaws, fewer days, a day that is taken. What a tour's best mending is worth: the greatest plan; with a day closed or open, without flaws, on a day. Days for the flaws and plans; spans that prove a mending. Plain laws of the best mending: exchange, parts, gains, days. Plain law of a further flaw. Plain laws at right tours: gains, wider days, places of flaws. Plain laws of parts: flaws of a list, and a turned order. Plain laws of days: Earliest is a best mending; its first day. The document's small functions. The document's Check, lists and jam -/
import Derived.Test.YtnklbepeoicgpaaGreatR3
import Derived.Test.YtnklbepeoicgpaaGreatR4
import Derived.Test.YtnklbepeoicgpaaGreatR1
set_option linter.all false
namespace Go.Proofs.YtnklbepeoicgpaaGreat
theorem cntN_le_one {h : Nat → Int} {j : Int} : ∀ {n : Nat},(∀ d e,d < n → e < n → h d = j → h e = j → d = e) → cntN h j n ≤ 1
 | 0,_ => by show (0 : Int) ≤ 1;decide
 | n + 1,q => by
   rw [cntN_S]
   by_cases e : h n = j
   ·rw [if_pos e,cntN_of_zero fun d hd hj => by have := q d n (by omega) (by omega) hj e;omega];decide
   ·rw [if_neg e,Int.add_zero];exact cntN_le_one fun d e hd he => q d e (by omega) (by omega)
section
variable {N N' : Int → List Nat} {n m m' i d : Nat} {W W' : Int → Int} {v v' : Int} {g p : Nat → Int}
theorem OkP.inj (h : OkP N n m g) {d e : Nat} (hd : d < n) (he : e < n) (h0 : 0 ≤ g d) (q : g d = g e) : d = e := by
 obtain ⟨j,hj⟩ : ∃ j : Nat,g d = (j : Int) := ⟨(g d).toNat,by omega⟩;exact cntN_two (h.one j) hd he hj (by omega)
theorem OkP.of (lt : ∀ d,-1 ≤ p d ∧ p d < m) (day : ∀ d,d < n → 0 ≤ p d → d ∈ N (p d)) (inj : ∀ d e,d < n → e < n → 0 ≤ p d → p d = p e → d = e) : OkP N n m p :=
 ⟨lt,day,fun j => cntN_le_one fun d e hd he h1 h2 => inj d e hd he (by omega) (by omega)⟩
theorem OkP.sub (h : OkP N n m g) (hN : ∀ d,d < n → 0 ≤ g d → d ∈ N (g d) → d ∈ N' (g d)) : OkP N' n m g := ⟨h.lt,fun d hd h0 => hN d hd h0 (h.day d hd h0),h.one⟩
theorem OkP.at' (h : OkP N n m g) {d : Nat} (h0 : 0 ≤ g d) : ∃ j : Nat,g d = (j : Int) ∧ j < m := ⟨(g d).toNat,by omega,by have := (h.lt d).2;omega⟩
theorem worth_eq (n : Nat) (h : ∀ d,d < n → (0 ≤ g d ↔ 0 ≤ p d) ∧ (0 ≤ g d → W (g d) = W' (p d))) : worthW W g n = worthW W' p n := sumN_eq n fun d hd => by
 obtain ⟨h1,h2⟩ := h d hd
 by_cases h0 : 0 ≤ g d
 ·rw [if_pos h0,if_pos (h1.1 h0),h2 h0]
 ·rw [if_neg h0,if_neg fun q => h0 (h1.2 q)]
theorem worth_W (n : Nat) (h : ∀ d,d < n → 0 ≤ g d → W (g d) ≤ W' (g d)) : worthW W g n ≤ worthW W' g n := sumN_le n fun d hd => by
 by_cases h0 : 0 ≤ g d
 ·rw [if_pos h0,if_pos h0];exact h d hd h0
 ·rw [if_neg h0,if_neg h0];exact Int.le_refl _
theorem worth_no : ∀ n,worthW W noPlan n = 0
 | 0 => rfl
 | n + 1 => by show worthW W noPlan n + _ = 0;rw [worth_no n];rfl
theorem worth_upd {x : Int} : ∀ {n : Nat},d < n → worthW W (updI g d x) n = worthW W g n - (if 0 ≤ g d then W (g d) else 0) + if 0 ≤ x then W x else 0
 | 0,hd => absurd hd (Nat.not_lt_zero _)
 | n + 1,hd => by
   show worthW W (updI g d x) n + (if 0 ≤ updI g d x n then W (updI g d x n) else 0) = worthW W g n + (if 0 ≤ g n then W (g n) else 0) - _ + _
   by_cases e : n = d
   ·subst e;have : worthW W (updI g n x) n = worthW W g n := sumN_eq n fun d hd => by have e : updI g n x d = g d := if_neg (show ¬ d = n by omega);rw [e]
    rw [this];have e : updI g n x n = x := if_pos rfl;rw [e];omega
   ·rw [worth_upd (n := n) (by omega)];have e : updI g d x n = g n := if_neg e;rw [e];omega
structure IsOpt (N : Int → List Nat) (n m : Nat) (W : Int → Int) (v : Int) : Prop where
 ex : ∃ h,OkP N n m h ∧ worthW W h n = v
 le : ∀ g,OkP N n m g → worthW W g n ≤ v
theorem IsOpt.eq (h : IsOpt N n m W v) (h' : IsOpt N n m W v') : v = v' := by
 obtain ⟨g,g1,g2⟩ := h.ex;obtain ⟨k,k1,k2⟩ := h'.ex;have := h.le k k1;have := h'.le g g1;omega
theorem IsOpt.pos (h : IsOpt N n m W v) : 0 ≤ v := by
 have := h.le noPlan noPlan_ok
 rwa [worth_no] at this
theorem IsOpt.congr (h : IsOpt N n m W v) (hN : ∀ j : Nat,j < m → ∀ d,d < n → (d ∈ N j ↔ d ∈ N' j)) (hW : ∀ j : Nat,j < m → W j = W' j) : IsOpt N' n m W' v := by
 have e : ∀ g,OkP N n m g → worthW W g n = worthW W' g n := fun g hg => worth_eq n fun d hd => ⟨Iff.rfl,fun h0 => by
  obtain ⟨j,hj,hjm⟩ := hg.at' h0
  rw [hj];exact hW j hjm⟩
 have s : ∀ g,OkP N' n m g → OkP N n m g := fun g hg => hg.sub fun d hd h0 hm => by
  obtain ⟨j,hj,hjm⟩ := hg.at' h0;rw [hj] at hm ⊢;exact (hN j hjm d hd).2 hm
 obtain ⟨g,g1,g2⟩ := h.ex
 exact ⟨⟨g,g1.sub fun d hd h0 hm => by
  obtain ⟨j,hj,hjm⟩ := g1.at' h0
  rw [hj] at hm ⊢;exact (hN j hjm d hd).1 hm,by rw [← e g g1];exact g2⟩,fun k hk => by rw [← e k (s k hk)];exact h.le k (s k hk)⟩
theorem IsOpt.mono (h : IsOpt N n m W v) (h' : IsOpt N' n m W' v') (hN : ∀ j : Nat,j < m → ∀ d,d < n → d ∈ N j → d ∈ N' j) (hW : ∀ j : Nat,j < m → W j ≤ W' j) : v ≤ v' := by
 obtain ⟨g,g1,g2⟩ := h.ex
 have q := h'.le g (g1.sub fun d hd h0 hm => by
  obtain ⟨j,hj,hjm⟩ := g1.at' h0
  rw [hj] at hm ⊢;exact hN j hjm d hd hm)
 have := worth_W (W := W) (W' := W') (g := g) n fun d hd h0 => by
  obtain ⟨j,hj,hjm⟩ := g1.at' h0;rw [hj];exact hW j hjm
 omega
theorem IsOpt.emb {f : Nat → Nat} (finj : ∀ a b,a < m' → b < m' → f a = f b → a = b) (flt : ∀ a,a < m' → f a < m) (fN : ∀ a : Nat,a < m' → ∀ d,d < n → (d ∈ N' a ↔ d ∈ N (f a : Nat))) (fW : ∀ a : Nat,a < m' → W' a = W (f a : Nat))
  (hout : ∀ j : Nat,j < m → (∀ a,a < m' → f a ≠ j) → N j = []) (h : IsOpt N' n m' W' v) : IsOpt N n m W v := by
 refine ⟨?_,fun g hg => ?_⟩
 ·obtain ⟨g,g1,g2⟩ := h.ex
  let p : Nat → Int := fun d => if 0 ≤ g d then (f (g d).toNat : Nat) else -1
  have key : ∀ d,0 ≤ g d → ∃ a : Nat,g d = (a : Int) ∧ a < m' ∧ p d = (f a : Nat) := fun d h0 => by
   obtain ⟨a,ha,ham⟩ := g1.at' h0;refine ⟨a,ha,ham,?_⟩
   show (if 0 ≤ g d then ((f (g d).toNat : Nat) : Int) else -1) = _
   rw [if_pos h0,ha,Int.toNat_natCast]
  have no : ∀ d,¬ 0 ≤ g d → p d = -1 := fun d h0 => if_neg h0
  have bk : ∀ d,0 ≤ p d → 0 ≤ g d := fun d h => by
   by_cases h0 : 0 ≤ g d
   ·exact h0
   ·have := no d h0;omega
  refine ⟨p,OkP.of (fun d => ?_) (fun d hd h0 => ?_) (fun d e hd he h0 q => ?_),?_⟩
  ·by_cases h0 : 0 ≤ g d
   ·obtain ⟨a,-,ham,e⟩ := key d h0;have := flt a ham;omega
   ·have := no d h0;omega
  ·obtain ⟨a,ea,ham,e⟩ := key d (bk d h0);rw [e];have := g1.day d hd (bk d h0);rw [ea] at this;exact (fN a ham d hd).1 this
  ·obtain ⟨a,ea,ham,e1⟩ := key d (bk d h0);obtain ⟨b,eb,hbm,e2⟩ := key e (bk e (by omega));have := finj a b ham hbm (by omega);subst this;exact g1.inj hd he (by omega) (by omega)
  ·rw [← g2];refine (worth_eq n fun d hd => ⟨⟨fun h0 => ?_,bk d⟩,fun h0 => ?_⟩).symm
   ·obtain ⟨a,-,-,e⟩ := key d h0;omega
   ·obtain ⟨a,ea,ham,e⟩ := key d h0;rw [ea,e];exact fW a ham
 ·have ch : ∀ d : Nat,∃ x : Int,(d < n ∧ 0 ≤ g d ∧ ∃ a : Nat,a < m' ∧ x = a ∧ g d = (f a : Nat)) ∨ (¬ (d < n ∧ 0 ≤ g d) ∧ x = -1) := fun d => by
   by_cases h0 : d < n ∧ 0 ≤ g d
   ·obtain ⟨j,hj,hjm⟩ := hg.at' h0.2
    by_cases hex : ∃ a,a < m' ∧ f a = j
    ·obtain ⟨a,ha,rfl⟩ := hex;exact ⟨a,.inl ⟨h0.1,h0.2,a,ha,rfl,hj⟩⟩
    ·exfalso
     have := hg.day d h0.1 h0.2;rw [hj,hout j hjm fun a ha e => hex ⟨a,ha,e⟩] at this
     cases this
   ·exact ⟨-1,.inr ⟨h0,rfl⟩⟩
  obtain ⟨p,hp⟩ := Classical.axiomOfChoice ch
  have q := h.le p (OkP.of (fun d => by
   rcases hp d with ⟨-,-,a,ha,e,-⟩ | ⟨-,e⟩ <;> omega) (fun d hd h0 => by
   rcases hp d with ⟨-,h1,a,ha,e,e2⟩ | ⟨-,e⟩
   ·rw [e];have := hg.day d hd h1;rw [e2] at this;exact (fN a ha d hd).2 this
   ·omega) (fun d e hd he h0 q => by
   rcases hp d with ⟨-,h1,a,ha,e1,e2⟩ | ⟨-,e1⟩
   ·rcases hp e with ⟨-,h1',b,hb,e1',e2'⟩ | ⟨-,e1'⟩
    ·obtain rfl : a = b := by omega
     exact hg.inj hd he h1 (by omega)
    ·omega
   ·omega))
  have e : worthW W g n = worthW W' p n := worth_eq n fun d hd => by
   rcases hp d with ⟨-,h1,a,ha,e1,e2⟩ | ⟨h1,e1⟩
   ·refine ⟨⟨fun _ => by omega,fun _ => h1⟩,fun _ => ?_⟩;rw [e1,e2];exact (fW a ha).symm
   ·exact ⟨⟨fun h0 => absurd ⟨hd,h0⟩ h1,fun h0 => by omega⟩,fun h0 => absurd ⟨hd,h0⟩ h1⟩
  omega
def shutN (N : Int → List Nat) (d : Nat) : Int → List Nat := fun j => (N j).filter fun e => !decide (e = d)
def dropN (N : Int → List Nat) (i : Int) : Int → List Nat := fun j => if j = i then [] else N j
theorem shutN_mem {N : Int → List Nat} {d e : Nat} {j : Int} : e ∈ shutN N d j ↔ e ∈ N j ∧ e ≠ d := by unfold shutN;rw [List.mem_filter];simp
theorem dropN_mem {N : Int → List Nat} {i j : Int} {e : Nat} : e ∈ dropN N i j ↔ j ≠ i ∧ e ∈ N j := by
 unfold dropN
 by_cases q : j = i
 ·rw [if_pos q];simp [q]
 ·rw [if_neg q];simp [q]
theorem updI_cases (g : Nat → Int) (d : Nat) (x : Int) (e : Nat) : (e = d ∧ updI g d x e = x) ∨ (e ≠ d ∧ updI g d x e = g e) := by
 by_cases q : e = d
 ·exact .inl ⟨q,if_pos q⟩
 ·exact .inr ⟨q,if_neg q⟩
theorem OkP.free (h : OkP N n m g) (d : Nat) : OkP (shutN N d) n m (updI g d (-1)) := by
 refine OkP.of (fun e => ?_) (fun e he h0 => ?_) (fun e k he hk h0 q => ?_)
 ·rcases updI_cases g d (-1) e with ⟨-,e1⟩ | ⟨-,e1⟩ <;> rw [e1]
  ·omega
  ·exact h.lt e
 ·rcases updI_cases g d (-1) e with ⟨-,e1⟩ | ⟨ne,e1⟩ <;> rw [e1] at h0 ⊢
  ·omega
  ·exact shutN_mem.2 ⟨h.day e he h0,ne⟩
 ·rcases updI_cases g d (-1) e with ⟨-,e1⟩ | ⟨ne,e1⟩ <;> rw [e1] at h0 q
  ·omega
  ·rcases updI_cases g d (-1) k with ⟨-,e2⟩ | ⟨nk,e2⟩ <;> rw [e2] at q
   ·omega
   ·exact h.inj he hk h0 q
theorem IsOpt.shut (h : IsOpt N n m W v) (h' : IsOpt (shutN N d) n m W v') (hd : d < n) {c : Int} (hW : ∀ j : Nat,j < m → W j ≤ c) (hc : 0 ≤ c) : v' ≤ v ∧ v ≤ v' + c := by
 refine ⟨h'.mono h (fun j _ e _ hm => (shutN_mem.1 hm).1) fun _ _ => Int.le_refl _,?_⟩;obtain ⟨g,g1,g2⟩ := h.ex;have q := h'.le _ (g1.free d);rw [worth_upd hd,if_neg (show ¬ (0 : Int) ≤ -1 by decide)] at q
 by_cases h0 : 0 ≤ g d
 ·rw [if_pos h0] at q;obtain ⟨j,hj,hjm⟩ := g1.at' h0;rw [hj] at q;have := hW j hjm;omega
 ·rw [if_neg h0] at q;omega
theorem IsOpt.fix (h' : IsOpt (shutN (dropN N i) d) n m W v') (hi : i < m) (hd : d < n) (hdN : d ∈ N i) :
  (∀ g,OkP N n m g → g d = (i : Int) → worthW W g n ≤ W i + v') ∧ ∃ g,OkP N n m g ∧ g d = (i : Int) ∧ worthW W g n = W i + v' := by
 constructor
 ·intro g hg e
  have q := h'.le (updI g d (-1)) ((hg.free d).sub fun k hk h0 hm => by
   rcases updI_cases g d (-1) k with ⟨-,e1⟩ | ⟨ne,e1⟩ <;> rw [e1] at h0 hm ⊢
   ·omega
   ·obtain ⟨h1,h2⟩ := shutN_mem.1 hm
    exact shutN_mem.2 ⟨dropN_mem.2 ⟨fun q => ne (hg.inj hk hd h0 (by omega)),h1⟩,h2⟩)
  rw [worth_upd hd,if_neg (show ¬ (0 : Int) ≤ -1 by decide),e,if_pos (Int.natCast_nonneg i)] at q;omega
 ·obtain ⟨g,g1,g2⟩ := h'.ex;have hgd : ¬ 0 ≤ g d := fun h0 => (shutN_mem.1 (g1.day d hd h0)).2 rfl;refine ⟨updI g d i,OkP.of (fun e => ?_) (fun e he h0 => ?_) (fun e k he hk h0 q => ?_),if_pos rfl,?_⟩
  ·rcases updI_cases g d i e with ⟨-,e1⟩ | ⟨-,e1⟩ <;> rw [e1]
   ·omega
   ·exact g1.lt e
  ·rcases updI_cases g d i e with ⟨e0,e1⟩ | ⟨ne,e1⟩ <;> rw [e1] at h0 ⊢
   ·rw [e0];exact hdN
   ·exact (dropN_mem.1 (shutN_mem.1 (g1.day e he h0)).1).2
  ·rcases updI_cases g d i e with ⟨e0,e1⟩ | ⟨ne,e1⟩ <;> rw [e1] at h0 q
   ·rcases updI_cases g d i k with ⟨k0,e2⟩ | ⟨nk,e2⟩ <;> rw [e2] at q
    ·omega
    ·exact absurd q.symm (dropN_mem.1 (shutN_mem.1 (g1.day k hk (by omega))).1).1
   ·rcases updI_cases g d i k with ⟨k0,e2⟩ | ⟨nk,e2⟩ <;> rw [e2] at q
    ·exact absurd q (dropN_mem.1 (shutN_mem.1 (g1.day e he h0)).1).1
    ·exact g1.inj he hk h0 q
  ·rw [worth_upd hd,if_neg hgd,if_pos (Int.natCast_nonneg i),g2];omega
theorem IsOpt.day_iff (h : IsOpt N n m W v) (h' : IsOpt (shutN (dropN N i) d) n m W v') (hi : i < m) (hd : d < n) (hdN : d ∈ N i) :
  W i + v' ≤ v ∧ (W i + v' = v ↔ ∃ g,OkP N n m g ∧ worthW W g n = v ∧ g d = (i : Int)) := by
 obtain ⟨h1,g,g1,g2,g3⟩ := h'.fix hi hd hdN;have := h.le g g1;refine ⟨by omega,fun e => ⟨g,g1,by omega,g2⟩,?_⟩;rintro ⟨k,k1,k2,k3⟩;have := h1 k k1 k3;omega
theorem IsOpt.drop (h : IsOpt N n m W v) (h' : IsOpt (dropN N i) n m W v') : v' ≤ v ∧ (v' < v ↔ ∀ g,OkP N n m g → worthW W g n = v → cntN g i n ≠ 0) := by
 have hle : v' ≤ v := h'.mono h (fun j _ e _ hm => (dropN_mem.1 hm).2) fun _ _ => Int.le_refl _;refine ⟨hle,fun hlt g hg e hz => ?_,fun hall => ?_⟩
 ·have := h'.le g (hg.sub fun d hd h0 hm => dropN_mem.2 ⟨cntN_zero hz d hd,hm⟩);omega
 ·obtain ⟨g,g1,g2⟩ := h'.ex;have ok : OkP N n m g := g1.sub fun d _ _ hm => (dropN_mem.1 hm).2
  by_cases e : v' = v
  ·exact absurd (cntN_of_zero fun d hd q => by
    have := g1.day d hd (by omega)
    exact (dropN_mem.1 this).1 q) (hall g ok (by omega))
  ·omega
theorem IsOpt.split {N1 N2 : Int → List Nat} {v1 v2 : Int} (h : IsOpt N n m W v) (h1 : IsOpt N1 n m W v1) (h2 : IsOpt N2 n m W v2) (hW : ∀ j : Nat,j < m → 0 ≤ W j)
  (hs : ∀ j : Nat,j < m → (∀ d,d ∈ N j → d ∈ N1 j) ∨ (∀ d,d ∈ N j → d ∈ N2 j)) : v ≤ v1 + v2 := by
 obtain ⟨g,g1,g2⟩ := h.ex
 let P : Nat → Prop := fun d => 0 ≤ g d ∧ ∀ e,e ∈ N (g d) → e ∈ N1 (g d)
 have ch : ∀ d : Nat,∃ x : Int × Int,(P d ∧ x = (g d,-1)) ∨ (¬ P d ∧ x = (-1,g d)) := fun d => by
  by_cases h0 : P d
  ·exact ⟨_,.inl ⟨h0,rfl⟩⟩
  ·exact ⟨_,.inr ⟨h0,rfl⟩⟩
 obtain ⟨p,hp⟩ := Classical.axiomOfChoice ch
 have q1 := h1.le (fun d => (p d).1) (OkP.of (fun d => by
  have := g1.lt d
  rcases hp d with ⟨-,e⟩ | ⟨-,e⟩ <;> rw [e] <;> show -1 ≤ _ ∧ _ <;> dsimp only <;> omega) (fun d hd h0 => by
  rcases hp d with ⟨hP,e⟩ | ⟨-,e⟩ <;> rw [e] at h0 ⊢
  ·exact hP.2 d (g1.day d hd hP.1)
  ·exact absurd h0 (by dsimp only;omega)) (fun d e hd he h0 q => by
  rcases hp d with ⟨hP,e1⟩ | ⟨-,e1⟩ <;> rw [e1] at h0 q
  ·rcases hp e with ⟨hP',e2⟩ | ⟨-,e2⟩ <;> rw [e2] at q
   ·exact g1.inj hd he hP.1 q
   ·have q : g d = -1 := q;have := hP.1;omega
  ·exact absurd h0 (by dsimp only;omega)))
 have q2 := h2.le (fun d => (p d).2) (OkP.of (fun d => by
  have := g1.lt d
  rcases hp d with ⟨-,e⟩ | ⟨-,e⟩ <;> rw [e] <;> show -1 ≤ _ ∧ _ <;> dsimp only <;> omega) (fun d hd h0 => by
  rcases hp d with ⟨-,e⟩ | ⟨hP,e⟩ <;> rw [e] at h0 ⊢
  ·exact absurd h0 (by dsimp only;omega)
  ·have h0 : 0 ≤ g d := h0;obtain ⟨j,hj,hjm⟩ := g1.at' h0;have hd2 := g1.day d hd h0
   show d ∈ N2 (g d)
   rcases hs j hjm with q | q
   ·exact absurd ⟨h0,by rw [hj];exact q⟩ hP
   ·rw [hj] at hd2 ⊢;exact q d hd2) (fun d e hd he h0 q => by
  rcases hp d with ⟨-,e1⟩ | ⟨hP,e1⟩ <;> rw [e1] at h0 q
  ·exact absurd h0 (by dsimp only;omega)
  ·have h0 : 0 ≤ g d := h0
   rcases hp e with ⟨-,e2⟩ | ⟨hP',e2⟩ <;> rw [e2] at q
   ·have q : g d = -1 := q;omega
   ·exact g1.inj hd he h0 q))
 have : worthW W g n ≤ worthW W (fun d => (p d).1) n + worthW W (fun d => (p d).2) n := by
  unfold worthW;rw [← sumN_add];refine sumN_le n fun d hd => ?_
  show (if 0 ≤ g d then W (g d) else 0) ≤ (if 0 ≤ (p d).1 then W (p d).1 else 0) + if 0 ≤ (p d).2 then W (p d).2 else 0
  rcases hp d with ⟨-,e⟩ | ⟨-,e⟩ <;> rw [e] <;> dsimp only
  ·rw [if_neg (show ¬ (0 : Int) ≤ -1 by decide)];omega
  ·rw [if_neg (show ¬ (0 : Int) ≤ -1 by decide)];omega
 omega
end
theorem insQ_perm (lt : Int → Int → Bool) (l : List Int) (x : Int) : (insQ lt l x).Perm (x :: l) := by
 unfold insQ;refine List.perm_middle.trans ?_;rw [List.take_append_drop]
theorem sortQ_perm (lt : Int → Int → Bool) (l : List Int) : (sortQ lt l).Perm l := by
 have key : ∀ (l a : List Int),(l.foldl (insQ lt) a).Perm (a ++ l) := by
  intro l
  induction l with
  | nil => intro a;rw [List.append_nil];exact List.Perm.refl _
  | cons x l ih =>
    intro a;rw [List.foldl_cons];refine (ih _).trans (((insQ_perm lt a x).append_right l).trans ?_);exact List.perm_middle.symm
 have := key l [];exact this
theorem posQ_spec (lt : Int → Int → Bool) (l : List Int) (x : Int) : ∀ k,(∀ j,posQ lt l x k ≤ j → j < k → lt x (gI l j) = true) ∧ (0 < posQ lt l x k → lt x (gI l (posQ lt l x k - 1)) = false)
 | 0 => ⟨fun j _ h => absurd h (Nat.not_lt_zero _),fun h => absurd h (Nat.lt_irrefl _)⟩
 | k + 1 => by
   obtain ⟨h1,h2⟩ := posQ_spec lt l x k
   by_cases h : lt x (gI l k) = true
   ·have e : posQ lt l x (k + 1) = posQ lt l x k := if_pos h;rw [e]
    exact ⟨fun j hj hk => by
     by_cases q : j = k
     ·rw [q];exact h
     ·exact h1 j hj (by omega),h2⟩
   ·have e : posQ lt l x (k + 1) = k + 1 := if_neg h;rw [e];exact ⟨fun j hj hk => by omega,fun _ => by simpa using h⟩
theorem insQ_sorted {lt : Int → Int → Bool} {key : Int → Int} {l : List Int} {x : Int} (hl : l.Pairwise fun a b => key b ≤ key a) (hk : ∀ a ∈ l,lt x a = decide (key a < key x)) : (insQ lt l x).Pairwise fun a b => key b ≤ key a := by
 obtain ⟨h1,h2⟩ := posQ_spec lt l x l.length;have hp := posQ_le lt l x l.length;unfold insQ;have hl' := hl;rw [← List.take_append_drop (posQ lt l x l.length) l,List.pairwise_append] at hl';rw [List.pairwise_append];refine ⟨hl'.1,List.pairwise_cons.2 ⟨fun y hy => ?_,hl'.2.1⟩,fun u hu v hv => ?_⟩
 ·obtain ⟨j,hj,rfl⟩ := List.getElem_of_mem hy;rw [List.length_drop] at hj;rw [List.getElem_drop];have q := h1 (posQ lt l x l.length + j) (by omega) (by omega);rw [gI_lt (by omega),hk _ (List.getElem_mem _),decide_eq_true_iff] at q;omega
 ·rcases List.mem_cons.1 hv with rfl | hv
  ·obtain ⟨j,hj,rfl⟩ := List.getElem_of_mem hu;rw [List.length_take] at hj;rw [List.getElem_take];have q := h2 (by omega);rw [gI_lt (show posQ lt l v l.length - 1 < l.length by omega),hk _ (List.getElem_mem _),decide_eq_false_iff_not] at q
   by_cases e : j = posQ lt l v l.length - 1
   ·subst e;omega
   ·have := List.pairwise_iff_getElem.1 hl j (posQ lt l v l.length - 1) (by omega) (by omega) (by omega);omega
  ·exact hl'.2.2 u hu v hv
theorem sortQ_sorted {lt : Int → Int → Bool} {key : Int → Int} {l : List Int} (hk : ∀ a ∈ l,∀ b ∈ l,lt a b = decide (key b < key a)) : (sortQ lt l).Pairwise fun a b => key b ≤ key a := by
 have go : ∀ (r a : List Int),(∀ x ∈ a,x ∈ l) → (∀ x ∈ r,x ∈ l) → (a.Pairwise fun a b => key b ≤ key a) → (r.foldl (insQ lt) a).Pairwise fun a b => key b ≤ key a := by
  intro r
  induction r with
  | nil => intro a _ _ h;exact h
  | cons x r ih =>
    intro a ha hr h;rw [List.foldl_cons];refine ih _ (fun y hy => ?_) (fun y hy => hr y (List.mem_cons_of_mem _ hy)) (insQ_sorted h fun y hy => hk x (hr x List.mem_cons_self) y (ha y hy))
    rcases (insQ_mem lt a x y).1 hy with rfl | hy
    ·exact hr _ List.mem_cons_self
    ·exact ha y hy
 exact go l [] (fun x hx => absurd hx List.not_mem_nil) (fun x hx => hx) List.Pairwise.nil
theorem rangeI_nodup (n : Nat) : (rangeI n).Nodup := by
 unfold rangeI;rw [List.nodup_iff_pairwise_ne,List.pairwise_map];exact List.nodup_range.imp fun h e => h (by omega)
theorem ordL_nodup (fl : List Fl) : (ordL fl).Nodup := (sortQ_perm _ _).nodup_iff.2 (rangeI_nodup _)
theorem ordL_sorted (fl : List Fl) : (ordL fl).Pairwise fun a b => mAt fl b ≤ mAt fl a := sortQ_sorted fun a ha b hb => by
 obtain ⟨i,rfl,hi⟩ := rangeI_mem.1 ha;obtain ⟨j,rfl,hj⟩ := rangeI_mem.1 hb;rw [ltM_at hi hj,mAt_at hi,mAt_at hj]
theorem worthN_W (fl : List Fl) (h : Nat → Int) : ∀ k,worthN fl h k = worthW (mAt fl) h k
 | 0 => rfl
 | k + 1 => by
   show (if 0 ≤ h k then worthN fl h k + mAt fl (h k) else worthN fl h k) = worthW (mAt fl) h k + (if 0 ≤ h k then mAt fl (h k) else 0)
   rw [worthN_W fl h k]
   split
   ·rfl
   ·rw [Int.add_zero]
theorem mAt_pos {fl : List Fl} (hm : ∀ f ∈ fl,0 ≤ f.m) (x : Int) : 0 ≤ mAt fl x := by
 unfold mAt
 split
 ·rename_i f hf;exact hm f (List.mem_of_getElem? hf)
 ·exact Int.le_refl _
structure OptT (t : Tr) (n : Nat) : Prop where
 sp : ∀ f ∈ t.fl,0 ≤ f.lo ∧ f.hi < n
 mr : ∀ f ∈ t.fl,0 ≤ f.m
theorem OptT.span {t : Tr} {n : Nat} (h : OptT t n) : SpanT t n := ⟨fun k hk => h.sp _ (List.getElem_mem hk)⟩
theorem PlanT.opt {t : Tr} {n : Nat} (h : PlanT t n) : OptT t n := ⟨fun f hf => by
 obtain ⟨k,hk,rfl⟩ := List.getElem_of_mem hf;exact h.sp k hk,fun f hf => by
 obtain ⟨k,hk,rfl⟩ := List.getElem_of_mem hf;exact (h.mr k hk).1⟩
theorem bestF_C {t : Tr} {n : Nat} (h : OptT t n) : PlanC t.N n t.fl.length (fun a b => mAt t.fl b ≤ mAt t.fl a) (ordL t.fl) (bestF t n) :=
 planF_C (trN_lt h.span) (ordL_nodup _) (ordL_sorted _) fun _ hx => ordL_mem.1 hx
theorem meritF_opt {t : Tr} {n : Nat} (h : OptT t n) : IsOpt t.N n t.fl.length (mAt t.fl) (meritF t n) := by
 have hC := bestF_C h;have e : worthW (mAt t.fl) (bestF t n) n = meritF t n := (worthN_W _ _ _).symm;refine ⟨⟨_,hC.ok,e⟩,fun g hg => ?_⟩;rw [← e];refine dual_max (S := fun _ => True) hC.ok hg (fun _ _ _ => .inl trivial) (mAt_pos h.mr) fun i hi _ hz => ?_;obtain ⟨X,h1,h2,h3⟩ := hC.cert i (ordL_mem.2 ⟨i,rfl,hi⟩) hz;exact ⟨X,h1,h2,h3⟩
structure BestP (t : Tr) (n : Nat) (g : Nat → Int) : Prop where
 ok : OkP t.N n t.fl.length g
 w : worthW (mAt t.fl) g n = meritF t n
theorem bestF_best {t : Tr} {n : Nat} (h : OptT t n) : BestP t n (bestF t n) := ⟨(bestF_C h).ok,(worthN_W _ _ _).symm⟩
-- closed days
theorem openN_mem' {cl : List Int} {lo hi : Int} {e : Nat} : e ∈ openN cl lo hi ↔ e ∈ List.range' lo.toNat (hi + 1 - lo).toNat ∧ (e : Int) ∉ cl := by
 unfold openN;rw [List.mem_filter];simp
theorem mem_insAt {l : List Int} {i : Nat} {a x : Int} : x ∈ insAt l i a ↔ x = a ∨ x ∈ l := by
 unfold insAt;rw [List.mem_append,List.mem_append,List.mem_singleton]
 constructor
 ·rintro ((h | h) | h)
  ·exact .inr (List.mem_of_mem_take h)
  ·exact .inl h
  ·exact .inr (List.mem_of_mem_drop h)
 ·rintro (h | h)
  ·exact .inl (.inr h)
  ·rw [← List.take_append_drop i l,List.mem_append] at h
   rcases h with h | h
   ·exact .inl (.inl h)
   ·exact .inr h
theorem mem_closeL {cl : List Int} {d x : Int} : x ∈ closeL cl d ↔ x = d ∨ x ∈ cl := by
 unfold closeL
 split
 ·rename_i h
  exact ⟨.inr,fun q => q.elim (fun e => e ▸ h) id⟩
 ·exact mem_insAt
def nCl (cl : List Int) (fl : List Fl) : Int → List Nat := Tr.N ⟨0,cl,fl⟩
theorem nCl_tr (t : Tr) : t.N = nCl t.cl t.fl := rfl
theorem nCl_shut {cl cl' : List Int} {fl : List Fl} {j : Int} {e d : Nat} (h : (e : Int) ∈ cl' ↔ (e : Int) = d ∨ (e : Int) ∈ cl) : e ∈ nCl cl' fl j ↔ e ∈ shutN (nCl cl fl) d j := by
 rw [shutN_mem];unfold nCl Tr.N
 dsimp only
 split
 ·rw [openN_mem',openN_mem',h]
  constructor
  ·rintro ⟨h1,h2⟩;exact ⟨⟨h1,fun q => h2 (.inr q)⟩,fun q => h2 (.inl (by omega))⟩
  ·rintro ⟨⟨h1,h2⟩,h3⟩;exact ⟨h1,fun q => q.elim (fun q => h3 (by omega)) h2⟩
 ·simp
theorem OptT.cl {t : Tr} {n : Nat} (h : OptT t n) (k : Int) (cl : List Int) : OptT ⟨k,cl,t.fl⟩ n := ⟨h.sp,h.mr⟩
def dropL (N : Int → List Nat) (l : List Int) : Int → List Nat := fun j => if j ∈ l then [] else N j
theorem dropL_mem {N : Int → List Nat} {l : List Int} {j : Int} {e : Nat} : e ∈ dropL N l j ↔ j ∉ l ∧ e ∈ N j := by
 unfold dropL
 by_cases q : j ∈ l
 ·rw [if_pos q];simp [q]
 ·rw [if_neg q];simp [q]
theorem keepN_emb (l : List Int) (fl : List Fl) : ∀ k,k ≤ fl.length → ∃ f : Nat → Nat,(∀ a b,a < b → b < (keepN l fl k).length → f a < f b) ∧ (∀ a,a < (keepN l fl k).length → f a < k ∧ (f a : Int) ∉ l ∧ (keepN l fl k)[a]? = fl[f a]?) ∧ ∀ j : Nat,j < k → (j : Int) ∉ l → ∃ a,a < (keepN l fl k).length ∧ f a = j
 | 0,_ => ⟨id,fun a b _ h => absurd h (Nat.not_lt_zero _),fun a h => absurd h (Nat.not_lt_zero _),fun j h => absurd h (Nat.not_lt_zero _)⟩
 | k + 1,hk => by
   obtain ⟨f,h1,h2,h3⟩ := keepN_emb l fl k (by omega)
   by_cases hl : (k : Int) ∈ l
   ·rw [keepN_in hl]
    exact ⟨f,h1,fun a ha => ⟨by have := (h2 a ha).1;omega,(h2 a ha).2⟩,fun j hj hjl => h3 j (by
     rcases Nat.lt_or_ge j k with q | q
     ·exact q
     ·obtain rfl : j = k := by omega
      exact absurd hl hjl) hjl⟩
   ·rw [keepN_out hl (by omega)]
    generalize hL : keepN l fl k = L at h1 h2 h3
    have e1 : ∀ a,a < L.length → (if a < L.length then f a else k) = f a := fun a h => if_pos h;have e2 : (if L.length < L.length then f L.length else k) = k := if_neg (Nat.lt_irrefl _);refine ⟨fun a => if a < L.length then f a else k,fun a b hab hb => ?_,fun a ha => ?_,fun j hj hjl => ?_⟩
    ·rw [List.length_append,List.length_singleton] at hb
     show (if a < L.length then f a else k) < (if b < L.length then f b else k)
     rw [e1 a (by omega)]
     by_cases q : b < L.length
     ·rw [e1 b q];exact h1 a b hab q
     ·rw [if_neg q];exact (h2 a (by omega)).1
    ·rw [List.length_append,List.length_singleton] at ha
     show (if a < L.length then f a else k) < k + 1 ∧ ((if a < L.length then f a else k : Nat) : Int) ∉ l ∧ _ = fl[(if a < L.length then f a else k)]?
     by_cases q : a < L.length
     ·rw [e1 a q,List.getElem?_append_left q];exact ⟨by have := (h2 a q).1;omega,(h2 a q).2⟩
     ·obtain rfl : a = L.length := by omega
      rw [e2,List.getElem?_append_right (Nat.le_refl _),Nat.sub_self,List.getElem?_eq_getElem (show k < fl.length by omega)];exact ⟨Nat.lt_succ_self _,hl,rfl⟩
    ·rw [List.length_append,List.length_singleton]
     rcases Nat.lt_or_ge j k with q | q
     ·obtain ⟨a,ha,e⟩ := h3 j q hjl;exact ⟨a,by omega,by show (if a < L.length then f a else k) = j;rw [e1 a ha,e]⟩
     ·exact ⟨L.length,by omega,by show (if L.length < L.length then f L.length else k) = j;rw [e2];omega⟩
theorem OptT.keep {t : Tr} {n : Nat} (h : OptT t n) (k : Int) (cl l : List Int) : OptT ⟨k,cl,keepN l t.fl t.fl.length⟩ n :=
 ⟨fun f hf => h.sp f (keepN_mem hf),fun f hf => h.mr f (keepN_mem hf)⟩
theorem emb_inj {f : Nat → Nat} {m : Nat} (h : ∀ a b,a < b → b < m → f a < f b) (a b : Nat) (ha : a < m) (hb : b < m) (e : f a = f b) : a = b := by
 rcases Nat.lt_trichotomy a b with q | q | q
 ·have := h a b q hb;omega
 ·exact q
 ·have := h b a q ha;omega
theorem mAt_eq {fl fl' : List Fl} {a b : Nat} (h : fl[a]? = fl'[b]?) : mAt fl (a : Int) = mAt fl' (b : Int) := by unfold mAt;rw [Int.toNat_natCast,Int.toNat_natCast,h]
theorem nCl_eq {cl : List Int} {fl fl' : List Fl} {a b : Nat} (h : fl[a]? = fl'[b]?) : nCl cl fl (a : Int) = nCl cl fl' (b : Int) := by
 unfold nCl Tr.N;dsimp only;rw [Int.toNat_natCast,Int.toNat_natCast,h]
theorem keep_opt {t : Tr} {n : Nat} (h : OptT t n) (k : Int) (cl l : List Int) : IsOpt (dropL (nCl cl t.fl) l) n t.fl.length (mAt t.fl) (meritF ⟨k,cl,keepN l t.fl t.fl.length⟩ n) := by
 obtain ⟨f,h1,h2,h3⟩ := keepN_emb l t.fl t.fl.length (Nat.le_refl _);refine IsOpt.emb (f := f) (emb_inj h1) (fun a ha => (h2 a ha).1) (fun a ha d _ => ?_) (fun a ha => mAt_eq (h2 a ha).2.2) (fun j hj hn => ?_) (meritF_opt (h.keep k cl l))
 ·rw [dropL_mem,nCl_tr]
  dsimp only
  rw [nCl_eq (h2 a ha).2.2];exact ⟨fun q => ⟨(h2 a ha).2.1,q⟩,fun q => q.2⟩
 ·unfold dropL
  by_cases q : (j : Int) ∈ l
  ·exact if_pos q
  ·obtain ⟨a,ha,e⟩ := h3 j hj q;exact absurd e (hn a ha)
theorem without_opt {t : Tr} {n : Nat} (h : OptT t n) (l : List Int) : IsOpt (dropL t.N l) n t.fl.length (mAt t.fl) (meritF (withoutT t l) n) := keep_opt h t.n t.cl l
theorem without1_opt {t : Tr} {n : Nat} (h : OptT t n) (i : Nat) : IsOpt (dropN t.N i) n t.fl.length (mAt t.fl) (meritF (withoutT t [(i : Int)]) n) :=
 (without_opt h [(i : Int)]).congr (fun j _ d _ => by rw [dropL_mem,dropN_mem,List.mem_singleton]) fun _ _ => rfl
theorem onF_opt {t : Tr} {n : Nat} (h : OptT t n) (i d : Nat) : IsOpt (shutN (dropN t.N i) d) n t.fl.length (mAt t.fl) (meritF (closedT (withoutT t [(i : Int)]) (d : Int)) n) :=
 (keep_opt h t.n (closeL t.cl d) [(i : Int)]).congr (fun j _ e _ => by
  have q := nCl_shut (cl := t.cl) (cl' := closeL t.cl d) (fl := t.fl) (j := (j : Int)) (e := e) (d := d) mem_closeL;rw [dropL_mem,q,shutN_mem,shutN_mem,dropN_mem,List.mem_singleton,← nCl_tr]
  exact ⟨fun a => ⟨⟨a.1,a.2.1⟩,a.2.2⟩,fun a => ⟨a.1.1,a.1.2,a.2⟩⟩) fun _ _ => rfl
theorem onF_iff {t : Tr} {n i d : Nat} (h : OptT t n) (hi : i < t.fl.length) (hd : d ∈ t.N (i : Int)) : onF t n i d ≤ meritF t n ∧ (onF t n i d = meritF t n ↔ ∃ g,BestP t n g ∧ g d = (i : Int)) := by
 obtain ⟨h1,h2⟩ := (meritF_opt h).day_iff (onF_opt h i d) hi (trN_lt h.span _ _ hd) hd;refine ⟨h1,h2.trans ⟨?_,?_⟩⟩
 ·rintro ⟨g,g1,g2,g3⟩;exact ⟨g,⟨g1,g2⟩,g3⟩
 ·rintro ⟨g,⟨g1,g2⟩,g3⟩;exact ⟨g,g1,g2,g3⟩
theorem daysL_mem {t : Tr} {n i : Nat} {x : Int} (h : OptT t n) (hi : i < t.fl.length) : x ∈ daysL t n i ↔ ∃ d : Nat,x = (d : Int) ∧ d ∈ t.N (i : Int) ∧ ∃ g,BestP t n g ∧ g d = (i : Int) := by
 unfold daysL;rw [List.mem_map]
 constructor
 ·rintro ⟨d,hd,rfl⟩;rw [List.mem_filter] at hd;have := hd.2;unfold daysP at this;rw [decide_eq_true_iff] at this;exact ⟨d,rfl,hd.1,(onF_iff h hi hd.1).2.1 this⟩
 ·rintro ⟨d,rfl,hd,hg⟩;refine ⟨d,List.mem_filter.2 ⟨hd,?_⟩,rfl⟩;unfold daysP;rw [decide_eq_true_iff];exact (onF_iff h hi hd).2.2 hg
theorem sure_iff {t : Tr} {n i : Nat} (h : OptT t n) : meritF (withoutT t [(i : Int)]) n ≤ meritF t n ∧ (meritF (withoutT t [(i : Int)]) n < meritF t n ↔ ∀ g,BestP t n g → cntN g (i : Int) n ≠ 0) := by
 obtain ⟨h1,h2⟩ := (meritF_opt h).drop (without1_opt h i);exact ⟨h1,h2.trans ⟨fun q g hg => q g hg.ok hg.w,fun q g g1 g2 => q g ⟨g1,g2⟩⟩⟩
theorem some_iff {t : Tr} {n i : Nat} (h : OptT t n) (hi : i < t.fl.length) : 0 < (daysL t n i).length ↔ ∃ g,BestP t n g ∧ cntN g (i : Int) n ≠ 0 := by
 rw [List.length_pos_iff_exists_mem]
 constructor
 ·rintro ⟨x,hx⟩;obtain ⟨d,-,hd,g,hg,e⟩ := (daysL_mem h hi).1 hx;exact ⟨g,hg,fun hz => cntN_zero hz d (trN_lt h.span _ _ hd) e⟩
 ·rintro ⟨g,hg,hz⟩;obtain ⟨d,hd,e⟩ := cntN_some hz;exact ⟨_,(daysL_mem h hi).2 ⟨d,rfl,by have := hg.ok.day d hd (by omega);rwa [e] at this,g,hg,e⟩⟩
structure OnP (N : Int → List Nat) (n m : Nat) (xs : List Int) (h : Nat → Int) : Prop where
 ok : OkP N n m h
 len : xs.length = m
 on : ∀ i : Nat,i < m → (gI xs i = -1 ∧ cntN h i n = 0) ∨ ∃ d : Nat,d < n ∧ gI xs i = (d : Int) ∧ h d = (i : Int)
section
variable {N : Int → List Nat} {n m : Nat} {xs : List Int} {h : Nat → Int}
theorem OnP.cnt (q : OnP N n m xs h) {i : Nat} (hi : i < m) : cntN h i n = if 0 ≤ gI xs i then 1 else 0 := by
 rcases q.on i hi with ⟨e,hz⟩ | ⟨d,hd,e,e2⟩
 ·rw [e,hz];rfl
 ·rw [if_pos (by omega)];have := cntN_ge hd e2;have := q.ok.one i;omega
theorem OnP.has (q : OnP N n m xs h) {i : Nat} (hi : i < m) : 0 ≤ gI xs i ↔ cntN h i n ≠ 0 := by
 rw [q.cnt hi]
 split
 ·rename_i h0;exact ⟨fun _ => by decide,fun _ => h0⟩
 ·rename_i h0;exact ⟨fun x => absurd x h0,fun x => absurd rfl x⟩
theorem OnP.worth (q : OnP N n m xs h) (W : Int → Int) : worthW W h n = sumN (fun j => if 0 ≤ gI xs j then W (j : Int) else 0) m := by
 rw [worth_cnt n fun d _ => (q.ok.lt d).2];refine sumN_eq m fun j hj => ?_;rw [q.cnt hj]
 split
 ·exact Int.one_mul _
 ·exact Int.zero_mul _
end
def FullOk (t : Tr) (xs : List Int) (z : Int × Int) (k : Nat) : Prop :=
 if 0 ≤ gI xs k then z = (0,0) else match t.fl[k]? with
 | some f => (0 ≤ z.1 ∧ z.1 ≤ z.2 ∧ z.2 < t.n) ∧ (z.1 ≤ f.lo ∧ f.hi ≤ z.2) ∧ fullB t xs z.1 z.2 f.m = true
 | none => True
theorem FullOk.at {t : Tr} {xs : List Int} {z : Int × Int} {k : Nat} (hk : k < t.fl.length) (h0 : ¬ 0 ≤ gI xs k) : FullOk t xs z k ↔ (0 ≤ z.1 ∧ z.1 ≤ z.2 ∧ z.2 < t.n) ∧ (z.1 ≤ t.fl[k].lo ∧ t.fl[k].hi ≤ z.2) ∧ fullB t xs z.1 z.2 t.fl[k].m = true := by
 unfold FullOk;rw [if_neg h0,List.getElem?_eq_getElem hk]
instance {t : Tr} {xs : List Int} {z : Int × Int} {k : Nat} : Decidable (FullOk t xs z k) := by
 unfold FullOk;split
 ·infer_instance
 ·split <;> infer_instance
def gZ (l : List (Int × Int)) (i : Nat) : Int × Int := l[i]?.getD (0,0)
theorem gZ_lt {l : List (Int × Int)} {i : Nat} (h : i < l.length) : gZ l i = l[i] := by unfold gZ;rw [List.getElem?_eq_getElem h];rfl
def ProvP (t : Tr) (m : Md) : Prop := (m.on.length = t.fl.length ∧ m.full.length = t.fl.length ∧ wrongI t m.on < 0 ∧ wrthK t m.on t.fl.length = m.mt) ∧ ∀ k,k < t.fl.length → FullOk t m.on (gZ m.full k) k
theorem GoodT.opt {t : Tr} (h : GoodT t) : OptT t t.n.toNat := ⟨fun f hf => by
 have h1 := (h.ok f hf).2.1;have := h.n;exact ⟨h1.1,by omega⟩,fun f hf => by have := (h.ok f hf).2.2;omega⟩
theorem GoodT.le {t : Tr} (h : GoodT t) : ∀ f ∈ t.fl,f.lo ≤ f.hi := fun f hf => (h.ok f hf).2.1.2.1
theorem GoodT.pos {t : Tr} (h : GoodT t) : ∀ f ∈ t.fl,0 < f.m := fun f hf => by have := (h.ok f hf).2.2;omega
section
variable {N : Int → List Nat} {n m : Nat}
theorem canF_plan {l : List Int} (hN : ∀ i,∀ d ∈ N i,d < n) (hd : l.Nodup) (hm : ∀ x ∈ l,∃ k : Nat,x = (k : Int) ∧ k < m) (hc : canF N n l noPlan = true) :
  OkP N n m (l.foldl (addF N n) noPlan) ∧ ∀ j : Nat,cntN (l.foldl (addF N n) noPlan) (j : Int) n = if (j : Int) ∈ l then 1 else 0 := by
 obtain ⟨h1,h2⟩ := canF_true hN l noPlan noPlan_ok hd (fun x hx => by obtain ⟨k,rfl,hk⟩ := hm x hx;exact ⟨k,rfl,hk,noPlan_cnt⟩) hc;exact ⟨h1,fun j => by rw [h2,noPlan_cnt,Int.zero_add]⟩
end
theorem OptT.wider {t : Tr} {n i : Nat} {lo hi : Int} (hT : OptT t n) (h : i < t.fl.length) (hs : 0 ≤ lo ∧ hi < n) : OptT (widerT t i lo hi) n := by
 constructor
 ·intro f hf;rw [widerT_at h] at hf
  rcases List.mem_or_eq_of_mem_set hf with hf | rfl
  ·exact hT.sp f hf
  ·exact hs
 ·intro f hf;rw [widerT_at h] at hf
  rcases List.mem_or_eq_of_mem_set hf with hf | rfl
  ·exact hT.mr f hf
  ·show 0 ≤ t.fl[i].m
   exact hT.mr _ (List.getElem_mem h)
section
variable {N N' : Int → List Nat} {n m : Nat} {W : Int → Int} {w v v' : Int} {g h : Nat → Int}
theorem cnt_worth {L : List Int} (hh : OkP N n m h) (hc : ∀ j : Nat,j < m → cntN h (j : Int) n = if (j : Int) ∈ L then 1 else 0) : worthW W h n = sumN (fun j => if (j : Int) ∈ L then W j else 0) m := by
 rw [worth_cnt n fun d _ => (hh.lt d).2];refine sumN_eq m fun j hj => ?_;rw [hc j hj]
 split
 ·exact Int.one_mul _
 ·exact Int.zero_mul _
end
def moreT (t : Tr) (f : Fl) : Tr := ⟨t.n,t.cl,t.fl ++ [f]⟩
section
variable {t : Tr} {f : Fl} {n : Nat}
theorem moreT_len : (moreT t f).fl.length = t.fl.length + 1 := by show (t.fl ++ [f]).length = _;rw [List.length_append,List.length_singleton]
theorem moreT_at {j : Nat} (hj : j < t.fl.length) : (moreT t f).fl[j]? = t.fl[j]? := List.getElem?_append_left hj
theorem moreT_last : (moreT t f).fl[t.fl.length]? = some f := by show (t.fl ++ [f])[t.fl.length]? = _;rw [List.getElem?_append_right (Nat.le_refl _),Nat.sub_self];rfl
theorem moreT_m {j : Nat} (hj : j < t.fl.length) : mAt (moreT t f).fl (j : Int) = mAt t.fl (j : Int) := mAt_eq (moreT_at hj)
theorem moreT_mf : mAt (moreT t f).fl (t.fl.length : Int) = f.m := by unfold mAt;rw [Int.toNat_natCast,moreT_last]
end
structure LatP (N : Int → List Nat) (n m : Nat) (l L : List Int) : Prop where
 can : canF N n L noPlan = true
 nd : L.Nodup
 mem : ∀ x ∈ L,x ∈ l ∨ x = (m : Int)
 one : ∀ x ∈ l,∀ y ∈ l,x ∉ L → y ∉ L → x = y
section
variable {t : Tr} {f : Fl} {n : Nat} {h : Nat → Int} {l : List Int}
structure LatS (t : Tr) (f : Fl) (n : Nat) (h : Nat → Int) (l : List Int) : Prop where
 hT : OptT t n
 hM : OptT (moreT t f) n
 pos : ∀ x ∈ t.fl,0 < x.m
 hb : BestP t n h
 nd : l.Nodup
 mm : ∀ x ∈ l,∃ k : Nat,x = (k : Int) ∧ k < t.fl.length
 srt : l.Pairwise fun a b => mAt t.fl a ≤ mAt t.fl b
 cnt : ∀ j : Nat,j < t.fl.length → cntN h (j : Int) n = if (j : Int) ∈ l then 1 else 0
theorem LatS.mm' (s : LatS t f n h l) {L : List Int} (hL : ∀ x ∈ L,x ∈ l ∨ x = (t.fl.length : Int)) : ∀ x ∈ L,∃ k : Nat,x = (k : Int) ∧ k < t.fl.length + 1 := fun x hx => by
 rcases hL x hx with q | q
 ·obtain ⟨k,e,hk⟩ := s.mm x q;exact ⟨k,e,by omega⟩
 ·exact ⟨_,q,Nat.lt_succ_self _⟩
theorem LatS.in (s : LatS t f n h l) {x : Int} (hx : x ∈ l) : cntN h x n = 1 := by
 obtain ⟨k,rfl,hk⟩ := s.mm x hx;rw [s.cnt k hk,if_pos hx]
theorem LatS.worth (s : LatS t f n h l) : sumN (fun j => if (j : Int) ∈ l then mAt t.fl j else 0) t.fl.length = meritF t n := by
 rw [← s.hb.w];exact (cnt_worth s.hb.ok s.cnt).symm
theorem LatS.val (s : LatS t f n h l) {L : List Int} (hL : LatP (moreT t f).N n t.fl.length l L) : OkP (moreT t f).N n (t.fl.length + 1) (L.foldl (addF (moreT t f).N n) noPlan) ∧
  (∀ j : Nat,cntN (L.foldl (addF (moreT t f).N n) noPlan) (j : Int) n = if (j : Int) ∈ L then 1 else 0) ∧
  worthW (mAt (moreT t f).fl) (L.foldl (addF (moreT t f).N n) noPlan) n = sumN (fun j => if (j : Int) ∈ L then mAt t.fl j else 0) t.fl.length + if ((t.fl.length : Nat) : Int) ∈ L then f.m else 0 := by
 obtain ⟨h1,h2⟩ := canF_plan (m := t.fl.length + 1) (trN_lt s.hM.span) hL.nd (s.mm' hL.mem) hL.can;refine ⟨h1,h2,?_⟩;rw [cnt_worth h1 fun j _ => h2 j]
 show sumN _ t.fl.length + (if ((t.fl.length : Nat) : Int) ∈ L then mAt (moreT t f).fl (t.fl.length : Nat) else 0) = _
 rw [moreT_mf,sumN_eq t.fl.length (g := fun j => if (j : Int) ∈ L then mAt t.fl j else 0) fun j hj => by rw [moreT_m hj]]
theorem LatS.one (s : LatS t f n h l) {L : List Int} (hL : LatP (moreT t f).N n t.fl.length l L)
  (hle : ∀ g,OkP (moreT t f).N n (t.fl.length + 1) g → worthW (mAt (moreT t f).fl) g n ≤ sumN (fun j => if (j : Int) ∈ L then mAt t.fl j else 0) t.fl.length + if ((t.fl.length : Nat) : Int) ∈ L then f.m else 0) :
  BestP (moreT t f) n (L.foldl (addF (moreT t f).N n) noPlan) := by
 obtain ⟨h1,-,h3⟩ := s.val hL;have o := meritF_opt s.hM;rw [moreT_len] at o;have ok : OkP (moreT t f).N n (moreT t f).fl.length (L.foldl (addF (moreT t f).N n) noPlan) := by rw [moreT_len];exact h1
 exact ⟨ok,IsOpt.eq (N := (moreT t f).N) (n := n) (m := t.fl.length + 1) (W := mAt (moreT t f).fl) ⟨⟨_,h1,rfl⟩,fun g hg => by rw [h3];exact hle g hg⟩ o⟩
end
theorem posF_at {fl : List Fl} (h : fl.Pairwise fun f g => f.id ≠ g.id) {i : Nat} (hi : i < fl.length) : posF fl fl[i].id = (i : Int) := by
 rw [← FindP.eq (fl := fl) (id := fl[i].id) (r := (i : Int)) (.inl ⟨i,rfl,hi,rfl,fun j hj => List.pairwise_iff_getElem.1 h j i (by omega) hi hj⟩)]
theorem ClOk.of {n : Int} {cl : List Int} (hr : Rising cl) (hb : ∀ x ∈ cl,0 ≤ x ∧ x ≤ n - 1) : ClOk n cl := fun k hk => ⟨hb _ (gI_mem hk),fun h0 => hr (k - 1) k (by omega) hk⟩
theorem daysL_len {t : Tr} {n i : Nat} (h : PlanT t n) (hi : i < t.fl.length) : (daysL t n i).length ≤ 60 := by
 unfold daysL;rw [List.length_map];refine Nat.le_trans (List.length_filter_le _ _) ?_;rw [trN_at hi];exact openN_len60 (h.sp i hi).1 (h.sp i hi).2 h.n2
end Go.Proofs.YtnklbepeoicgpaaGreat
namespace Go.Proofs.YtnklbepeoicgpaaGreat
open Go.RowKit Go.Wk Go.Proofs
attribute [local irreducible] Go.Wk.Wops Go.Wk.Wp Go.Wk.Mtree Go.Wk.Mops
set_option maxHeartbeats 8000000
set_option maxRecDepth 20000
theorem rin_c (a b c : Int) (w : World) : CallsV Tryz.prog 121 #[.int .i64 a,.int .i64 b,.int .i64 c] w fun v w' => v = .bool (decide (b ≤ a ∧ a ≤ c)) ∧ Ext w w' := by
 refine Wp.fn Tryz.func121 rfl Tryz.ntmps121 (by simp) ?_;have xw := Ext.refl w;refine Wp.keep [0,1,2] ?_;rintro r1 ⟨e0_1,e1_1,e2_1,-⟩;simp [go_sem] at e0_1 e1_1 e2_1
 by_cases h : b ≤ a
 ·skip;refine sRg fun K' gd hK => ?_;go_simp;refine hK _ _ ?_;clear hK K' gd;refine Wp.keep [0,1,2] ?_;rintro r2 ⟨e0_2,e1_2,e2_2,-⟩;simp [go_sem,e0_1,e1_1,e2_1] at e0_2 e1_2 e2_2;clear e0_1 e1_1 e2_1;refine sRh fun K' gd hK hg => ?_;have g3 : gd 3 = some 10 := hg 3;clear hg;go_simp;refine hK _ _ ?_;clear hK K' gd g3;refine Wp.keep [6] ?_;rintro r3 ⟨e6_3,-⟩;simp [go_sem,e0_2,e1_2,e2_2] at e6_3;clear e0_2 e1_2 e2_2;refine Wp.ret ?_;refine endK_tmp Tryz.results121 (by decide) ?_;rw [e6_3];exact ⟨by first | (simp [h];done) | rfl,xw⟩
 ·skip;refine sRg fun K' gd hK => ?_;go_simp;refine hK _ _ ?_;clear hK K' gd;refine Wp.keep [0,1,2] ?_;rintro r4 ⟨e0_4,e1_4,e2_4,-⟩;simp [go_sem,e0_1,e1_1,e2_1] at e0_4 e1_4 e2_4;clear e0_1 e1_1 e2_1;refine sRh fun K' gd hK hg => ?_;have g3 : gd 3 = some 10 := hg 3;clear hg;go_simp;refine hK _ _ ?_;clear hK K' gd g3;refine Wp.keep [6] ?_;rintro r5 ⟨e6_5,-⟩;simp [go_sem,e0_4,e1_4,e2_4] at e6_5;clear e0_4 e1_4 e2_4;refine Wp.ret ?_;refine endK_tmp Tryz.results121 (by decide) ?_;rw [e6_5];exact ⟨by first | (simp [h];done) | rfl,xw⟩
theorem rin_T {a b c : Int} (h : b ≤ a ∧ a ≤ c) (w : World) : CallsV Tryz.prog 121 #[.int .i64 a,.int .i64 b,.int .i64 c] w fun v w' => v = .bool true ∧ Ext w w' := (rin_c a b c w).mono fun v w' ⟨h1,h2⟩ => ⟨by rw [h1,decide_eq_true h],h2⟩
theorem rin_F {a b c : Int} (h : ¬ (b ≤ a ∧ a ≤ c)) (w : World) : CallsV Tryz.prog 121 #[.int .i64 a,.int .i64 b,.int .i64 c] w fun v w' => v = .bool false ∧ Ext w w' := (rin_c a b c w).mono fun v w' ⟨h1,h2⟩ => ⟨by rw [h1,decide_eq_false h],h2⟩
theorem rspan_c (n lo hi : Int) (cv fv : Value) (w : World) : CallsV Tryz.prog 120 #[.agg #[.int .i64 n,cv,fv],.agg #[.int .i64 lo,.int .i64 hi]] w fun v w' => v = .bool (decide (0 ≤ lo ∧ lo ≤ hi ∧ hi < n)) ∧ Ext w w' := by
 refine Wp.fn Tryz.func120 rfl Tryz.ntmps120 (by simp) ?_;have xw := Ext.refl w;refine Wp.keep [0,1] ?_;rintro r1 ⟨e0_1,e1_1,-⟩;simp [go_sem] at e0_1 e1_1;refine sRg fun K' gd hK => ?_;refine cu1 fun K1 hK1 => ?_;go_simp;refine hK1 _ _ ?_;clear hK1 K1;refine Wops.absA fun V2_1 n2 hV2_1 => ?_;obtain ⟨q2,hV2_1,s2,kV2_1,f2,r2⟩ := hV2_1;try simp only [q2] at kV2_1 f2 r2 ⊢
 replace xw := xw.trans hV2_1;have c2_0 := kV2_1 0 _ rfl;clear kV2_1 hV2_1;clear r2;refine cu1 fun K1 hK1 => ?_;go_simp;refine hK1 _ _ ?_;clear hK1 K1;refine Wops.absA fun V3_2 n3 hV3_2 => ?_;obtain ⟨q3,hV3_2,s3,kV3_2,f3,r3⟩ := hV3_2;try simp only [q3] at kV3_2 f3 r3 ⊢
 replace xw := xw.trans hV3_2;replace c2_0 := hV3_2.cell c2_0;have c3_0 := kV3_2 0 _ rfl;have c3_1 := kV3_2 1 _ rfl;clear kV3_2 hV3_2;clear r3;go_simp;refine hK _ _ ?_;clear hK K' gd;refine Wp.keep [2,3] ?_;rintro r2 ⟨e2_2,e3_2,-⟩;simp [go_sem,e0_1,e1_1] at e2_2 e3_2;clear e0_1 e1_1
 by_cases h : 0 ≤ lo
 ·skip
  by_cases h2 : lo ≤ hi
  ·skip;refine sRh fun K' gd hK hg => ?_;have g3 : gd 3 = some 8 := hg 3;have g10 : gd 10 = some 15 := hg 10;clear hg;go_simp;refine hK _ _ ?_;clear hK K' gd g3 g10;refine Wp.keep [4] ?_;rintro r3 ⟨e4_3,-⟩;simp [go_sem,e2_2,e3_2] at e4_3;clear e2_2 e3_2;refine Wp.ret ?_;refine endK_tmp Tryz.results120 (by decide) ?_;rw [e4_3];exact ⟨by first | (simp [h,h2];done) | rfl,xw⟩
  ·skip;refine sRh fun K' gd hK hg => ?_;have g3 : gd 3 = some 8 := hg 3;have g10 : gd 10 = some 15 := hg 10;clear hg;go_simp;refine hK _ _ ?_;clear hK K' gd g3 g10;refine Wp.keep [4] ?_;rintro r4 ⟨e4_4,-⟩;simp [go_sem,e2_2,e3_2] at e4_4;clear e2_2 e3_2;refine Wp.ret ?_;refine endK_tmp Tryz.results120 (by decide) ?_;rw [e4_4];exact ⟨by first | (simp [h,h2];done) | rfl,xw⟩
 ·skip;refine sRh fun K' gd hK hg => ?_;have g3 : gd 3 = some 8 := hg 3;have g10 : gd 10 = some 15 := hg 10;clear hg;go_simp;refine hK _ _ ?_;clear hK K' gd g3 g10;refine Wp.keep [4] ?_;rintro r5 ⟨e4_5,-⟩;simp [go_sem,e2_2,e3_2] at e4_5;clear e2_2 e3_2;refine Wp.ret ?_;refine endK_tmp Tryz.results120 (by decide) ?_;rw [e4_5];exact ⟨by first | (simp [h];done) | rfl,xw⟩
theorem rspan_T {n lo hi : Int} {cv fv : Value} (h : 0 ≤ lo ∧ lo ≤ hi ∧ hi < n) (w : World) : CallsV Tryz.prog 120 #[.agg #[.int .i64 n,cv,fv],.agg #[.int .i64 lo,.int .i64 hi]] w fun v w' => v = .bool true ∧ Ext w w' := (rspan_c n lo hi cv fv w).mono fun v w' ⟨h1,h2⟩ => ⟨by rw [h1,decide_eq_true h],h2⟩
theorem rspan_F {n lo hi : Int} {cv fv : Value} (h : ¬ (0 ≤ lo ∧ lo ≤ hi ∧ hi < n)) (w : World) : CallsV Tryz.prog 120 #[.agg #[.int .i64 n,cv,fv],.agg #[.int .i64 lo,.int .i64 hi]] w fun v w' => v = .bool false ∧ Ext w w' := (rspan_c n lo hi cv fv w).mono fun v w' ⟨h1,h2⟩ => ⟨by rw [h1,decide_eq_false h],h2⟩
theorem rhas_c (x : Value) (xs : List Int) (d : Int) (w : World) (hx : IntsV w w.heap.size x xs) (hl : xs.length ≤ 1000000000000000) :
  CallsV Tryz.prog 133 #[x,.int .i64 d] w fun v w' => v = .bool (decide (d ∈ xs)) ∧ Ext w w' := by
 obtain ⟨A,c,rfl,-,-⟩ := id hx;refine Wp.fn Tryz.func133 rfl Tryz.ntmps133 (by simp) ?_;have xw := Ext.refl w;refine Wp.keep [0,1] ?_;rintro r1 ⟨e0_1,e1_1,-⟩;simp [go_sem] at e0_1 e1_1;refine sRg fun K' gd hK => ?_;go_simp;refine hK _ _ ?_;clear hK K' gd;refine Wp.keep [0,1] ?_;rintro r2 ⟨e0_2,e1_2,-⟩;simp [go_sem,e0_1,e1_1] at e0_2 e1_2;clear e0_1 e1_1;refine Wp.seq ?_;refine sRg fun K' gd hK => ?_;go_simp;refine hK _ _ ?_;clear hK K' gd;refine Wp.keep [0,1,5] ?_;rintro r3 ⟨e0_3,e1_3,e5_3,-⟩;simp [go_sem,e0_2,e1_2] at e0_3 e1_3 e5_3;clear e0_2 e1_2;refine Wp.block ?_;refine Wp.loop (fun k ρ ds wk => AllEq [0,1] ρ r3 ∧ ds = [] ∧ (Ext w wk) ∧ (ρ 5 = .int .i64 (k : Int) ∧ d ∉ xs.take k)) (xs.length) ?_ ?_
 ·refine ⟨AllEq.refl _ _,rfl,Ext.refl _,?_⟩;exact ⟨by rw [e5_3];rfl,by simp⟩
 ·rintro k r4 _ wk hk ⟨hA,rfl,xl1,⟨e5,hn⟩⟩;obtain ⟨e0_4,e1_4,-⟩ := hA;rw [e0_3] at e0_4;rw [e1_3] at e1_4;replace xw := Ext.trans xw xl1;refine Wp.seq ?_;refine sRg fun K' gd hK => ?_;go_simp;refine hK _ _ ?_;clear hK K' gd;refine Wp.keep [0,1,5,9] ?_;rintro r5 ⟨e0_5,e1_5,e5_5,e9_5,-⟩;simp [go_sem,e0_4,e1_4,e5] at e0_5 e1_5 e5_5 e9_5;clear e0_4 e1_4 e5
  by_cases h : k < xs.length
  ·refine cTt ?_;obtain ⟨b,o,c5,e1,hb,hc⟩ := hx.get h
   injection e1 with e1 _ e2
   subst e1;subst e2;have d1 := xw.cell (hc k h);rw [gI_lt h] at d1;clear hc
   by_cases h1 : xs[k] = d
   ·skip;refine skN ?_;refine sBk ?_;refine sRg fun K' gd hK => ?_;go_simp;refine hK _ _ ?_;clear hK K' gd;refine Wp.keep [0,1,5,17] ?_;rintro r6 ⟨e0_6,e1_6,e5_6,e17_6,-⟩;simp [go_sem,e0_5,e1_5,e5_5,e9_5] at e0_6 e1_6 e5_6 e17_6;clear e0_5 e1_5 e5_5 e9_5;refine cTt ?_;refine sRg fun K' gd hK => ?_;go_simp;refine hK _ _ ?_;clear hK K' gd;refine Wp.keep [4] ?_;rintro r7 ⟨e4_7,-⟩;simp [go_sem,e0_6,e1_6,e5_6,e17_6] at e4_7;clear e0_6 e1_6 e5_6 e17_6;refine Wp.ret ?_;refine bRe ?_;refine tRe ?_;refine tRe ?_;refine bRe ?_;refine tRe ?_;refine endK_tmp Tryz.results133 (by decide) ?_;rw [e4_7];exact ⟨by rw [decide_eq_true (show d ∈ xs by rw [← h1];exact List.getElem_mem h)],xw⟩
   ·skip;refine skN ?_;refine sBk ?_;refine sRg fun K' gd hK => ?_;go_simp;refine hK _ _ ?_;clear hK K' gd;refine Wp.keep [0,1,5,17] ?_;rintro r8 ⟨e0_8,e1_8,e5_8,e17_8,-⟩;simp [go_sem,e0_5,e1_5,e5_5,e9_5] at e0_8 e1_8 e5_8 e17_8;clear e0_5 e1_5 e5_5 e9_5;refine cFf ?_;refine Wp.skip ?_;refine bNo ?_;refine tNo ?_;refine lRg fun K' gd hK => ?_;go_simp;refine hK _ _ ?_;clear hK K' gd;refine Ends.keep [0,1,5] ?_;rintro r9 ⟨e0_9,e1_9,e5_9,-⟩;simp [go_sem,e0_8,e1_8,e5_8,e17_8] at e0_9 e1_9 e5_9;clear e0_8 e1_8 e5_8 e17_8;refine Ends.mk ?_;refine thenK_normal ⟨by omega,⟨by rw [e0_9,e0_3],by rw [e1_9,e1_3],trivial⟩,rfl,xl1,?_⟩;exact ⟨by rw [e5_9,IntWalk.i64_in _ (by omega)];rfl,by rw [take_snoc h,List.mem_append,List.mem_singleton];rintro (h2 | h2);exact hn h2;exact h1 h2.symm⟩
  ·refine cFf ?_;obtain rfl : k = xs.length := by omega
   rw [List.take_length] at hn;refine Wp.exit ?_;refine tEx ?_;refine tEx ?_;refine blockK_here ?_;refine tNo ?_;refine sRg fun K' gd hK => ?_;go_simp;refine hK _ _ ?_;clear hK K' gd;refine Wp.keep [4] ?_;rintro r10 ⟨e4_10,-⟩;simp [go_sem,e0_5,e1_5,e5_5,e9_5] at e4_10;clear e0_5 e1_5 e5_5 e9_5;refine Wp.ret ?_;refine endK_tmp Tryz.results133 (by decide) ?_;rw [e4_10];exact ⟨by rw [decide_eq_false hn],xw⟩
theorem rflaw_c (t : Tr) (id : Int) (v : Value) (w : World) (hV : TourV w w.heap.size v t) (hl : t.fl.length ≤ 1000000000) :
  CallsV Tryz.prog 111 #[v,.int .i64 id] w fun v' w' => v' = .int .i64 (posF t.fl id) ∧ Ext w w' := by
 obtain ⟨A,c,A2,c2,rfl,hI,hF⟩ := hV.open';have hFS : FlawsS w w.heap.size (.slice A2 t.fl.length c2) t.fl := ⟨hF⟩;clear hV hI hF;refine Wp.fn Tryz.func111 rfl Tryz.ntmps111 (by simp) ?_;have xw := Ext.refl w;refine Wp.keep [0,1] ?_;rintro r1 ⟨e0_1,e1_1,-⟩;simp [go_sem] at e0_1 e1_1;refine sRg fun K' gd hK => ?_;refine cu1 fun K1 hK1 => ?_;go_simp;refine hK1 _ _ ?_;clear hK1 K1;refine Wops.absA fun V2_1 n2 hV2_1 => ?_;obtain ⟨q2,hV2_1,s2,kV2_1,f2,r2⟩ := hV2_1;try simp only [q2] at kV2_1 f2 r2 ⊢
 replace hFS := hFS.ext hV2_1;replace xw := xw.trans hV2_1;have c2_2 := kV2_1 2 _ rfl;clear kV2_1 hV2_1;clear r2;go_simp;refine hK _ _ ?_;clear hK K' gd;refine Wp.keep [1,2] ?_;rintro r2 ⟨e1_2,e2_2,-⟩;simp [go_sem,e0_1,e1_1] at e1_2 e2_2;clear e0_1 e1_1;refine Wp.seq ?_;refine sRg fun K' gd hK => ?_;go_simp;refine hK _ _ ?_;clear hK K' gd;refine Wp.keep [1,2,5] ?_;rintro r3 ⟨e1_3,e2_3,e5_3,-⟩;simp [go_sem,e1_2,e2_2] at e1_3 e2_3 e5_3;clear e1_2 e2_2;refine Wp.block ?_;refine Wp.loop (fun k ρ ds wk => AllEq [1,2] ρ r3 ∧ ds = [] ∧ (Ext V2_1 wk) ∧ (ρ 5 = .int .i64 (k : Int) ∧ (∃ _u : Unit,∀ j (hj : j < t.fl.length),j < k → t.fl[j].id ≠ id))) (t.fl.length) ?_ ?_
 ·refine ⟨AllEq.refl _ _,rfl,Ext.refl _,?_⟩;exact ⟨by rw [e5_3];rfl,(),fun j _ hj => absurd hj (Nat.not_lt_zero _)⟩
 ·rintro k r4 _ wk hk ⟨hA,rfl,xl2,⟨e5,hn⟩⟩;obtain ⟨e1_4,e2_4,-⟩ := hA;rw [e1_3] at e1_4;rw [e2_3] at e2_4;replace hFS := hFS.ext xl2;replace xw := Ext.trans xw xl2;replace c2_2 := Ext.cell xl2 c2_2;refine Wp.seq ?_;refine sRg fun K' gd hK => ?_;go_simp;refine hK _ _ ?_;clear hK K' gd;refine Wp.keep [1,2,5,10] ?_;rintro r5 ⟨e1_5,e2_5,e5_5,e10_5,-⟩;simp [go_sem,e1_4,e2_4,e5] at e1_5 e2_5 e5_5 e10_5;clear e1_4 e2_4 e5
  by_cases h : k < t.fl.length
  ·refine cTt ?_;obtain ⟨b,o,eA,hb,x0,x1,x2,x3⟩ := FlawsV.at hFS.v h;subst eA;have hkl : (k : Int) < (t.fl.length : Int) := by omega
   by_cases he : t.fl[k].id = id
   ·skip;refine skN ?_;refine sBk ?_;refine sRg fun K' gd hK => ?_;go_simp;refine hK _ _ ?_;clear hK K' gd;refine Wp.keep [1,2,5,20] ?_;rintro r6 ⟨e1_6,e2_6,e5_6,e20_6,-⟩;simp [go_sem,e1_5,e2_5,e5_5,e10_5] at e1_6 e2_6 e5_6 e20_6;clear e1_5 e2_5 e5_5 e10_5;refine cTt ?_;refine sRg fun K' gd hK => ?_;go_simp;refine hK _ _ ?_;clear hK K' gd;refine Wp.keep [4] ?_;rintro r7 ⟨e4_7,-⟩;simp [go_sem,e1_6,e2_6,e5_6,e20_6] at e4_7;clear e1_6 e2_6 e5_6 e20_6;refine Wp.ret ?_;refine bRe ?_;refine tRe ?_;refine tRe ?_;refine bRe ?_;refine tRe ?_;refine endK_tmp Tryz.results111 (by decide) ?_;rw [e4_7];exact ⟨by rw [← FindP.eq (fl := t.fl) (id := id) (r := (k : Int)) (.inl ⟨k,rfl,h,he,fun j hj => hn.choose_spec j (by omega) hj⟩)],xw⟩
   ·skip;refine skN ?_;refine sBk ?_;refine sRg fun K' gd hK => ?_;go_simp;refine hK _ _ ?_;clear hK K' gd;refine Wp.keep [1,2,5,20] ?_;rintro r8 ⟨e1_8,e2_8,e5_8,e20_8,-⟩;simp [go_sem,e1_5,e2_5,e5_5,e10_5] at e1_8 e2_8 e5_8 e20_8;clear e1_5 e2_5 e5_5 e10_5;refine cFf ?_;refine Wp.skip ?_;refine bNo ?_;refine tNo ?_;refine lRg fun K' gd hK => ?_;go_simp;refine hK _ _ ?_;clear hK K' gd;refine Ends.keep [1,2,5] ?_;rintro r9 ⟨e1_9,e2_9,e5_9,-⟩;simp [go_sem,e1_8,e2_8,e5_8,e20_8] at e1_9 e2_9 e5_9;clear e1_8 e2_8 e5_8 e20_8;refine Ends.mk ?_;refine thenK_normal ⟨by omega,⟨by rw [e1_9,e1_3],by rw [e2_9,e2_3],trivial⟩,rfl,xl2,?_⟩;exact ⟨by rw [e5_9,IntWalk.i64_in _ (by omega)];rfl,(),fun j hj hk => by by_cases e : j = k;(subst e;exact he);exact hn.choose_spec j hj (by omega)⟩
  ·refine cFf ?_;refine Wp.exit ?_;refine tEx ?_;refine tEx ?_;refine blockK_here ?_;refine tNo ?_;refine sRg fun K' gd hK => ?_;go_simp;refine hK _ _ ?_;clear hK K' gd;refine Wp.keep [4] ?_;rintro r10 ⟨e4_10,-⟩;simp [go_sem,e1_5,e2_5,e5_5,e10_5] at e4_10;clear e1_5 e2_5 e5_5 e10_5;refine Wp.ret ?_;refine endK_tmp Tryz.results111 (by decide) ?_;rw [e4_10];exact ⟨by rw [← FindP.eq (fl := t.fl) (id := id) (r := -1) (.inr ⟨rfl,fun j hj => hn.choose_spec j hj (by omega)⟩)],xw⟩
theorem rmay_c (t : Tr) (f : Fl) (d : Int) (v : Value) (w : World) (hV : TourV w w.heap.size v t) (hl : t.cl.length ≤ 1000000000000000) :
  CallsV Tryz.prog 112 #[v,flV f,.int .i64 d] w fun v' w' => v' = .bool (okDay t f.lo f.hi d) ∧ Ext w w' := by
 obtain ⟨A,c,A2,c2,rfl,hI,hF⟩ := hV.open';have hIS : IntsS w w.heap.size (.slice A t.cl.length c) t.cl := ⟨hI⟩;clear hV hI hF;unfold flV;refine Wp.fn Tryz.func112 rfl Tryz.ntmps112 (by simp) ?_;have xw := Ext.refl w;refine Wp.keep [0,1,2] ?_;rintro r1 ⟨e0_1,e1_1,e2_1,-⟩;simp [go_sem] at e0_1 e1_1 e2_1;refine sRg fun K' gd hK => ?_;refine cu1 fun K1 hK1 => ?_;go_simp;refine hK1 _ _ ?_;clear hK1 K1;refine Wops.absA fun V3_1 n3 hV3_1 => ?_;obtain ⟨q3,hV3_1,s3,kV3_1,f3,r3⟩ := hV3_1;try simp only [q3] at kV3_1 f3 r3 ⊢
 replace hIS := hIS.ext hV3_1;replace xw := xw.trans hV3_1;have c3_1 := kV3_1 1 _ rfl;clear kV3_1 hV3_1;clear r3;refine cu1 fun K1 hK1 => ?_;go_simp;refine hK1 _ _ ?_;clear hK1 K1;refine Wops.absA fun V4_2 n4 hV4_2 => ?_;obtain ⟨q4,hV4_2,s4,kV4_2,f4,r4⟩ := hV4_2;try simp only [q4] at kV4_2 f4 r4 ⊢
 replace hIS := hIS.ext hV4_2;replace xw := xw.trans hV4_2;replace c3_1 := hV4_2.cell c3_1;have c4_1 := kV4_2 1 _ rfl;have c4_2 := kV4_2 2 _ rfl;clear kV4_2 hV4_2;clear r4;go_simp;refine hK _ _ ?_;clear hK K' gd;refine Wp.keep [2,3,4] ?_;rintro r2 ⟨e2_2,e3_2,e4_2,-⟩;simp [go_sem,e0_1,e1_1,e2_1] at e2_2 e3_2 e4_2;clear e0_1 e1_1 e2_1
 by_cases h : f.lo ≤ d ∧ d ≤ f.hi
 ·skip;refine sRh fun K' gd hK hg => ?_;have g8 : gd 8 = some 15 := hg 8;clear hg;refine cu8 fun K1 hK1 => ?_;go_simp;refine Wcall (.inl rfl) (rin_T h _) ?_;rintro v w2 ⟨rfl,hE⟩;go_simp;refine hK1 _ _ ?_;clear hK1 K1;replace hIS := hIS.ext hE;replace xw := xw.trans hE;replace c3_1 := hE.cell c3_1;clear hE;refine cu5 fun K1 hK1 => ?_;go_simp;refine Wcall (.inl rfl) (rhas_c _ t.cl d _ (hIS.v.more (Below.size (XE))) hl) ?_;rintro v w3 ⟨rfl,hE⟩;go_simp;refine hK1 _ _ ?_;clear hK1 K1;replace xw := xw.trans hE;clear hE;go_simp;refine hK _ _ ?_;clear hK K' gd g8;refine Wp.keep [6] ?_;rintro r5 ⟨e6_5,-⟩;simp [go_sem,e2_2,e3_2,e4_2] at e6_5;clear e2_2 e3_2 e4_2;refine Wp.ret ?_;refine endK_tmp Tryz.results112 (by decide) ?_;rw [e6_5];exact ⟨by first | (unfold okDay;simp [h];done) | (unfold okDay;rfl),xw⟩
 ·skip;refine sRh fun K' gd hK hg => ?_;have g8 : gd 8 = some 15 := hg 8;clear hg;refine cu8 fun K1 hK1 => ?_;go_simp;refine Wcall (.inl rfl) (rin_F h _) ?_;rintro v w2 ⟨rfl,hE⟩;go_simp;refine hK1 _ _ ?_;clear hK1 K1;replace xw := xw.trans hE;clear hE;refine cu5 fun K1 hK1 => ?_;go_simp;refine hK1 _ _ ?_;clear hK1 K1;go_simp;refine hK _ _ ?_;clear hK K' gd g8;refine Wp.keep [6] ?_;rintro r7 ⟨e6_7,-⟩;simp [go_sem,e2_2,e3_2,e4_2] at e6_7;clear e2_2 e3_2 e4_2;refine Wp.ret ?_;refine endK_tmp Tryz.results112 (by decide) ?_;rw [e6_7];exact ⟨by unfold okDay;rw [decide_eq_false fun q => h q.1],xw⟩
theorem posF_first {fl : List Fl} {id : Int} {i : Nat} : posF fl id < (i : Int) ∧ 0 ≤ posF fl id ↔ ∃ j : Nat,j < i ∧ ∃ h : j < fl.length,fl[j].id = id := by
 unfold posF
 cases e : fl.findIdx? (fun f => decide (f.id = id)) with
 | none =>
   refine ⟨fun h => absurd h.2 (by show ¬ (0 : Int) ≤ -1;decide),?_⟩;rintro ⟨j,-,hj,q⟩;rw [List.findIdx?_eq_none_iff] at e;have := e _ (List.getElem_mem hj);rw [decide_eq_false_iff_not] at this;exact absurd q this
 | some k =>
   show ((k : Int) < (i : Int) ∧ 0 ≤ (k : Int)) ↔ _
   rw [List.findIdx?_eq_some_iff_getElem] at e;obtain ⟨h1,h2,h3⟩ := e;rw [decide_eq_true_iff] at h2
   constructor
   ·rintro ⟨h,-⟩;exact ⟨k,by omega,h1,h2⟩
   ·rintro ⟨j,hj,hjl,q⟩;refine ⟨?_,by omega⟩
    by_cases c : j < k
    ·have := h3 j c;rw [decide_eq_true_iff] at this;exact absurd q this
    ·omega
theorem rcheck_c (t : Tr) (v : Value) (w : World) (hV : TourV w w.heap.size v t) (hf : FitT t) :
  CallsV Tryz.prog 66 #[v] w fun v' w' => v' = .int .i64 (checkT t) ∧ Ext w w' := by
 obtain ⟨A,c,A2,c2,rfl,hI,hF⟩ := hV.open';have hIS : IntsS w w.heap.size (.slice A t.cl.length c) t.cl := ⟨hI⟩;have hFS : FlawsS w w.heap.size (.slice A2 t.fl.length c2) t.fl := ⟨hF⟩;have hTS : TourS w w.heap.size (.agg #[.int .i64 t.n,.slice A t.cl.length c,.slice A2 t.fl.length c2]) t := ⟨hV⟩;obtain ⟨n,hn⟩ : ∃ n,∃ _u : Unit,t.n = n := ⟨_,(),rfl⟩;have hfc := hf.cl;have hff := hf.fl;clear hV hI hF;rw [hn.choose_spec] at hTS ⊢;refine Wp.fn Tryz.func66 rfl Tryz.ntmps66 (by simp) ?_;have xw := Ext.refl w;refine Wp.keep [0] ?_;rintro r1 ⟨e0_1,-⟩;simp [go_sem] at e0_1
 by_cases h1 : 1 ≤ n ∧ n ≤ 60
 ·skip;refine sRg fun K' gd hK => ?_;refine cu1 fun K1 hK1 => ?_;go_simp;refine hK1 _ _ ?_;clear hK1 K1;refine Wops.absA fun V1_1 n1 hV1_1 => ?_;obtain ⟨q1,hV1_1,s1,kV1_1,f1,r1⟩ := hV1_1;try simp only [q1] at kV1_1 f1 r1 ⊢
  replace hIS := hIS.ext hV1_1;replace hFS := hFS.ext hV1_1;replace hTS := hTS.ext hV1_1;replace xw := xw.trans hV1_1;have c1_0 := kV1_1 0 _ rfl;have c1_1 := kV1_1 1 _ rfl;have c1_2 := kV1_1 2 _ rfl;clear kV1_1 hV1_1;clear r1;go_simp;refine hK _ _ ?_;clear hK K' gd;refine Wp.keep [1] ?_;rintro r2 ⟨e1_2,-⟩;simp [go_sem,e0_1] at e1_2;clear e0_1;refine Wp.seq ?_;refine sRg fun K' gd hK => ?_;refine cu3 fun K1 hK1 => ?_;go_simp;refine Wcall (.inl rfl) (rin_T h1 _) ?_;rintro v w2 ⟨rfl,hE⟩;go_simp;refine hK1 _ _ ?_;clear hK1 K1;replace hIS := hIS.ext hE;replace hFS := hFS.ext hE;replace hTS := hTS.ext hE;replace xw := xw.trans hE;replace c1_0 := hE.cell c1_0;replace c1_1 := hE.cell c1_1;replace c1_2 := hE.cell c1_2;clear hE;go_simp;refine hK _ _ ?_;clear hK K' gd;refine Wp.keep [1,9] ?_;rintro r4 ⟨e1_4,e9_4,-⟩;simp [go_sem,e1_2] at e1_4 e9_4;clear e1_2;refine cFf ?_;have hw1 : IntKind.i64.wrap (n - 1) = n - 1 := IntWalk.i64_in _ (by omega);refine skN ?_;refine Wp.seq ?_;refine sRg fun K' gd hK => ?_;go_simp;refine hK _ _ ?_;clear hK K' gd;refine Wp.keep [1,3] ?_;rintro r5 ⟨e1_5,e3_5,-⟩;simp [go_sem,e1_4,e9_4] at e1_5 e3_5
  clear e1_4 e9_4;refine Wp.block ?_;refine Wp.loop (fun k ρ ds wk => AllEq [1] ρ r5 ∧ ds = [] ∧ (Ext w2 wk) ∧ (ρ 3 = .int .i64 (k : Int) ∧ (∃ _u : Unit,∀ j,j < k → ClAt n t.cl j))) (t.cl.length) ?_ ?_
  ·refine ⟨AllEq.refl _ _,rfl,Ext.refl _,?_⟩;exact ⟨by rw [e3_5];rfl,(),fun j hj => absurd hj (Nat.not_lt_zero _)⟩
  ·rintro k r6 _ wk hk ⟨hA,rfl,xl2,⟨e3,hq⟩⟩;obtain ⟨e1_6,-⟩ := hA;rw [e1_5] at e1_6;replace hIS := hIS.ext xl2;replace hFS := hFS.ext xl2;replace hTS := hTS.ext xl2;replace xw := Ext.trans xw xl2;replace c1_0 := Ext.cell xl2 c1_0;replace c1_1 := Ext.cell xl2 c1_1;replace c1_2 := Ext.cell xl2 c1_2;refine Wp.seq ?_;refine sRg fun K' gd hK => ?_;go_simp;refine hK _ _ ?_;clear hK K' gd;refine Wp.keep [1,3,14] ?_;rintro r7 ⟨e1_7,e3_7,e14_7,-⟩;simp [go_sem,e1_6,e3] at e1_7 e3_7 e14_7;clear e1_6 e3
   by_cases hk : k < t.cl.length
   ·refine cTt ?_;have hkl : (k : Int) < (t.cl.length : Int) := by omega
    obtain ⟨b,o,cc,ev,hb,hcc⟩ := hIS.v.get hk
    injection ev with ev1 _ ev2
    subst ev1;subst ev2;have x1 := hcc k hk;refine skN ?_;refine sBk ?_
    by_cases h2 : 0 ≤ gI t.cl k ∧ gI t.cl k ≤ n - 1
    ·skip
     by_cases h3 : 0 < k
     ·skip;obtain ⟨j,hj⟩ : ∃ j,∃ _u : Unit,k = j + 1 := ⟨k - 1,(),by omega⟩;have hj2 : ∃ _u : Unit,j < t.cl.length := ⟨(),by have := hj.choose_spec;omega⟩;have x2 := hcc j hj2.choose_spec;have hk0 : (0 : Int) < (k : Int) := by omega
      have hkw : IntKind.i64.wrap ((k : Int) - 1) = (j : Int) := by have := hj.choose_spec;rw [IntWalk.i64_in _ (by omega)];omega
      have hjl : (j : Int) < (t.cl.length : Int) := by have := hj2.choose_spec;omega
      clear hcc
      by_cases h4 : gI t.cl k ≤ gI t.cl j
      ·skip;refine Wp.seqDraw (.inl rfl) mixed [([0,1,2,3,4],none),([5,6,7],some (8,false)),([9,10],none),([11,12,13],none),([14,15,16,17,18],none),([19,20,21,22,23],none),([24,25,26,27],none)] (by kernel_rfl) fun K' gd hK hg => ?_;have g10 : gd 10 = some 27 := hg 10;have g13 : gd 13 = some 30 := hg 13;clear hg;simp only [pick,nth,List.map_cons,List.map_nil,Option.map_none,Option.map_some];refine Mops.absD fun D3 hD3 zD3 => ?_;replace xw := xw.trans hD3;replace xl2 := xl2.trans hD3;replace c1_0 := hD3.cell c1_0;replace c1_1 := hD3.cell c1_1;replace x1 := hD3.cell x1;replace x2 := hD3.cell x2;clear hD3;refine mNo ?_
       refine mAc ?_
       intro K1 hK1;go_simp;refine Wcall (.inl rfl) (rin_T h2 _) ?_;rintro v w3 ⟨rfl,hE⟩;go_simp;refine hK1 _ _ (by assumption) ?_;clear hK1 K1;replace xw := xw.trans hE;replace xl2 := xl2.trans hE;replace c1_1 := hE.cell c1_1;replace x1 := hE.cell x1;replace x2 := hE.cell x2;clear hE;apply Mops.none
       ·intro w' hE';go_simp;with_reducible rfl
       apply Mops.none
       ·intro w' hE';go_simp;with_reducible rfl
       refine mNo ?_
       refine mNo ?_
       refine mNo ?_
       refine Mops.done ?_;refine hK _ _ ?_;clear hK K' gd g10 g13;refine Wp.keep [1,3,44] ?_;rintro r9 ⟨e1_9,e3_9,e44_9,-⟩;simp [go_sem,e1_7,e3_7,e14_7] at e1_9 e3_9 e44_9;clear e1_7 e3_7 e14_7;refine cTt ?_;refine sRg fun K' gd hK => ?_;go_simp;refine hK _ _ ?_;clear hK K' gd;refine Wp.keep [2] ?_;rintro r10 ⟨e2_10,-⟩;simp [go_sem,e1_9,e3_9,e44_9] at e2_10;clear e1_9 e3_9 e44_9;refine Wp.ret ?_;refine bRe ?_;refine tRe ?_;refine tRe ?_;refine bRe ?_;refine tRe ?_;refine endK_tmp Tryz.results66 (by decide) ?_;rw [e2_10];exact ⟨by unfold checkT;rw [hn.choose_spec,if_neg (by simpa using h1),if_pos fun hc => by have := (hc k hk).2 h3;rw [show k - 1 = j by have := hj.choose_spec;omega] at this;omega],xw⟩
      ·skip;refine Wp.seqDraw (.inl rfl) mixed [([0,1,2,3,4],none),([5,6,7],some (8,false)),([9,10],none),([11,12,13],none),([14,15,16,17,18],none),([19,20,21,22,23],none),([24,25,26,27],none)] (by kernel_rfl) fun K' gd hK hg => ?_;have g10 : gd 10 = some 27 := hg 10;have g13 : gd 13 = some 30 := hg 13;clear hg;simp only [pick,nth,List.map_cons,List.map_nil,Option.map_none,Option.map_some];refine Mops.absD fun D4 hD4 zD4 => ?_;replace xw := xw.trans hD4;replace xl2 := xl2.trans hD4;replace c1_0 := hD4.cell c1_0;replace c1_1 := hD4.cell c1_1;replace x1 := hD4.cell x1;replace x2 := hD4.cell x2;clear hD4;refine mNo ?_
       refine mAc ?_
       intro K1 hK1;go_simp;refine Wcall (.inl rfl) (rin_T h2 _) ?_;rintro v w3 ⟨rfl,hE⟩;go_simp;refine hK1 _ _ (by assumption) ?_;clear hK1 K1;replace xw := xw.trans hE;replace xl2 := xl2.trans hE;replace c1_1 := hE.cell c1_1;replace x1 := hE.cell x1;replace x2 := hE.cell x2;clear hE;apply Mops.none
       ·intro w' hE';go_simp;with_reducible rfl
       apply Mops.none
       ·intro w' hE';go_simp;with_reducible rfl
       refine mNo ?_
       refine mNo ?_
       refine mNo ?_
       refine Mops.done ?_;refine hK _ _ ?_;clear hK K' gd g10 g13;refine Wp.keep [1,3,44] ?_;rintro r12 ⟨e1_12,e3_12,e44_12,-⟩;simp [go_sem,e1_7,e3_7,e14_7] at e1_12 e3_12 e44_12;clear e1_7 e3_7 e14_7;refine cFf ?_;refine Wp.skip ?_;refine bNo ?_;refine tNo ?_;refine lRg fun K' gd hK => ?_;go_simp;refine hK _ _ ?_;clear hK K' gd;refine Ends.keep [1,3] ?_;rintro r13 ⟨e1_13,e3_13,-⟩;simp [go_sem,e1_12,e3_12,e44_12] at e1_13 e3_13;clear e1_12 e3_12 e44_12;refine Ends.mk ?_;refine thenK_normal ⟨by omega,⟨by rw [e1_13,e1_5],trivial⟩,rfl,xl2,?_⟩;exact ⟨by rw [e3_13,IntWalk.i64_in _ (by omega)];rfl,(),fun i hi => by by_cases e : i = k;(subst e;exact ⟨h2,fun _ => by rw [show i - 1 = j by have := hj.choose_spec;omega];omega⟩);exact hq.choose_spec i (by omega)⟩
     ·skip;have hk0 : ¬ (0 : Int) < (k : Int) := by omega
      clear hcc;refine Wp.seqDraw (.inl rfl) mixed [([0,1,2,3,4],none),([5,6,7],some (8,false)),([9,10],none),([11,12,13],none),([14,15,16,17,18],none),([19,20,21,22,23],none),([24,25,26,27],none)] (by kernel_rfl) fun K' gd hK hg => ?_;have g10 : gd 10 = some 27 := hg 10;have g13 : gd 13 = some 30 := hg 13;clear hg;simp only [pick,nth,List.map_cons,List.map_nil,Option.map_none,Option.map_some];refine Mops.absD fun D5 hD5 zD5 => ?_;replace xw := xw.trans hD5;replace xl2 := xl2.trans hD5;replace c1_0 := hD5.cell c1_0;replace c1_1 := hD5.cell c1_1;replace x1 := hD5.cell x1;clear hD5;refine mNo ?_
      refine mAc ?_
      intro K1 hK1;go_simp;refine Wcall (.inl rfl) (rin_T h2 _) ?_;rintro v w3 ⟨rfl,hE⟩;go_simp;refine hK1 _ _ (by assumption) ?_;clear hK1 K1;replace xw := xw.trans hE;replace xl2 := xl2.trans hE;replace x1 := hE.cell x1;clear hE;apply Mops.none
      ·intro w' hE';go_simp;with_reducible rfl
      apply Mops.none
      ·intro w' hE';go_simp;with_reducible rfl
      apply Mops.none
      ·intro w' hE';go_simp;with_reducible rfl
      apply Mops.none
      ·intro w' hE';go_simp;with_reducible rfl
      apply Mops.none
      ·intro w' hE';go_simp;with_reducible rfl
      refine Mops.done ?_;refine hK _ _ ?_;clear hK K' gd g10 g13;refine Wp.keep [1,3,44] ?_;rintro r15 ⟨e1_15,e3_15,e44_15,-⟩;simp [go_sem,e1_7,e3_7,e14_7] at e1_15 e3_15 e44_15;clear e1_7 e3_7 e14_7;refine cFf ?_;refine Wp.skip ?_;refine bNo ?_;refine tNo ?_;refine lRg fun K' gd hK => ?_;go_simp;refine hK _ _ ?_;clear hK K' gd;refine Ends.keep [1,3] ?_;rintro r16 ⟨e1_16,e3_16,-⟩;simp [go_sem,e1_15,e3_15,e44_15] at e1_16 e3_16;clear e1_15 e3_15 e44_15;refine Ends.mk ?_;refine thenK_normal ⟨by omega,⟨by rw [e1_16,e1_5],trivial⟩,rfl,xl2,?_⟩;exact ⟨by rw [e3_16,IntWalk.i64_in _ (by omega)];rfl,(),fun i hi => by by_cases e : i = k;(subst e;exact ⟨h2,fun h => absurd h h3⟩);exact hq.choose_spec i (by omega)⟩
    ·skip;clear hcc;refine Wp.seqDraw (.inl rfl) mixed [([0,1,2,3,4],none),([5,6,7],some (8,false)),([9,10],none),([11,12,13],none),([14,15,16,17,18],none),([19,20,21,22,23],none),([24,25,26,27],none)] (by kernel_rfl) fun K' gd hK hg => ?_;have g10 : gd 10 = some 27 := hg 10;have g13 : gd 13 = some 30 := hg 13;clear hg;simp only [pick,nth,List.map_cons,List.map_nil,Option.map_none,Option.map_some];refine Mops.absD fun D6 hD6 zD6 => ?_;replace xw := xw.trans hD6;replace xl2 := xl2.trans hD6;replace c1_0 := hD6.cell c1_0;replace c1_1 := hD6.cell c1_1;replace x1 := hD6.cell x1;clear hD6;refine mNo ?_
     refine mAc ?_
     intro K1 hK1;go_simp;refine Wcall (.inl rfl) (rin_F h2 _) ?_;rintro v w3 ⟨rfl,hE⟩;go_simp;refine hK1 _ _ (by assumption) ?_;clear hK1 K1;replace xw := xw.trans hE;replace xl2 := xl2.trans hE;clear hE;apply Mops.none
     ·intro w' hE';go_simp;with_reducible rfl
     apply Mops.none
     ·intro w' hE';go_simp;with_reducible rfl
     apply Mops.none
     ·intro w' hE';go_simp;with_reducible rfl
     apply Mops.none
     ·intro w' hE';go_simp;with_reducible rfl
     apply Mops.none
     ·intro w' hE';go_simp;with_reducible rfl
     refine Mops.done ?_;refine hK _ _ ?_;clear hK K' gd g10 g13;refine Wp.keep [1,3,44] ?_;rintro r18 ⟨e1_18,e3_18,e44_18,-⟩;simp [go_sem,e1_7,e3_7,e14_7] at e1_18 e3_18 e44_18;clear e1_7 e3_7 e14_7;refine cTt ?_;refine sRg fun K' gd hK => ?_;go_simp;refine hK _ _ ?_;clear hK K' gd;refine Wp.keep [2] ?_;rintro r19 ⟨e2_19,-⟩;simp [go_sem,e1_18,e3_18,e44_18] at e2_19;clear e1_18 e3_18 e44_18;refine Wp.ret ?_;refine bRe ?_;refine tRe ?_;refine tRe ?_;refine bRe ?_;refine tRe ?_;refine endK_tmp Tryz.results66 (by decide) ?_;rw [e2_19];exact ⟨by unfold checkT;rw [hn.choose_spec,if_neg (by simpa using h1),if_pos fun hc => h2 (hc k hk).1],xw⟩
   ·refine cFf ?_;have hcl : ∃ _u : Unit,ClOk n t.cl := ⟨(),fun j hj => hq.choose_spec j (by omega)⟩;refine Wp.exit ?_;refine tEx ?_;refine tEx ?_;refine blockK_here ?_;refine tNo ?_;refine Wp.seq ?_;refine sRg fun K' gd hK => ?_;go_simp;refine hK _ _ ?_;clear hK K' gd;refine Wp.keep [1,48] ?_;rintro r20 ⟨e1_20,e48_20,-⟩;simp [go_sem,e1_7,e3_7,e14_7] at e1_20 e48_20;clear e1_7 e3_7 e14_7
    by_cases h5 : (40 : Int) < (t.fl.length : Int)
    ·refine cTt ?_;refine sRg fun K' gd hK => ?_;go_simp;refine hK _ _ ?_;clear hK K' gd;refine Wp.keep [2] ?_;rintro r21 ⟨e2_21,-⟩;simp [go_sem,e1_20,e48_20] at e2_21;clear e1_20 e48_20;refine Wp.ret ?_;refine tRe ?_;refine endK_tmp Tryz.results66 (by decide) ?_;rw [e2_21];exact ⟨by unfold checkT;rw [hn.choose_spec,if_neg (by simpa using h1),if_neg (by simpa using hcl.choose_spec),if_pos (by omega)],xw⟩
    ·refine cFf ?_;have hcs : ∃ _u : Unit,checkT t = chkFl n [] t.fl := ⟨(),by unfold checkT;rw [hn.choose_spec,if_neg (by simpa using h1),if_neg (by simpa using hcl.choose_spec),if_neg (by omega)]⟩;refine skN ?_;refine Wp.seq ?_;refine sRg fun K' gd hK => ?_;go_simp;refine hK _ _ ?_;clear hK K' gd;refine Wp.keep [1,4] ?_;rintro r22 ⟨e1_22,e4_22,-⟩;simp [go_sem,e1_20,e48_20] at e1_22 e4_22;clear e1_20 e48_20;refine Wp.block ?_;refine Wp.loop (fun i ρ ds wi => AllEq [1] ρ r22 ∧ ds = [] ∧ (Ext wk wi) ∧ (∃ ids,ρ 4 = .int .i64 (i : Int) ∧ (∃ _u : Unit,(∀ x : Int,x ∈ ids ↔ ∃ j : Nat,j < i ∧ ∃ h : j < t.fl.length,t.fl[j].id = x) ∧ chkFl n ids (t.fl.drop i) = checkT t))) (t.fl.length) ?_ ?_
     ·refine ⟨AllEq.refl _ _,rfl,Ext.refl _,?_⟩;exact ⟨[],by rw [e4_22];rfl,(),fun x => ⟨fun h => absurd h List.not_mem_nil,fun ⟨j,hj,_⟩ => absurd hj (Nat.not_lt_zero _)⟩,by rw [List.drop_zero];exact hcs.choose_spec.symm⟩
     ·rintro i r23 _ wi hi ⟨hA,rfl,xl7,⟨ids,e4,hil⟩⟩;obtain ⟨e1_23,-⟩ := hA;rw [e1_22] at e1_23;replace hFS := hFS.ext xl7;replace hTS := hTS.ext xl7;replace xw := Ext.trans xw xl7;replace xl2 := Ext.trans xl2 xl7;replace c1_0 := Ext.cell xl7 c1_0;replace c1_1 := Ext.cell xl7 c1_1;replace c1_2 := Ext.cell xl7 c1_2;refine Wp.seq ?_;refine sRg fun K' gd hK => ?_;go_simp;refine hK _ _ ?_;clear hK K' gd;refine Wp.keep [1,4,53] ?_;rintro r24 ⟨e1_24,e4_24,e53_24,-⟩;simp [go_sem,e1_23,e4] at e1_24 e4_24 e53_24;clear e1_23 e4
      by_cases hi : i < t.fl.length
      ·refine cTt ?_;have hif2 : (i : Int) < (t.fl.length : Int) := by omega
       obtain ⟨b2,o2,eA,hb2,x0,x1,x2,x3⟩ := FlawsV.at hFS.v hi;subst eA;obtain ⟨G,hG⟩ : ∃ G,∃ _u : Unit,t.fl[i] = G := ⟨_,(),rfl⟩;rw [hG.choose_spec] at x0 x1 x2 x3;have hck : ∃ _u : Unit,chkFl n ids (G :: t.fl.drop (i + 1)) = checkT t := ⟨(),by have := hil.choose_spec.2;rwa [drop_cons hi,hG.choose_spec] at this⟩;refine skN ?_;refine sBk ?_;refine sRg fun K' gd hK => ?_;refine cu7 fun K1 hK1 => ?_;go_simp;refine hK1 _ _ ?_;clear hK1 K1;refine Wops.absA fun V5_8 n5 hV5_8 => ?_;obtain ⟨q5,hV5_8,s5,kV5_8,f5,r5⟩ := hV5_8;try simp only [q5] at kV5_8 f5 r5 ⊢
       replace hTS := hTS.ext hV5_8;replace xw := xw.trans hV5_8;replace xl2 := xl2.trans hV5_8;replace xl7 := xl7.trans hV5_8;replace c1_0 := hV5_8.cell c1_0;replace c1_1 := hV5_8.cell c1_1;replace c1_2 := hV5_8.cell c1_2;replace x0 := hV5_8.cell x0;replace x1 := hV5_8.cell x1;replace x2 := hV5_8.cell x2;replace x3 := hV5_8.cell x3;have c5_0 := kV5_8 0 _ rfl;have c5_1 := kV5_8 1 _ rfl;have c5_2 := kV5_8 2 _ rfl;have c5_3 := kV5_8 3 _ rfl;clear kV5_8 hV5_8;clear r5;try simp only [Wops_nil,updO_some,updO_none]
       refine hK _ _ ?_;clear hK K' gd;refine Wp.keep [1,4,5] ?_;rintro r25 ⟨e1_25,e4_25,e5_25,-⟩;simp [go_sem,e1_24,e4_24,e53_24] at e1_25 e4_25 e5_25;clear e1_24 e4_24 e53_24;refine Wp.seq ?_
       by_cases k1 : 1 ≤ G.id ∧ G.id ≤ 1099511627776
       ·skip
        by_cases k2 : 0 ≤ G.lo ∧ G.lo ≤ G.hi ∧ G.hi < n
        ·skip
         by_cases k3 : 1 ≤ G.m ∧ G.m ≤ 1000
         ·skip;refine sRh fun K' gd hK hg => ?_;have g4 : gd 4 = some 65 := hg 4;have g11 : gd 11 = some 72 := hg 11;clear hg;refine cu3 fun K1 hK1 => ?_;go_simp;refine Wcall (.inl rfl) (rin_T k1 _) ?_;rintro v w3 ⟨rfl,hE⟩;go_simp;refine hK1 _ _ ?_;clear hK1 K1;replace hTS := hTS.ext hE;replace xw := xw.trans hE;replace xl2 := xl2.trans hE;replace xl7 := xl7.trans hE;replace c1_0 := hE.cell c1_0;replace c1_1 := hE.cell c1_1;replace c1_2 := hE.cell c1_2;replace x0 := hE.cell x0;replace x1 := hE.cell x1;replace x2 := hE.cell x2;replace x3 := hE.cell x3;replace c5_0 := hE.cell c5_0;replace c5_1 := hE.cell c5_1;replace c5_2 := hE.cell c5_2;replace c5_3 := hE.cell c5_3;clear hE;refine cu6 fun K1 hK1 => ?_;go_simp;refine Wcall (.inl rfl) (rspan_T k2 _) ?_;rintro v w4 ⟨rfl,hE⟩;go_simp;refine hK1 _ _ ?_;clear hK1 K1;replace hTS := hTS.ext hE;replace xw := xw.trans hE;replace xl2 := xl2.trans hE;replace xl7 := xl7.trans hE;replace c1_0 := hE.cell c1_0;replace c1_1 := hE.cell c1_1;replace c1_2 := hE.cell c1_2;replace x0 := hE.cell x0;replace x1 := hE.cell x1;replace x2 := hE.cell x2;replace x3 := hE.cell x3
          replace c5_0 := hE.cell c5_0;replace c5_3 := hE.cell c5_3;clear hE;refine cu6 fun K1 hK1 => ?_;go_simp;refine Wcall (.inl rfl) (rin_T k3 _) ?_;rintro v w5 ⟨rfl,hE⟩;go_simp;refine hK1 _ _ ?_;clear hK1 K1;replace hTS := hTS.ext hE;replace xw := xw.trans hE;replace xl2 := xl2.trans hE;replace xl7 := xl7.trans hE;replace c1_0 := hE.cell c1_0;replace c1_1 := hE.cell c1_1;replace c1_2 := hE.cell c1_2;replace x0 := hE.cell x0;replace x1 := hE.cell x1;replace x2 := hE.cell x2;replace x3 := hE.cell x3;replace c5_0 := hE.cell c5_0;clear hE;go_simp;refine hK _ _ ?_;clear hK K' gd g4 g11;refine Wp.keep [1,4,5,77] ?_;rintro r29 ⟨e1_29,e4_29,e5_29,e77_29,-⟩;simp [go_sem,e1_25,e4_25,e5_25] at e1_29 e4_29 e5_29 e77_29;clear e1_25 e4_25 e5_25;refine cFf ?_;have hpf := posF_first (fl := t.fl) (id := G.id) (i := i);have hpn : 0 ≤ posF t.fl G.id := ((posF_first (fl := t.fl) (id := G.id) (i := i + 1)).2 ⟨i,Nat.lt_succ_self _,hi,by rw [hG.choose_spec]⟩).2;replace hpf : ∃ _u : Unit,_ := ⟨(),hpf⟩;have hmi : ∃ _u : Unit,(G.id ∈ ids ↔ posF t.fl G.id < (i : Int)) := ⟨(),⟨fun h => (hpf.choose_spec.2 ((hil.choose_spec.1 _).1 h)).1,fun h => (hil.choose_spec.1 _).2 (hpf.choose_spec.1 ⟨h,hpn⟩)⟩⟩;refine skN ?_;refine sRg fun K' gd hK => ?_;refine cu4 fun K1 hK1 => ?_;go_simp;refine Wcall (.inl rfl) (rflaw_c t G.id _ _ (hTS.v.more (Below.size (XE))) (by omega)) ?_;rintro v w6 ⟨rfl,hE⟩;go_simp;refine hK1 _ _ ?_;clear hK1 K1;replace xw := xw.trans hE;replace xl2 := xl2.trans hE;replace xl7 := xl7.trans hE;replace x0 := hE.cell x0;replace x1 := hE.cell x1;replace x2 := hE.cell x2;replace x3 := hE.cell x3;clear hE;go_simp;refine hK _ _ ?_;clear hK K' gd;refine Wp.keep [1,4,83] ?_;rintro r31 ⟨e1_31,e4_31,e83_31,-⟩;simp [go_sem,e1_29,e4_29,e5_29,e77_29] at e1_31 e4_31 e83_31;clear e1_29 e4_29 e5_29 e77_29
          by_cases k4 : posF t.fl G.id < (i : Int)
          ·refine cTt ?_;refine sRg fun K' gd hK => ?_;go_simp;refine hK _ _ ?_;clear hK K' gd;refine Wp.keep [2] ?_;rintro r32 ⟨e2_32,-⟩;simp [go_sem,e1_31,e4_31,e83_31] at e2_32;clear e1_31 e4_31 e83_31;refine Wp.ret ?_;refine bRe ?_;refine tRe ?_;refine tRe ?_;refine bRe ?_;refine tRe ?_;refine endK_tmp Tryz.results66 (by decide) ?_;rw [e2_32];exact ⟨by rw [← hck.choose_spec,chkFl,if_neg (not_not_intro ⟨k1,k2,k3⟩),if_pos (hmi.choose_spec.2 k4)],xw⟩
          ·refine cFf ?_;refine Wp.skip ?_;refine bNo ?_;refine tNo ?_;refine lRg fun K' gd hK => ?_;go_simp;refine hK _ _ ?_;clear hK K' gd;refine Ends.keep [1,4] ?_;rintro r33 ⟨e1_33,e4_33,-⟩;simp [go_sem,e1_31,e4_31,e83_31] at e1_33 e4_33;clear e1_31 e4_31 e83_31;refine Ends.mk ?_;refine thenK_normal ⟨by omega,⟨by rw [e1_33,e1_22],trivial⟩,rfl,xl7,?_⟩;exact ⟨G.id :: ids,by rw [e4_33,IntWalk.i64_in _ (by omega)];rfl,(),fun x => by rw [List.mem_cons,hil.choose_spec.1];exact ⟨fun h => h.elim (fun e => ⟨i,Nat.lt_succ_self _,hi,by rw [hG.choose_spec,e]⟩) fun ⟨j,hj,hl,e⟩ => ⟨j,by omega,hl,e⟩,fun ⟨j,hj,hl,e⟩ => by by_cases q : j = i;(subst q;rw [hG.choose_spec] at e;exact .inl e.symm);exact .inr ⟨j,by omega,hl,e⟩⟩,by rw [← hck.choose_spec];conv => rhs;rw [chkFl,if_neg (not_not_intro ⟨k1,k2,k3⟩),if_neg fun h => k4 (hmi.choose_spec.1 h)]⟩
         ·skip;refine sRh fun K' gd hK hg => ?_;have g4 : gd 4 = some 65 := hg 4;have g11 : gd 11 = some 72 := hg 11;clear hg;refine cu3 fun K1 hK1 => ?_;go_simp;refine Wcall (.inl rfl) (rin_T k1 _) ?_;rintro v w3 ⟨rfl,hE⟩;go_simp;refine hK1 _ _ ?_;clear hK1 K1;replace xw := xw.trans hE;replace xl2 := xl2.trans hE;replace xl7 := xl7.trans hE;replace c1_0 := hE.cell c1_0;replace c1_1 := hE.cell c1_1;replace c1_2 := hE.cell c1_2;replace c5_1 := hE.cell c5_1;replace c5_2 := hE.cell c5_2;replace c5_3 := hE.cell c5_3;clear hE;refine cu6 fun K1 hK1 => ?_;go_simp;refine Wcall (.inl rfl) (rspan_T k2 _) ?_;rintro v w4 ⟨rfl,hE⟩;go_simp;refine hK1 _ _ ?_;clear hK1 K1;replace xw := xw.trans hE;replace xl2 := xl2.trans hE;replace xl7 := xl7.trans hE;replace c5_3 := hE.cell c5_3;clear hE;refine cu6 fun K1 hK1 => ?_;go_simp;refine Wcall (.inl rfl) (rin_F k3 _) ?_;rintro v w5 ⟨rfl,hE⟩;go_simp;refine hK1 _ _ ?_;clear hK1 K1;replace xw := xw.trans hE;replace xl2 := xl2.trans hE;replace xl7 := xl7.trans hE;clear hE;go_simp;refine hK _ _ ?_
          clear hK K' gd g4 g11;refine Wp.keep [1,4,5,77] ?_;rintro r37 ⟨e1_37,e4_37,e5_37,e77_37,-⟩;simp [go_sem,e1_25,e4_25,e5_25] at e1_37 e4_37 e5_37 e77_37;clear e1_25 e4_25 e5_25;refine cTt ?_;refine sRg fun K' gd hK => ?_;go_simp;refine hK _ _ ?_;clear hK K' gd;refine Wp.keep [2] ?_;rintro r38 ⟨e2_38,-⟩;simp [go_sem,e1_37,e4_37,e5_37,e77_37] at e2_38;clear e1_37 e4_37 e5_37 e77_37;refine Wp.ret ?_;refine tRe ?_;refine bRe ?_;refine tRe ?_;refine tRe ?_;refine bRe ?_;refine tRe ?_;refine endK_tmp Tryz.results66 (by decide) ?_;rw [e2_38];exact ⟨by rw [← hck.choose_spec,chkFl,if_pos fun h => k3 h.2.2],xw⟩
        ·skip;refine sRh fun K' gd hK hg => ?_;have g4 : gd 4 = some 65 := hg 4;have g11 : gd 11 = some 72 := hg 11;clear hg;refine cu3 fun K1 hK1 => ?_;go_simp;refine Wcall (.inl rfl) (rin_T k1 _) ?_;rintro v w3 ⟨rfl,hE⟩;go_simp;refine hK1 _ _ ?_;clear hK1 K1;replace xw := xw.trans hE;replace xl2 := xl2.trans hE;replace xl7 := xl7.trans hE;replace c1_0 := hE.cell c1_0;replace c1_1 := hE.cell c1_1;replace c1_2 := hE.cell c1_2;replace c5_1 := hE.cell c5_1;replace c5_2 := hE.cell c5_2;clear hE;refine cu6 fun K1 hK1 => ?_;go_simp;refine Wcall (.inl rfl) (rspan_F k2 _) ?_;rintro v w4 ⟨rfl,hE⟩;go_simp;refine hK1 _ _ ?_;clear hK1 K1;replace xw := xw.trans hE;replace xl2 := xl2.trans hE;replace xl7 := xl7.trans hE;clear hE;refine cu6 fun K1 hK1 => ?_;go_simp;refine hK1 _ _ ?_;clear hK1 K1;go_simp;refine hK _ _ ?_;clear hK K' gd g4 g11;refine Wp.keep [1,4,5,77] ?_;rintro r41 ⟨e1_41,e4_41,e5_41,e77_41,-⟩;simp [go_sem,e1_25,e4_25,e5_25] at e1_41 e4_41 e5_41 e77_41;clear e1_25 e4_25 e5_25;refine cTt ?_
         refine sRg fun K' gd hK => ?_;go_simp;refine hK _ _ ?_;clear hK K' gd;refine Wp.keep [2] ?_;rintro r42 ⟨e2_42,-⟩;simp [go_sem,e1_41,e4_41,e5_41,e77_41] at e2_42;clear e1_41 e4_41 e5_41 e77_41;refine Wp.ret ?_;refine tRe ?_;refine bRe ?_;refine tRe ?_;refine tRe ?_;refine bRe ?_;refine tRe ?_;refine endK_tmp Tryz.results66 (by decide) ?_;rw [e2_42];exact ⟨by rw [← hck.choose_spec,chkFl,if_pos fun h => k2 h.2.1],xw⟩
       ·skip;refine sRh fun K' gd hK hg => ?_;have g4 : gd 4 = some 65 := hg 4;have g11 : gd 11 = some 72 := hg 11;clear hg;refine cu3 fun K1 hK1 => ?_;go_simp;refine Wcall (.inl rfl) (rin_F k1 _) ?_;rintro v w3 ⟨rfl,hE⟩;go_simp;refine hK1 _ _ ?_;clear hK1 K1;replace xw := xw.trans hE;replace xl2 := xl2.trans hE;replace xl7 := xl7.trans hE;clear hE;refine cu6 fun K1 hK1 => ?_;go_simp;refine hK1 _ _ ?_;clear hK1 K1;refine cu6 fun K1 hK1 => ?_;go_simp;refine hK1 _ _ ?_;clear hK1 K1;go_simp;refine hK _ _ ?_;clear hK K' gd g4 g11;refine Wp.keep [1,4,5,77] ?_;rintro r44 ⟨e1_44,e4_44,e5_44,e77_44,-⟩;simp [go_sem,e1_25,e4_25,e5_25] at e1_44 e4_44 e5_44 e77_44;clear e1_25 e4_25 e5_25;refine cTt ?_;refine sRg fun K' gd hK => ?_;go_simp;refine hK _ _ ?_;clear hK K' gd;refine Wp.keep [2] ?_;rintro r45 ⟨e2_45,-⟩;simp [go_sem,e1_44,e4_44,e5_44,e77_44] at e2_45;clear e1_44 e4_44 e5_44 e77_44;refine Wp.ret ?_;refine tRe ?_;refine bRe ?_;refine tRe ?_
        refine tRe ?_;refine bRe ?_;refine tRe ?_;refine endK_tmp Tryz.results66 (by decide) ?_;rw [e2_45];exact ⟨by rw [← hck.choose_spec,chkFl,if_pos fun h => k1 h.1],xw⟩
      ·refine cFf ?_;have him : i = t.fl.length := by omega
       refine Wp.exit ?_;refine tEx ?_;refine tEx ?_;refine blockK_here ?_;refine tNo ?_;refine sRg fun K' gd hK => ?_;go_simp;refine hK _ _ ?_;clear hK K' gd;refine Wp.keep [2] ?_;rintro r46 ⟨e2_46,-⟩;simp [go_sem,e1_24,e4_24,e53_24] at e2_46;clear e1_24 e4_24 e53_24;refine Wp.ret ?_;refine endK_tmp Tryz.results66 (by decide) ?_;rw [e2_46];exact ⟨by rw [← hil.choose_spec.2,him,List.drop_length];rfl,xw⟩
 ·skip;refine sRg fun K' gd hK => ?_;refine cu1 fun K1 hK1 => ?_;go_simp;refine hK1 _ _ ?_;clear hK1 K1;refine Wops.absA fun V1_9 n1 hV1_9 => ?_;obtain ⟨q1,hV1_9,s1,kV1_9,f1,r1⟩ := hV1_9;try simp only [q1] at kV1_9 f1 r1 ⊢
  replace xw := xw.trans hV1_9;have c1_0 := kV1_9 0 _ rfl;clear kV1_9 hV1_9;clear r1;go_simp;refine hK _ _ ?_;clear hK K' gd;refine Wp.keep [1] ?_;rintro r47 ⟨e1_47,-⟩;simp [go_sem,e0_1] at e1_47;clear e0_1;refine Wp.seq ?_;refine sRg fun K' gd hK => ?_;refine cu3 fun K1 hK1 => ?_;go_simp;refine Wcall (.inl rfl) (rin_F h1 _) ?_;rintro v w2 ⟨rfl,hE⟩;go_simp;refine hK1 _ _ ?_;clear hK1 K1;replace xw := xw.trans hE;clear hE;go_simp;refine hK _ _ ?_;clear hK K' gd;refine Wp.keep [1,9] ?_;rintro r49 ⟨e1_49,e9_49,-⟩;simp [go_sem,e1_47] at e1_49 e9_49;clear e1_47;refine cTt ?_;refine sRg fun K' gd hK => ?_;go_simp;refine hK _ _ ?_;clear hK K' gd;refine Wp.keep [2] ?_;rintro r50 ⟨e2_50,-⟩;simp [go_sem,e1_49,e9_49] at e2_50;clear e1_49 e9_49;refine Wp.ret ?_;refine tRe ?_;refine endK_tmp Tryz.results66 (by decide) ?_;rw [e2_50];exact ⟨by unfold checkT;rw [hn.choose_spec,if_pos (by simpa using h1)],xw⟩
theorem pw_ext {α : Type} {r : α → α → Prop} (ha : ∀ x y,r x y → r y x → False) : ∀ l1 l2 : List α,l1.Pairwise r → l2.Pairwise r → (∀ x,x ∈ l1 ↔ x ∈ l2) → l1 = l2
 | [],[],_,_,_ => rfl
 | [],y :: l2,_,_,h => absurd ((h y).2 List.mem_cons_self) List.not_mem_nil
 | x :: l1,[],_,_,h => absurd ((h x).1 List.mem_cons_self) List.not_mem_nil
 | x :: l1,y :: l2,h1,h2,h => by
   obtain ⟨a1,a2⟩ := List.pairwise_cons.1 h1;obtain ⟨b1,b2⟩ := List.pairwise_cons.1 h2
   have e : x = y := by
    rcases List.mem_cons.1 ((h x).1 List.mem_cons_self) with e | hx
    ·exact e
    ·rcases List.mem_cons.1 ((h y).2 List.mem_cons_self) with e | hy
     ·exact e.symm
     ·exact (ha x y (a1 y hy) (b1 x hx)).elim
   subst e;rw [pw_ext ha l1 l2 a2 b2 fun z => ?_]
   constructor
   ·intro hz
    rcases List.mem_cons.1 ((h z).1 (List.mem_cons_of_mem _ hz)) with e | q
    ·subst e;exact (ha z z (a1 z hz) (a1 z hz)).elim
    ·exact q
   ·intro hz
    rcases List.mem_cons.1 ((h z).2 (List.mem_cons_of_mem _ hz)) with e | q
    ·subst e;exact (ha z z (b1 z hz) (b1 z hz)).elim
    ·exact q
theorem range'_pw (a k : Nat) : (List.range' a k).Pairwise (· < ·) := List.pairwise_lt_range'
def restD (t : Tr) (lo hi : Int) (n d : Nat) : List Nat := (List.range' d (n - d)).filter fun e : Nat => okDay t lo hi (e : Int)
theorem restD_all {t : Tr} {lo hi : Int} {n : Nat} (h0 : 0 ≤ lo) (hh : hi < n) : openN t.cl lo hi = restD t lo hi n 0 := by
 refine pw_ext (fun x y h1 h2 => by omega) _ _ ((range'_pw _ _).filter _) ((range'_pw _ _).filter _) fun d => ?_;rw [openN_in h0];unfold restD okDay;rw [List.mem_filter,List.mem_range'_1,decide_eq_true_iff]
 constructor
 ·rintro ⟨a,b,c⟩;exact ⟨⟨Nat.zero_le _,by omega⟩,⟨a,b⟩,c⟩
 ·rintro ⟨-,⟨a,b⟩,c⟩;exact ⟨a,b,c⟩
theorem restD_T {t : Tr} {lo hi : Int} {n d : Nat} (hd : d < n) (h : okDay t lo hi (d : Int) = true) : restD t lo hi n d = d :: restD t lo hi n (d + 1) := by
 unfold restD;rw [show n - d = (n - (d + 1)) + 1 by omega,List.range'_succ];exact List.filter_cons_of_pos h
theorem restD_F {t : Tr} {lo hi : Int} {n d : Nat} (hd : d < n) (h : okDay t lo hi (d : Int) = false) : restD t lo hi n d = restD t lo hi n (d + 1) := by
 unfold restD;rw [show n - d = (n - (d + 1)) + 1 by omega,List.range'_succ];exact List.filter_cons_of_neg (by show ¬ okDay t lo hi (d : Int) = true;rw [h];decide)
theorem restD_end {t : Tr} {lo hi : Int} {n : Nat} : restD t lo hi n n = [] := by unfold restD;rw [Nat.sub_self];rfl
structure PlaceD (W : World) (S sb hb tb n : Nat) (A : Option Addr) (c : Nat) (A2 : Option Addr) (c2 : Nat) (t : Tr) : Prop where
 k0 : W.cell? ⟨sb,0,none⟩ = some (.int .i64 t.n)
 k1 : W.cell? ⟨sb,1,none⟩ = some (.slice A t.cl.length c)
 k2 : W.cell? ⟨sb,2,none⟩ = some (.slice A2 t.fl.length c2)
 k3 : W.cell? ⟨sb,3,none⟩ = some (.slice (some ⟨hb,0,none⟩) n n)
 k4 : W.cell? ⟨sb,4,none⟩ = some (.slice (some ⟨tb,0,none⟩) n n)
 tour : TourS W S (.agg #[.int .i64 t.n,.slice A t.cl.length c,.slice A2 t.fl.length c2]) t
 s : S ≤ hb ∧ S ≤ tb ∧ S ≤ W.heap.size
 ne : sb ≠ hb ∧ sb ≠ tb ∧ hb ≠ tb
section
variable {W V : World} {S sb hb tb n : Nat} {A : Option Addr} {c : Nat} {A2 : Option Addr} {c2 : Nat} {t : Tr}
theorem PlaceD.chg {L : List Nat} (h : PlaceD W S sb hb tb n A c A2 c2 t) (hC : Chg L W V) (hL : ∀ b,b ≠ hb ∧ b ≠ tb → b ∉ L) : PlaceD V S sb hb tb n A c A2 c2 t := by
 obtain ⟨n1,n2,n3⟩ := h.ne;have e := hL sb ⟨n1,n2⟩;refine ⟨Chg.cell hC h.k0 e,Chg.cell hC h.k1 e,Chg.cell hC h.k2 e,Chg.cell hC h.k3 e,Chg.cell hC h.k4 e,h.tour.chg hC fun b hb2 => ?_,⟨h.s.1,h.s.2.1,Nat.le_trans h.s.2.2 hC.size⟩,h.ne⟩
 by_cases q : b = hb ∨ b = tb
 ·have := h.s;omega
 ·exact absurd hb2 (hL b (by omega))
theorem PlaceD.ext (h : PlaceD W S sb hb tb n A c A2 c2 t) (hE : Ext W V) : PlaceD V S sb hb tb n A c A2 c2 t := h.chg ((Chg.refl [] W).ext hE) (fun _ _ => by simp)
theorem PlaceD.put {k i : Nat} {vs : List Value} (h : PlaceD W S sb hb tb n A c A2 c2 t) (p : Put W V k i vs) (hk : k = hb ∨ k = tb) : PlaceD V S sb hb tb n A c A2 c2 t := h.chg p.chg (fun b hb2 => by simp;omega)
end
theorem place_c (t : Tr) (S sb hb tb n : Nat) (A : Option Addr) (c : Nat) (A2 : Option Addr) (c2 : Nat) (hn : n ≤ 60) (hnn : ∃ _u : Unit,t.n = (n : Int)) (hcl : t.cl.length ≤ 1000000000000000) (hfl : t.fl.length ≤ 1000) (hfd : ∀ k (h : k < t.fl.length),0 ≤ t.fl[k].lo ∧ t.fl[k].hi < n) :
  ∀ (f i : Nat) (h : Nat → Int) (tr : Nat → Bool) (w : World),untr n tr < f → i < t.fl.length → (∀ d,h d < t.fl.length) → PlaceD w S sb hb tb n A c A2 c2 t → RowF w hb n h → RowT w tb n tr →
  CallsV Tryz.prog 170 #[.pointer (some ⟨sb,0,none⟩),.int .i64 (i : Int)] w fun v w' =>
   v = .bool (giveF t.N f i h tr).1 ∧ RowF w' hb n (giveF t.N f i h tr).2.1 ∧ RowT w' tb n (giveF t.N f i h tr).2.2 ∧ Chg [hb,tb] w w'
 | 0,_,_,_,_,h0,_,_,_,_,_ => absurd h0 (Nat.not_lt_zero _)
 | f + 1,i,h,tr,w,hun,hi,hhl,hD,hR,hT => by
   have IH := place_c t S sb hb tb n A c A2 c2 hn hnn hcl hfl hfd f;obtain ⟨m1,m2,m3⟩ := hD.ne;obtain ⟨s1,s2,s3⟩ := hD.s;have hFS : FlawsS w S (.slice A2 t.fl.length c2) t.fl := ⟨by obtain ⟨cv,fv,e,h1,h2⟩ := hD.tour.v;injection e with e;simp only [Array.mk.injEq,List.cons.injEq,and_true] at e;obtain ⟨-,rfl,rfl⟩ := e;exact h2⟩;obtain ⟨b4,o4,rfl,hb4,x0,x1,x2,x3⟩ := FlawsV.at hFS.v hi;obtain ⟨F,hF⟩ : ∃ F,∃ _u : Unit,t.fl[i] = F := ⟨_,(),rfl⟩;have hsp := hfd i hi;rw [hF.choose_spec] at x0 x1 x2 x3 hsp;obtain ⟨R,hRR⟩ : ∃ R,∃ _u : Unit,giveF t.N (f + 1) i h tr = R ∧ loopF (giveF t.N f) i (restD t F.lo F.hi n 0) h tr = R := ⟨_,(),rfl,by rw [← restD_all hsp.1 hsp.2];show loopF _ _ _ _ _ = loopF _ _ (t.N i) _ _;rw [trN_at hi,hF.choose_spec]⟩;rw [hRR.choose_spec.1];have y0 := hD.k0;have y1 := hD.k1;have y2 := hD.k2;have y3 := hD.k3;have y4 := hD.k4;have hii : (i : Int) < (t.fl.length : Int) := by omega
   have hfl4 : ∃ _u : Unit,flV F = .agg #[.int .i64 F.id,.int .i64 F.lo,.int .i64 F.hi,.int .i64 F.m] := ⟨(),rfl⟩;replace hhl : ∃ _u : Unit,_ := ⟨(),hhl⟩;clear hFS;refine Wp.fn Tryz.func170 rfl Tryz.ntmps170 (by simp) ?_;have xw := Ext.refl w;refine Wp.keep [0,1] ?_;rintro r1 ⟨e0_1,e1_1,-⟩;simp [go_sem] at e0_1 e1_1;have xg := Chg.refl [hb,tb] w;refine sRg fun K' gd hK => ?_;go_simp;refine hK _ _ ?_;clear hK K' gd;refine Wp.keep [0,1] ?_;rintro r2 ⟨e0_2,e1_2,-⟩;simp [go_sem,e0_1,e1_1] at e0_2 e1_2;clear e0_1 e1_1;refine Wp.seq ?_;refine sRg fun K' gd hK => ?_;go_simp;refine hK _ _ ?_;clear hK K' gd;refine Wp.keep [0,1,5] ?_;rintro r3 ⟨e0_3,e1_3,e5_3,-⟩;simp [go_sem,e0_2,e1_2] at e0_3 e1_3 e5_3;clear e0_2 e1_2;refine Wp.block ?_;refine Wp.loop (fun d ρ ds wd => AllEq [0,1] ρ r3 ∧ ds = [] ∧ (Chg [hb,tb] w wd) ∧ (∃ (h1 : Nat → Int) (t1 : Nat → Bool),ρ 5 = .int .i64 (d : Int) ∧ RowF wd hb n h1 ∧ RowT wd tb n t1 ∧ (∃ _u : Unit,loopF (giveF t.N f) i (restD t F.lo F.hi n d) h1 t1 = R ∧ untr n t1 ≤ f ∧ ∀ d,h1 d < t.fl.length))) (n) ?_ ?_
   ·refine ⟨AllEq.refl _ _,rfl,Chg.refl _ _,?_⟩;exact ⟨h,tr,by rw [e5_3];rfl,hR,hT,(),hRR.choose_spec.2,by omega,hhl.choose_spec⟩
   ·rintro d r4 _ wd hd ⟨hA,rfl,xl2,⟨h1,t1,e5,hR1,hT1,hq⟩⟩;obtain ⟨e0_4,e1_4,-⟩ := hA;rw [e0_3] at e0_4;rw [e1_3] at e1_4;replace hD := hD.chg xl2 XB;clear xw;replace xg := Chg.more xg xl2 (by intro b hm;simp only [List.mem_cons,List.not_mem_nil,or_false] at hm;first | (left;omega) | (right;simp [hm];done) | (rcases hm with hm | hm <;> first | (left;omega) | (right;simp [hm])));replace y0 := Chg.cell xl2 y0 XN;replace y1 := Chg.cell xl2 y1 XN;replace y2 := Chg.cell xl2 y2 XN;replace y3 := Chg.cell xl2 y3 XN;replace y4 := Chg.cell xl2 y4 XN;replace x0 := Chg.cell xl2 x0 XN;replace x1 := Chg.cell xl2 x1 XN;replace x2 := Chg.cell xl2 x2 XN;replace x3 := Chg.cell xl2 x3 XN
    by_cases hdn : d < n
    ·skip;have hdl : (d : Int) < t.n := by have := hnn.choose_spec;omega
     have hdl2 : (d : Int) < (n : Int) := by omega
     refine Wp.seq ?_;refine sRg fun K' gd hK => ?_;go_simp;refine hK _ _ ?_;clear hK K' gd;refine Wp.keep [0,1,5,12] ?_;rintro r5 ⟨e0_5,e1_5,e5_5,e12_5,-⟩;simp [go_sem,e0_4,e1_4,e5] at e0_5 e1_5 e5_5 e12_5;clear e0_4 e1_4 e5;refine cTt ?_;have z1 := hT1.c d hdn;have z2 := hR1.c d hdn
     by_cases ho : okDay t F.lo F.hi (d : Int) = true
     ·skip;have hq0 : ∃ _u : Unit,loopF (giveF t.N f) i (d :: restD t F.lo F.hi n (d + 1)) h1 t1 = R := ⟨(),by rw [← restD_T hdn ho];exact hq.choose_spec.1⟩
      by_cases ht : t1 d = true
      ·skip;rw [ht] at z1;refine skN ?_;refine sBk ?_;refine Wp.seq ?_;refine Wp.seqDraw (.inl rfl) mixed [([0,1,2,3,4],none),([5,6,7,8,9],none),([10,11,12],some (13,false)),([14,15],none),([16,17,18,19,20],none),([21,22,23],none)] (by kernel_rfl) fun K' gd hK hg => ?_;have g15 : gd 15 = some 30 := hg 15;clear hg;simp only [pick,nth,List.map_cons,List.map_nil,Option.map_none,Option.map_some];refine Mops.absD fun D3 hD3 zD3 => ?_;replace hD := hD.ext hD3;replace hR1 := hR1.ext hD3;replace hT1 := hT1.ext hD3;replace xg := Chg.ext xg hD3;replace xl2 := Chg.ext xl2 hD3;replace y0 := hD3.cell y0;replace y1 := hD3.cell y1;replace y2 := hD3.cell y2;replace y4 := hD3.cell y4;replace x0 := hD3.cell x0;replace x1 := hD3.cell x1;replace x2 := hD3.cell x2;replace x3 := hD3.cell x3;replace z1 := hD3.cell z1;clear hD3;refine mNo ?_
       refine mNo ?_
       refine mAc ?_
       intro K1 hK1;go_simp;refine Wcall (.inl rfl) ((by have q := rmay_c t F (d : Int) (.agg #[.int .i64 t.n,.slice A t.cl.length c,.slice (some ⟨b4,o4,none⟩) t.fl.length c2]) _ (hD.tour.v.more hD.s.2.2) hcl;rw [hfl4.choose_spec,ho] at q;exact q)) ?_;rintro v w3 ⟨rfl,hE⟩;go_simp;refine hK1 _ _ (by assumption) ?_;clear hK1 K1;replace hR1 := hR1.ext hE;replace hT1 := hT1.ext hE;replace xg := Chg.ext xg hE;replace xl2 := Chg.ext xl2 hE;replace y4 := hE.cell y4;replace z1 := hE.cell z1;clear hE;apply Mops.none
       ·intro w' hE';go_simp;with_reducible rfl
       refine mNo ?_
       refine mNo ?_
       refine Mops.done ?_;refine hK _ _ ?_;clear hK K' gd g15;refine Wp.keep [0,1,5,38] ?_;rintro r7 ⟨e0_7,e1_7,e5_7,e38_7,-⟩;simp [go_sem,e0_5,e1_5,e5_5,e12_5] at e0_7 e1_7 e5_7 e38_7;clear e0_5 e1_5 e5_5 e12_5;refine cTt ?_;refine Wp.exit ?_;refine tEx ?_;refine blockK_here ?_;refine tNo ?_;refine lRg fun K' gd hK => ?_;go_simp;refine hK _ _ ?_;clear hK K' gd;refine Ends.keep [0,1,5] ?_;rintro r8 ⟨e0_8,e1_8,e5_8,-⟩;simp [go_sem,e0_7,e1_7,e5_7,e38_7] at e0_8 e1_8 e5_8;clear e0_7 e1_7 e5_7 e38_7;refine Ends.mk ?_;refine thenK_normal ⟨by omega,⟨by rw [e0_8,e0_3],by rw [e1_8,e1_3],trivial⟩,rfl,xl2,?_⟩;exact ⟨h1,t1,by rw [e5_8,IntWalk.i64_in _ (by omega)];rfl,hR1,hT1,(),by rw [← hq0.choose_spec,loopF,if_pos ht],hq.choose_spec.2⟩
      ·skip;have ht2 : t1 d = false := by simpa using ht
       rw [ht2] at z1;refine skN ?_;refine sBk ?_;refine Wp.seq ?_;refine Wp.seqDraw (.inl rfl) mixed [([0,1,2,3,4],none),([5,6,7,8,9],none),([10,11,12],some (13,false)),([14,15],none),([16,17,18,19,20],none),([21,22,23],none)] (by kernel_rfl) fun K' gd hK hg => ?_;have g15 : gd 15 = some 30 := hg 15;clear hg;simp only [pick,nth,List.map_cons,List.map_nil,Option.map_none,Option.map_some];refine Mops.absD fun D4 hD4 zD4 => ?_;replace hD := hD.ext hD4;replace hR1 := hR1.ext hD4;replace hT1 := hT1.ext hD4;replace xg := Chg.ext xg hD4;replace xl2 := Chg.ext xl2 hD4;replace y0 := hD4.cell y0;replace y1 := hD4.cell y1;replace y2 := hD4.cell y2;replace y3 := hD4.cell y3;replace y4 := hD4.cell y4;replace x0 := hD4.cell x0;replace x1 := hD4.cell x1;replace x2 := hD4.cell x2;replace x3 := hD4.cell x3;replace z1 := hD4.cell z1;replace z2 := hD4.cell z2;clear hD4;refine mNo ?_
       refine mNo ?_
       refine mAc ?_
       intro K1 hK1;go_simp;refine Wcall (.inl rfl) ((by have q := rmay_c t F (d : Int) (.agg #[.int .i64 t.n,.slice A t.cl.length c,.slice (some ⟨b4,o4,none⟩) t.fl.length c2]) _ (hD.tour.v.more hD.s.2.2) hcl;rw [hfl4.choose_spec,ho] at q;exact q)) ?_;rintro v w3 ⟨rfl,hE⟩;go_simp;refine hK1 _ _ (by assumption) ?_;clear hK1 K1;replace hD := hD.ext hE;replace hR1 := hR1.ext hE;replace hT1 := hT1.ext hE;replace xg := Chg.ext xg hE;replace xl2 := Chg.ext xl2 hE;replace y3 := hE.cell y3;replace y4 := hE.cell y4;replace z1 := hE.cell z1;replace z2 := hE.cell z2;clear hE;apply Mops.none
       ·intro w' hE';go_simp;with_reducible rfl
       refine mNo ?_
       refine mNo ?_
       refine Mops.done ?_;refine hK _ _ ?_;clear hK K' gd g15;refine Wp.keep [0,1,5,38] ?_;rintro r10 ⟨e0_10,e1_10,e5_10,e38_10,-⟩;simp [go_sem,e0_5,e1_5,e5_5,e12_5] at e0_10 e1_10 e5_10 e38_10;clear e0_5 e1_5 e5_5 e12_5;refine cFf ?_;have ft := hT1.fz;refine skN ?_;refine sRg fun K' gd hK => ?_;refine cu7 fun K1 hK1 => ?_;go_simp;refine hK1 _ _ ?_;clear hK1 K1;refine Wops.absS (b := tb) (i := d) [_] (hT1.some hdn) fun P1 hP1 => ?_;replace hD := hD.put hP1 (by omega);replace hR1 := hR1.put hP1 (by omega);replace xg := Put.more xg hP1 (.inr (by simp));replace xl2 := Put.more xl2 hP1 (.inr (by simp));replace y3 := hP1.cell y3 (by omega);replace z2 := hP1.cell z2 (by omega);try simp only [Wops_nil,updO_some,updO_none]
       refine hK _ _ ?_;clear hK K' gd;refine Wp.keep [0,1,5] ?_;rintro r11 ⟨e0_11,e1_11,e5_11,-⟩;simp [go_sem,e0_10,e1_10,e5_10,e38_10] at e0_11 e1_11 e5_11;clear e0_10 e1_10 e5_10 e38_10;have hT2 : RowT P1 tb n (markT t1 d) := hT1.mark hP1
       by_cases hneg : h1 d < 0
       ·skip;refine sRh fun K' gd hK hg => ?_;have g8 : gd 8 = some 53 := hg 8;clear hg;refine cu18 fun K1 hK1 => ?_;go_simp;refine hK1 _ _ ?_;clear hK1 K1;go_simp;refine hK _ _ ?_;clear hK K' gd g8;refine Wp.keep [0,1,5,63] ?_;rintro r12 ⟨e0_12,e1_12,e5_12,e63_12,-⟩;simp [go_sem,e0_11,e1_11,e5_11] at e0_12 e1_12 e5_12 e63_12;clear e0_11 e1_11 e5_11;refine cTt ?_;have fh := hR1.fz;refine sRg fun K' gd hK => ?_;refine cu8 fun K1 hK1 => ?_;go_simp;refine hK1 _ _ ?_;clear hK1 K1;refine Wops.absS (b := hb) (i := d) [_] (hR1.some hdn) fun P2 hP2 => ?_;replace hT2 := hT2.put hP2 (by omega);replace xg := Put.more xg hP2 (.inr (by simp));replace xl2 := Put.more xl2 hP2 (.inr (by simp));try simp only [Wops_nil,updO_some,updO_none]
        refine hK _ _ ?_;clear hK K' gd;refine Wp.keep [] fun r13 hkeep => ?_;clear hkeep;clear e0_12 e1_12 e5_12 e63_12;have hR2 : RowF P2 hb n (updI h1 d i) := hR1.store hP2;have hRe : ∃ _u : Unit,R = (true,updI h1 d i,markT t1 d) := ⟨(),by rw [← hq0.choose_spec,loopF,if_neg ht,if_pos hneg]⟩;refine sRg fun K' gd hK => ?_;go_simp;refine hK _ _ ?_;clear hK K' gd;refine Wp.keep [4] ?_;rintro r14 ⟨e4_14,-⟩;simp [go_sem] at e4_14;refine Wp.ret ?_;refine bRe ?_;refine tRe ?_;refine tRe ?_;refine bRe ?_;refine tRe ?_;refine endK_tmp Tryz.results170 (by decide) ?_;rw [e4_14];exact ⟨by rw [hRe.choose_spec],by rw [hRe.choose_spec];exact hR2,by rw [hRe.choose_spec];exact hT2,xg⟩
       ·skip;obtain ⟨j,hj⟩ : ∃ j : Nat,∃ _u : Unit,h1 d = (j : Int) ∧ j < t.fl.length := ⟨(h1 d).toNat,(),by omega,by have := hq.choose_spec.2.2 d;omega⟩;rw [hj.choose_spec.1] at z2;have hjn : ¬ (j : Int) < 0 := by omega
        have hu2 : ∃ _u : Unit,untr n (markT t1 d) < f := ⟨(),by have := untr_mark hdn ht2;have := hq.choose_spec.2.1;omega⟩;obtain ⟨r1,hr1⟩ : ∃ r1,∃ _u : Unit,giveF t.N f (j : Int) h1 (markT t1 d) = r1 := ⟨_,(),rfl⟩;have hstep : ∃ _u : Unit,(if r1.1 = true then (true,updI r1.2.1 d i,r1.2.2) else loopF (giveF t.N f) i (restD t F.lo F.hi n (d + 1)) r1.2.1 r1.2.2) = R := ⟨(),by rw [← hq0.choose_spec,loopF,if_neg ht,if_neg hneg];dsimp only;rw [hj.choose_spec.1,hr1.choose_spec]⟩
        by_cases hb1 : r1.1 = true
        ·skip;refine sRh fun K' gd hK hg => ?_;have g8 : gd 8 = some 53 := hg 8;clear hg;refine cu18 fun K1 hK1 => ?_;go_simp;refine Wcall (.inl rfl) (IH j h1 (markT t1 d) _ hu2.choose_spec hj.choose_spec.2 hq.choose_spec.2.2 hD hR1 hT2) ?_;rintro v w5 ⟨hv,hR3,hT3,hC⟩;rw [hr1.choose_spec] at hv hR3 hT3;rw [hb1] at hv;subst hv;go_simp;refine hK1 _ _ ?_;clear hK1 K1;replace xg := Chg.more xg hC (by intro b hm;simp only [List.mem_cons,List.not_mem_nil,or_false] at hm;first | (left;omega) | (right;simp [hm];done) | (rcases hm with hm | hm <;> first | (left;omega) | (right;simp [hm])));replace xl2 := Chg.more xl2 hC (by intro b hm;simp only [List.mem_cons,List.not_mem_nil,or_false] at hm;first | (left;omega) | (right;simp [hm];done) | (rcases hm with hm | hm <;> first | (left;omega) | (right;simp [hm])));replace y3 := Chg.cell hC y3 XN;go_simp;refine hK _ _ ?_;clear hK K' gd g8;refine Wp.keep [0,1,5,63] ?_;rintro r16 ⟨e0_16,e1_16,e5_16,e63_16,-⟩;simp [go_sem,e0_11,e1_11,e5_11] at e0_16 e1_16 e5_16 e63_16;clear e0_11 e1_11 e5_11;refine cTt ?_;have z3 := hR3.c d hdn;have fh := hR3.fz;refine sRg fun K' gd hK => ?_;refine cu8 fun K1 hK1 => ?_
         go_simp;refine hK1 _ _ ?_;clear hK1 K1;refine Wops.absS (b := hb) (i := d) [_] (hR3.some hdn) fun P2 hP2 => ?_;replace hT3 := hT3.put hP2 (by omega);replace xg := Put.more xg hP2 (.inr (by simp));replace xl2 := Put.more xl2 hP2 (.inr (by simp));try simp only [Wops_nil,updO_some,updO_none]
         refine hK _ _ ?_;clear hK K' gd;refine Wp.keep [] fun r17 hkeep => ?_;clear hkeep;clear e0_16 e1_16 e5_16 e63_16;have hR4 : RowF P2 hb n (updI r1.2.1 d i) := hR3.store hP2;have hRe : ∃ _u : Unit,R = (true,updI r1.2.1 d i,r1.2.2) := ⟨(),by rw [← hstep.choose_spec,if_pos hb1]⟩;refine sRg fun K' gd hK => ?_;go_simp;refine hK _ _ ?_;clear hK K' gd;refine Wp.keep [4] ?_;rintro r18 ⟨e4_18,-⟩;simp [go_sem] at e4_18;refine Wp.ret ?_;refine bRe ?_;refine tRe ?_;refine tRe ?_;refine bRe ?_;refine tRe ?_;refine endK_tmp Tryz.results170 (by decide) ?_;rw [e4_18];exact ⟨by rw [hRe.choose_spec],by rw [hRe.choose_spec];exact hR4,by rw [hRe.choose_spec];exact hT3,xg⟩
        ·skip;refine sRh fun K' gd hK hg => ?_;have g8 : gd 8 = some 53 := hg 8;clear hg;refine cu18 fun K1 hK1 => ?_;go_simp;refine Wcall (.inl rfl) (IH j h1 (markT t1 d) _ hu2.choose_spec hj.choose_spec.2 hq.choose_spec.2.2 hD hR1 hT2) ?_;rintro v w5 ⟨hv,hR3,hT3,hC⟩;rw [hr1.choose_spec] at hv hR3 hT3;rw [show r1.1 = false by simpa using hb1] at hv;subst hv;go_simp;refine hK1 _ _ ?_;clear hK1 K1;replace xg := Chg.more xg hC (by intro b hm;simp only [List.mem_cons,List.not_mem_nil,or_false] at hm;first | (left;omega) | (right;simp [hm];done) | (rcases hm with hm | hm <;> first | (left;omega) | (right;simp [hm])));replace xl2 := Chg.more xl2 hC (by intro b hm;simp only [List.mem_cons,List.not_mem_nil,or_false] at hm;first | (left;omega) | (right;simp [hm];done) | (rcases hm with hm | hm <;> first | (left;omega) | (right;simp [hm])));go_simp;refine hK _ _ ?_;clear hK K' gd g8;refine Wp.keep [0,1,5,63] ?_;rintro r20 ⟨e0_20,e1_20,e5_20,e63_20,-⟩;simp [go_sem,e0_11,e1_11,e5_11] at e0_20 e1_20 e5_20 e63_20;clear e0_11 e1_11 e5_11;refine cFf ?_;refine Wp.skip ?_;refine bNo ?_;refine tNo ?_;refine lRg fun K' gd hK => ?_;go_simp;refine hK _ _ ?_;clear hK K' gd;refine Ends.keep [0,1,5] fun r21 hkeep => ?_
         obtain ⟨e0_21,e1_21,e5_21,-⟩ := hkeep;simp [go_sem,e0_20,e1_20,e5_20,e63_20] at e0_21 e1_21 e5_21;clear e0_20 e1_20 e5_20 e63_20;refine Ends.mk ?_;refine thenK_normal ⟨by omega,⟨by rw [e0_21,e0_3],by rw [e1_21,e1_3],trivial⟩,rfl,xl2,?_⟩;exact ⟨r1.2.1,r1.2.2,by rw [e5_21,IntWalk.i64_in _ (by omega)];rfl,hR3,hT3,(),by rw [← hstep.choose_spec,if_neg hb1],by have g1 := hu2.choose_spec;have g2 := untr_le (n := n) (t := markT t1 d) (t2 := r1.2.2) (fun e he => by rw [← hr1.choose_spec];exact giveF_mono f j h1 _ e he);omega,by rw [← hr1.choose_spec];exact giveF_vals (P := fun y => y < (t.fl.length : Int)) f j h1 _ (by have := hj.choose_spec.2;omega) hq.choose_spec.2.2⟩
     ·skip;have ho2 : okDay t F.lo F.hi (d : Int) = false := by simpa using ho
      refine skN ?_;refine sBk ?_;refine Wp.seq ?_;refine Wp.seqDraw (.inl rfl) mixed [([0,1,2,3,4],none),([5,6,7,8,9],none),([10,11,12],some (13,false)),([14,15],none),([16,17,18,19,20],none),([21,22,23],none)] (by kernel_rfl) fun K' gd hK hg => ?_;have g15 : gd 15 = some 30 := hg 15;clear hg;simp only [pick,nth,List.map_cons,List.map_nil,Option.map_none,Option.map_some];refine Mops.absD fun D8 hD8 zD8 => ?_;replace hD := hD.ext hD8;replace hR1 := hR1.ext hD8;replace hT1 := hT1.ext hD8;replace xg := Chg.ext xg hD8;replace xl2 := Chg.ext xl2 hD8;replace y0 := hD8.cell y0;replace y1 := hD8.cell y1;replace y2 := hD8.cell y2;replace x0 := hD8.cell x0;replace x1 := hD8.cell x1;replace x2 := hD8.cell x2;replace x3 := hD8.cell x3;clear hD8;refine mNo ?_
      refine mNo ?_
      refine mAc ?_
      intro K1 hK1;go_simp;refine Wcall (.inl rfl) ((by have q := rmay_c t F (d : Int) (.agg #[.int .i64 t.n,.slice A t.cl.length c,.slice (some ⟨b4,o4,none⟩) t.fl.length c2]) _ (hD.tour.v.more hD.s.2.2) hcl;rw [hfl4.choose_spec,ho2] at q;exact q)) ?_;rintro v w3 ⟨rfl,hE⟩;go_simp;refine hK1 _ _ (by assumption) ?_;clear hK1 K1;replace hR1 := hR1.ext hE;replace hT1 := hT1.ext hE;replace xg := Chg.ext xg hE;replace xl2 := Chg.ext xl2 hE;clear hE;apply Mops.none
      ·intro w' hE';go_simp;with_reducible rfl
      apply Mops.none
      ·intro w' hE';go_simp;with_reducible rfl
      apply Mops.none
      ·intro w' hE';go_simp;with_reducible rfl
      refine Mops.done ?_;refine hK _ _ ?_;clear hK K' gd g15;refine Wp.keep [0,1,5,38] ?_;rintro r23 ⟨e0_23,e1_23,e5_23,e38_23,-⟩;simp [go_sem,e0_5,e1_5,e5_5,e12_5] at e0_23 e1_23 e5_23 e38_23;clear e0_5 e1_5 e5_5 e12_5;refine cTt ?_;refine Wp.exit ?_;refine tEx ?_;refine blockK_here ?_;refine tNo ?_;refine lRg fun K' gd hK => ?_;go_simp;refine hK _ _ ?_;clear hK K' gd;refine Ends.keep [0,1,5] ?_;rintro r24 ⟨e0_24,e1_24,e5_24,-⟩;simp [go_sem,e0_23,e1_23,e5_23,e38_23] at e0_24 e1_24 e5_24;clear e0_23 e1_23 e5_23 e38_23;refine Ends.mk ?_;refine thenK_normal ⟨by omega,⟨by rw [e0_24,e0_3],by rw [e1_24,e1_3],trivial⟩,rfl,xl2,?_⟩;exact ⟨h1,t1,by rw [e5_24,IntWalk.i64_in _ (by omega)];rfl,hR1,hT1,(),by rw [← restD_F hdn ho2];exact hq.choose_spec.1,hq.choose_spec.2⟩
    ·skip;obtain rfl : d = n := by omega
     have hdl : ¬ (d : Int) < t.n := by have := hnn.choose_spec;omega
     have hRe : ∃ _u : Unit,R = (false,h1,t1) := ⟨(),by have := hq.choose_spec.1;rw [restD_end] at this;exact this.symm⟩;refine Wp.seq ?_;refine sRg fun K' gd hK => ?_;go_simp;refine hK _ _ ?_;clear hK K' gd;refine Wp.keep [0,1,5,12] ?_;rintro r25 ⟨e0_25,e1_25,e5_25,e12_25,-⟩;simp [go_sem,e0_4,e1_4,e5] at e0_25 e1_25 e5_25 e12_25;clear e0_4 e1_4 e5;refine cFf ?_;refine Wp.exit ?_;refine tEx ?_;refine tEx ?_;refine blockK_here ?_;refine tNo ?_;refine sRg fun K' gd hK => ?_;go_simp;refine hK _ _ ?_;clear hK K' gd;refine Wp.keep [4] ?_;rintro r26 ⟨e4_26,-⟩;simp [go_sem,e0_25,e1_25,e5_25,e12_25] at e4_26;clear e0_25 e1_25 e5_25 e12_25;refine Wp.ret ?_;refine endK_tmp Tryz.results170 (by decide) ?_;rw [e4_26];exact ⟨by rw [hRe.choose_spec],by rw [hRe.choose_spec];exact hR1,by rw [hRe.choose_spec];exact hT1,xg⟩
theorem app_noneI (w : World) (ty : TypeId) (A : Option Addr) (n c k : Nat) (h : n ≤ c) : (Builtin.append_ #[22,22] ty #[.slice A n c,.slice none 0 k]).run Tryz.prog w = .ok (.slice A n c) w := by
 simp [Builtin.append_,go_sem,h]
 cases A <;> rfl
theorem own_cap {w : World} {base e size n c k : Nat} {A : Option Addr} {xs : List Value} (h : w.ownsRow base e size (.slice A n c) k xs) : n = k ∧ n ≤ c := by
 rcases h.2 with ⟨e,hn⟩ | ⟨g,cap,cur,e,hb,hg,hnc,-⟩
 ·injection e with e1 e2 e3;omega
 ·injection e with e1 e2 e3;subst e2;subst e3;exact ⟨rfl,hnc⟩
theorem app0I {w : World} {base c n k : Nat} {A : Option Addr} {xs : List Value} (ty : TypeId) (h : w.ownsRow base 3 1 (.slice A n c) k xs) :
  ∃ v' w',(Builtin.append_ #[22,22] ty #[.slice A n c,.slice none 0 0]).run Tryz.prog w = .ok v' w' ∧ w'.ownsRow base 3 1 v' k xs ∧ w.grownBy w' (Value.slice A n c).ownBlock ∧ True :=
 ⟨_,w,app_noneI w ty A n c 0 (own_cap h).2,h,⟨rfl,rfl,rfl,Nat.le_refl _,fun _ _ _ => rfl⟩,trivial⟩
theorem newsT {w : World} {b o : Nat} {l : List Int} (hc : ∀ k,k < l.length → w.cell? ⟨b,o + k,none⟩ = some (.int .i64 (gI l k))) (k : Nat) : ∀ q u,((l.take k).map (Value.int .i64))[q]? = some u → w.cell? ((⟨b,o,none⟩ : Addr).add q) = some u := by
 intro q u hu;rw [List.getElem?_map,List.getElem?_take] at hu
 by_cases hq : q < k
 ·rw [if_pos hq] at hu;obtain ⟨x,hx,rfl⟩ := Option.map_eq_some_iff.1 hu;obtain ⟨hql,hx2⟩ := List.getElem?_eq_some_iff.1 hx;rw [Addr.add_lit,hc q hql,gI_lt hql,hx2]
 ·rw [if_neg hq] at hu;cases hu
theorem newsD {w : World} {b o : Nat} {l : List Int} (hc : ∀ k,k < l.length → w.cell? ⟨b,o + k,none⟩ = some (.int .i64 (gI l k))) (k : Nat) : ∀ q u,((l.drop k).map (Value.int .i64))[q]? = some u → w.cell? ((⟨b,o + k,none⟩ : Addr).add q) = some u := by
 intro q u hu;rw [List.getElem?_map,List.getElem?_drop] at hu;obtain ⟨x,hx,rfl⟩ := Option.map_eq_some_iff.1 hu;obtain ⟨hql,hx2⟩ := List.getElem?_eq_some_iff.1 hx;rw [Addr.add_lit,Nat.add_assoc,hc (k + q) hql,gI_lt hql,hx2]
theorem insert0_c (x : Int) (w : World) : CallsV Tryz.prog 108 #[.slice none 0 0,.int .i64 x] w fun v w' => OwnI w' w.heap.size v [x] ∧ Ext w w' := by
 refine Wp.fn Tryz.func108 rfl Tryz.ntmps108 (by simp) ?_;have xw := Ext.refl w;refine Wp.keep [0,1] ?_;rintro r1 ⟨e0_1,e1_1,-⟩;simp [go_sem] at e0_1 e1_1;refine sRg fun K' gd hK => ?_;go_simp;refine hK _ _ ?_;clear hK K' gd;refine Wp.keep [0,1] ?_;rintro r2 ⟨e0_2,e1_2,-⟩;simp [go_sem,e0_1,e1_1] at e0_2 e1_2;clear e0_1 e1_1;refine sRg fun K' gd hK => ?_;go_simp;refine hK _ _ ?_;clear hK K' gd;refine Wp.keep [0,1,5] ?_;rintro r3 ⟨e0_3,e1_3,e5_3,-⟩;simp [go_sem,e0_2,e1_2] at e0_3 e1_3 e5_3;clear e0_2 e1_2;refine sBk ?_;refine Wp.loop (fun j ρ ds wj => AllEq [0,1] ρ r3 ∧ ds = [] ∧ (Ext w wj) ∧ (ρ 5 = .int .i64 0)) (0) ?_ ?_
 ·refine ⟨AllEq.refl _ _,rfl,Ext.refl _,?_⟩;rw [e5_3]
 ·rintro j r4 _ wj hj ⟨hA,rfl,xl1,e5⟩;obtain ⟨e0_4,e1_4,-⟩ := hA;rw [e0_3] at e0_4;rw [e1_3] at e1_4;have zxl1 := Below.size xl1;replace xw := Ext.trans xw xl1;refine Wp.seq ?_;refine sRh fun K' gd hK hg => ?_;have g2 : gd 2 = some 11 := hg 2;clear hg;go_simp;refine hK _ _ ?_;clear hK K' gd g2;refine Wp.keep [0,1,5,19] ?_;rintro r5 ⟨e0_5,e1_5,e5_5,e19_5,-⟩;simp [go_sem,e0_4,e1_4,e5] at e0_5 e1_5 e5_5 e19_5;clear e0_4 e1_4 e5;refine cFf ?_;refine Wp.exit ?_;refine tEx ?_;refine tEx ?_;refine blockK_here ?_;refine tNo ?_;refine sRg fun K' gd hK => ?_;refine cu1 fun K1 hK1 => ?_;go_simp;refine hK1 _ _ ?_;clear hK1 K1;refine Wops.absT fun V22_2 n22 hV22_2 R22 => ?_;obtain ⟨q22,hV22_2,s22,kV22_2,f22,r22⟩ := hV22_2;try simp only [q22] at kV22_2 f22 r22 ⊢
  replace R22 := (show RowC _ _ _ _ from R22);replace xw := xw.trans hV22_2;replace xl1 := xl1.trans hV22_2;clear hV22_2 f22;clear kV22_2;refine cu4 fun K1 hK1 => ?_;refine Wops.cut 3 fun K2 hK2 => ?_;simp only [tSC,tZ];go_simp;refine hK2 _ _ ?_;clear hK2 K2;simp only [dSC,dZ];obtain ⟨v',w7,hrun,hO,hgr,-⟩ := app0I 22 (RowC.own (size := 1) (k := 0) (c := 0) R22 (Nat.le_refl _) (Nat.le_refl _) (Nat.zero_le _) (by simp));refine Wops.law rfl (exec_append2 rfl hrun (by go_simp) (by go_simp)) ?_;simp only [updO_some,Wops_nil];refine hK1 _ _ ?_;clear hK1 K1;have z6 := World.grownBy.size hgr;replace xw := Chg.to xw (grown_chg hgr) (lt_ge (World.ownsRow.lt (RowC.own (size := 1) (k := 0) (c := 0) R22 (Nat.le_refl _) (Nat.le_refl _) (Nat.zero_le _) (by simp))) (by omega));replace xl1 := Chg.to xl1 (grown_chg hgr) (lt_ge (World.ownsRow.lt (RowC.own (size := 1) (k := 0) (c := 0) R22 (Nat.le_refl _) (Nat.le_refl _) (Nat.zero_le _) (by simp))) (by omega));go_simp;refine hK _ _ ?_;clear hK K' gd;refine Wp.keep [0,1,5,6] ?_;rintro r7 ⟨e0_7,e1_7,e5_7,e6_7,-⟩;simp [go_sem,e0_5,e1_5,e5_5,e19_5] at e0_7 e1_7 e5_7 e6_7;clear e0_5 e1_5 e5_5 e19_5;refine sRg fun K' gd hK => ?_;refine cu3 fun K1 hK1 => ?_
  go_simp;refine hK1 _ _ ?_;clear hK1 K1;refine Wops.absT fun V29_3 n29 hV29_3 R29 => ?_;obtain ⟨q29,hV29_3,s29,kV29_3,f29,r29⟩ := hV29_3;try simp only [q29] at kV29_3 f29 r29 ⊢
  replace hO := hO.ext hV29_3;replace xw := xw.trans hV29_3;replace xl1 := xl1.trans hV29_3;clear hV29_3 f29;have c29_0 := kV29_3 0 _ rfl;clear kV29_3;refine cu1 fun K1 hK1 => ?_;obtain ⟨v2,w8,hrun,hO2,hgr,-⟩ := app_run ints_T hO ⟨n29,0,none⟩ 1 1 [.int .i64 x] 22 rfl (news_one c29_0) (one_one rfl) (by omega) (by omega);refine Wops.law rfl (exec_append2 rfl hrun (by go_simp) (by go_simp)) ?_;simp only [updO_some,Wops_nil];refine hK1 _ _ ?_;clear hK1 K1;replace xw := Chg.to xw (grown_chg hgr) (lt_ge (World.ownsRow.lt hO) (by omega));replace xl1 := Chg.to xl1 (grown_chg hgr) (lt_ge (World.ownsRow.lt hO) (by omega));go_simp;refine hK _ _ ?_;clear hK K' gd;refine Wp.keep [0,5,6] ?_;rintro r9 ⟨e0_9,e5_9,e6_9,-⟩;simp [go_sem,e0_7,e1_7,e5_7,e6_7] at e0_9 e5_9 e6_9;clear e0_7 e1_7 e5_7 e6_7;obtain ⟨A8,c8,rfl⟩ := ownsRow_slice hO2;refine sRg fun K' gd hK => ?_;refine cu5 fun K1 hK1 => ?_;refine Wops.cut 4 fun K2 hK2 => ?_;simp only [tSC,tZ];go_simp;refine hK2 _ _ ?_;clear hK2 K2;simp only [dSC,dZ];obtain ⟨v3,w9,hrun,hO3,hgr,-⟩ := app0I 22 hO2;refine Wops.law rfl (exec_append2 rfl hrun (by go_simp) (by go_simp)) ?_;simp only [updO_some,Wops_nil]
  refine hK1 _ _ ?_;clear hK1 K1;replace xw := Chg.to xw (grown_chg hgr) (lt_ge (World.ownsRow.lt hO2) (by omega));replace xl1 := Chg.to xl1 (grown_chg hgr) (lt_ge (World.ownsRow.lt hO2) (by omega));go_simp;refine hK _ _ ?_;clear hK K' gd;refine Wp.keep [4] ?_;rintro r11 ⟨e4_11,-⟩;simp [go_sem,e0_9,e5_9,e6_9] at e4_11;clear e0_9 e5_9 e6_9;refine Wp.ret ?_;refine endK_tmp Tryz.results108 (by decide) ?_;rw [e4_11];exact ⟨by show World.ownsRow _ _ _ _ _ _ _;exact ownsRow_less hO3 (by omega),xw⟩
theorem insert1_c (b o c : Nat) (l : List Int) (x : Int) (w : World) (hb : b < w.heap.size) (hc : ∀ k,k < l.length → w.cell? ⟨b,o + k,none⟩ = some (.int .i64 (gI l k))) (hlc : l.length ≤ c) (hl : l.length ≤ 100) :
  CallsV Tryz.prog 108 #[.slice (some ⟨b,o,none⟩) l.length c,.int .i64 x] w fun v w' => OwnI w' w.heap.size v (insI l x) ∧ Ext w w' := by
 obtain ⟨p,hp⟩ : ∃ p,∃ _u : Unit,insPos l x l.length = p := ⟨_,(),rfl⟩;have hpl : p ≤ l.length := by rw [← hp.choose_spec];exact insPos_le l x _
 refine Wp.fn Tryz.func108 rfl Tryz.ntmps108 (by simp) ?_;have xw := Ext.refl w;refine Wp.keep [0,1] ?_;rintro r1 ⟨e0_1,e1_1,-⟩;simp [go_sem] at e0_1 e1_1;refine sRg fun K' gd hK => ?_;go_simp;refine hK _ _ ?_;clear hK K' gd;refine Wp.keep [0,1] ?_;rintro r2 ⟨e0_2,e1_2,-⟩;simp [go_sem,e0_1,e1_1] at e0_2 e1_2;clear e0_1 e1_1;refine sRg fun K' gd hK => ?_;go_simp;refine hK _ _ ?_;clear hK K' gd;refine Wp.keep [0,1,5] ?_;rintro r3 ⟨e0_3,e1_3,e5_3,-⟩;simp [go_sem,e0_2,e1_2] at e0_3 e1_3 e5_3;clear e0_2 e1_2;refine Wp.seq ?_;refine Wp.cut (fun ρ ds W => AllEq [0,1] ρ r3 ∧ ds = [] ∧ (Ext w W) ∧ (ρ 5 = .int .i64 (p : Int))) ?_ ?_
 ·have xq1 := Ext.refl w;refine Wp.block ?_;refine Wp.loop (fun j ρ ds wj => AllEq [0,1] ρ r3 ∧ ds = [] ∧ (Ext w wj) ∧ (∃ k : Nat,ρ 5 = .int .i64 (k : Int) ∧ (∃ _u : Unit,k + j = l.length ∧ insPos l x l.length = insPos l x k))) (l.length) ?_ ?_
  ·refine ⟨AllEq.refl _ _,rfl,Ext.refl _,?_⟩;exact ⟨l.length,by rw [e5_3],(),by omega,rfl⟩
  ·rintro j r4 _ wj hj ⟨hA,rfl,xl2,⟨k,e5,hk⟩⟩;obtain ⟨e0_4,e1_4,-⟩ := hA;rw [e0_3] at e0_4;rw [e1_3] at e1_4;replace xw := Ext.trans xw xl2;replace xq1 := Ext.trans xq1 xl2
   by_cases h0 : 0 < k
   ·skip;obtain ⟨q,hq⟩ : ∃ q : Nat,∃ _u : Unit,q + 1 = k := ⟨k - 1,(),by omega⟩;have dq := xw.cell (hc q (by omega));have hwq : IntKind.i64.wrap ((k : Int) - 1) = (q : Int) := by rw [IntWalk.i64_in _ (by omega)];omega
    have hql : (q : Int) < (l.length : Int) := by omega
    skip
    by_cases hx : x < gI l q
    ·skip;refine Wp.seq ?_;refine sRh fun K' gd hK hg => ?_;have g2 : gd 2 = some 11 := hg 2;clear hg;go_simp;refine hK _ _ ?_;clear hK K' gd g2;refine Wp.keep [0,1,5,19] ?_;rintro r5 ⟨e0_5,e1_5,e5_5,e19_5,-⟩;simp [go_sem,e0_4,e1_4,e5] at e0_5 e1_5 e5_5 e19_5;clear e0_4 e1_4 e5;refine cTt ?_;refine skN ?_;refine Wp.block ?_;refine lRg fun K' gd hK => ?_;go_simp;refine hK _ _ ?_;clear hK K' gd;refine Ends.keep [0,1,5] ?_;rintro r6 ⟨e0_6,e1_6,e5_6,-⟩;simp [go_sem,e0_5,e1_5,e5_5,e19_5] at e0_6 e1_6 e5_6;clear e0_5 e1_5 e5_5 e19_5;refine Ends.mk ?_;refine bNo ?_;refine thenK_normal ⟨by omega,⟨by rw [e0_6,e0_3],by rw [e1_6,e1_3],trivial⟩,rfl,xl2,?_⟩;exact ⟨q,by rw [e5_6],(),by have := hq.choose_spec;have := hk.choose_spec.1;omega,by rw [hk.choose_spec.2,← hq.choose_spec,insPos,if_pos hx]⟩
    ·skip;refine Wp.seq ?_;refine sRh fun K' gd hK hg => ?_;have g2 : gd 2 = some 11 := hg 2;clear hg;go_simp;refine hK _ _ ?_;clear hK K' gd g2;refine Wp.keep [0,1,5,19] ?_;rintro r7 ⟨e0_7,e1_7,e5_7,e19_7,-⟩;simp [go_sem,e0_4,e1_4,e5] at e0_7 e1_7 e5_7 e19_7;clear e0_4 e1_4 e5;refine cFf ?_;refine Wp.exit ?_;refine tEx ?_;refine tEx ?_;refine blockK_here ?_;refine cutK_normal ⟨⟨by rw [e0_7,e0_3],by rw [e1_7,e1_3],trivial⟩,rfl,xq1,?_⟩;rw [← hp.choose_spec,hk.choose_spec.2,← hq.choose_spec,insPos,if_neg hx,hq.choose_spec];exact e5_7
   ·skip;refine Wp.seq ?_;refine sRh fun K' gd hK hg => ?_;have g2 : gd 2 = some 11 := hg 2;clear hg;go_simp;refine hK _ _ ?_;clear hK K' gd g2;refine Wp.keep [0,1,5,19] ?_;rintro r8 ⟨e0_8,e1_8,e5_8,e19_8,-⟩;simp [go_sem,e0_4,e1_4,e5] at e0_8 e1_8 e5_8 e19_8;clear e0_4 e1_4 e5;refine cFf ?_;refine Wp.exit ?_;refine tEx ?_;refine tEx ?_;refine blockK_here ?_;refine cutK_normal ⟨⟨by rw [e0_8,e0_3],by rw [e1_8,e1_3],trivial⟩,rfl,xq1,?_⟩;have e : k = 0 := by omega
    subst e;rw [← hp.choose_spec,hk.choose_spec.2];exact e5_8
 ·rintro r9 _ W1 ⟨hA,rfl,xq1,e5⟩;obtain ⟨e0_9,e1_9,-⟩ := hA;rw [e0_3] at e0_9;rw [e1_3] at e1_9;clear e0_3 e1_3 e5_3;have zxq1 := Below.size xq1;replace xw := Ext.trans xw xq1;refine tNo ?_;have hpc : (p : Int) ≤ (c : Int) := by omega
  refine sRg fun K' gd hK => ?_;refine cu1 fun K1 hK1 => ?_;go_simp;refine hK1 _ _ ?_;clear hK1 K1;refine Wops.absT fun V22_3 n22 hV22_3 R22 => ?_;obtain ⟨q22,hV22_3,s22,kV22_3,f22,r22⟩ := hV22_3;try simp only [q22] at kV22_3 f22 r22 ⊢
  replace R22 := (show RowC _ _ _ _ from R22);replace xw := xw.trans hV22_3;clear hV22_3 f22;clear kV22_3;refine cu4 fun K1 hK1 => ?_;refine Wops.cut 3 fun K2 hK2 => ?_;simp only [tSC,tZ];go_simp;refine hK2 _ _ ?_;clear hK2 K2;simp only [dSC,dZ];obtain ⟨v',w7,hrun,hO,hgr,-⟩ := app_run ints_T (RowC.own (size := 1) (k := 0) (c := 0) R22 (Nat.le_refl _) (Nat.le_refl _) (Nat.zero_le _) (by simp)) ⟨b,o,none⟩ p c ((l.take p).map (Value.int .i64)) 22 (by simp;omega) (newsT (fun k hk => xw.cell (hc k hk)) p) one_ints (by omega) (by omega);refine Wops.law rfl (exec_append2 rfl hrun (by go_simp) (by go_simp)) ?_;simp only [updO_some,Wops_nil];refine hK1 _ _ ?_;clear hK1 K1;have z10 := World.grownBy.size hgr;replace xw := Chg.to xw (grown_chg hgr) (lt_ge (World.ownsRow.lt (RowC.own (size := 1) (k := 0) (c := 0) R22 (Nat.le_refl _) (Nat.le_refl _) (Nat.zero_le _) (by simp))) (by omega));go_simp;refine hK _ _ ?_;clear hK K' gd;refine Wp.keep [0,1,5,6] ?_;rintro r11 ⟨e0_11,e1_11,e5_11,e6_11,-⟩;simp [go_sem,e0_9,e1_9,e5] at e0_11 e1_11 e5_11 e6_11;clear e0_9 e1_9 e5;refine sRg fun K' gd hK => ?_;refine cu3 fun K1 hK1 => ?_;go_simp;refine hK1 _ _ ?_;clear hK1 K1;refine Wops.absT fun V29_4 n29 hV29_4 R29 => ?_;obtain ⟨q29,hV29_4,s29,kV29_4,f29,r29⟩ := hV29_4;try simp only [q29] at kV29_4 f29 r29 ⊢
  replace hO := hO.ext hV29_4;replace xw := xw.trans hV29_4;clear hV29_4 f29;have c29_0 := kV29_4 0 _ rfl;clear kV29_4;refine cu1 fun K1 hK1 => ?_;obtain ⟨v2,w8,hrun,hO2,hgr,-⟩ := app_run ints_T hO ⟨n29,0,none⟩ 1 1 [.int .i64 x] 22 rfl (news_one c29_0) (one_one rfl) (by omega) (by omega);refine Wops.law rfl (exec_append2 rfl hrun (by go_simp) (by go_simp)) ?_;simp only [updO_some,Wops_nil];refine hK1 _ _ ?_;clear hK1 K1;have z12 := World.grownBy.size hgr;replace xw := Chg.to xw (grown_chg hgr) (lt_ge (World.ownsRow.lt hO) (by omega));go_simp;refine hK _ _ ?_;clear hK K' gd;refine Wp.keep [0,5,6] ?_;rintro r13 ⟨e0_13,e5_13,e6_13,-⟩;simp [go_sem,e0_11,e1_11,e5_11,e6_11] at e0_13 e5_13 e6_13;clear e0_11 e1_11 e5_11 e6_11;have hpl2 : (p : Int) ≤ (l.length : Int) := by omega
  by_cases hcp : c = p
  ·skip;subst hcp;refine sRg fun K' gd hK => ?_;refine cu5 fun K1 hK1 => ?_;refine Wops.cut 4 fun K2 hK2 => ?_;simp only [tSC,tZ];go_simp;refine hK2 _ _ ?_;clear hK2 K2;simp only [dSC,dZ];obtain ⟨v3,w9,hrun,hO3,hgr,-⟩ := app_run ints_T hO2 ⟨b,o,none⟩ (l.length - c) (c - c) ((l.drop c).map (Value.int .i64)) 22 (by simp) (by intro q u hu;rw [List.drop_eq_nil_of_le (by omega)] at hu;cases hu) one_ints (by omega) (by omega);refine Wops.law rfl (exec_append2 rfl hrun (by go_simp) (by go_simp)) ?_;simp only [updO_some,Wops_nil];refine hK1 _ _ ?_;clear hK1 K1;replace xw := Chg.to xw (grown_chg hgr) (lt_ge (World.ownsRow.lt hO2) (by omega));go_simp;refine hK _ _ ?_;clear hK K' gd;refine Wp.keep [4] ?_;rintro r15 ⟨e4_15,-⟩;simp [go_sem,e0_13,e5_13,e6_13] at e4_15;clear e0_13 e5_13 e6_13;refine Wp.ret ?_;refine endK_tmp Tryz.results108 (by decide) ?_;rw [e4_15];have e := insI_len l x;refine ⟨?_,xw⟩;unfold OwnI;rw [e];unfold insI;rw [hp.choose_spec];have h9 := ownsRow_less (b2 := w.heap.size) hO3 (by omega);rw [show 0 + c + 1 + (l.length - c) = l.length + 1 by omega] at h9
   simpa using h9
  ·skip;refine sRg fun K' gd hK => ?_;refine cu5 fun K1 hK1 => ?_;refine Wops.cut 4 fun K2 hK2 => ?_;simp only [tSC,tZ];go_simp;refine hK2 _ _ ?_;clear hK2 K2;simp only [dSC,dZ];obtain ⟨v3,w9,hrun,hO3,hgr,-⟩ := app_run ints_T hO2 ⟨b,o + p,none⟩ (l.length - p) (c - p) ((l.drop p).map (Value.int .i64)) 22 (by simp) (newsD (fun k hk => xw.cell (hc k hk)) p) one_ints (by omega) (by omega);refine Wops.law rfl (exec_append2 rfl hrun (by go_simp) (by go_simp)) ?_;simp only [updO_some,Wops_nil];refine hK1 _ _ ?_;clear hK1 K1;replace xw := Chg.to xw (grown_chg hgr) (lt_ge (World.ownsRow.lt hO2) (by omega));go_simp;refine hK _ _ ?_;clear hK K' gd;refine Wp.keep [4] ?_;rintro r17 ⟨e4_17,-⟩;simp [go_sem,e0_13,e5_13,e6_13] at e4_17;clear e0_13 e5_13 e6_13;refine Wp.ret ?_;refine endK_tmp Tryz.results108 (by decide) ?_;rw [e4_17];have e := insI_len l x;refine ⟨?_,xw⟩;unfold OwnI;rw [e];unfold insI;rw [hp.choose_spec];have h9 := ownsRow_less (b2 := w.heap.size) hO3 (by omega);rw [show 0 + p + 1 + (l.length - p) = l.length + 1 by omega] at h9
   simpa using h9
theorem rinsert_c (v : Value) (l : List Int) (x : Int) (w : World) (hx : IntsV w w.heap.size v l) (hn : l = [] → v = .slice none 0 0) (hl : l.length ≤ 100) :
  CallsV Tryz.prog 108 #[v,.int .i64 x] w fun v w' => IntsB w' w.heap.size v (insI l x) ∧ Ext w w' := by
 rcases Nat.eq_zero_or_pos l.length with h | h
 ·have : l = [] := List.eq_nil_of_length_eq_zero h;subst this;rw [hn rfl];exact (insert0_c x w).mono fun v w' ⟨h1,h2⟩ => ⟨h1.intsB,h2⟩
 ·obtain ⟨b,o,c,e,hb,hc⟩ := hx.get h;obtain ⟨A,c2,e2,-,hlc⟩ := hx;rw [e] at e2
  injection e2 with _ _ e2
  subst e2;rw [e];exact (insert1_c b o c l x w hb hc hlc hl).mono fun v w' ⟨h1,h2⟩ => ⟨h1.intsB,h2⟩
end Go.Proofs.YtnklbepeoicgpaaGreat
namespace Go.Proofs.YtnklbepeoicgpaaGreat
open Go.Wk Go.Proofs
set_option maxHeartbeats 8000000
theorem sumN_at {i : Nat} {W : Nat → Int} : ∀ m,sumN (fun j => if i = j then W j else 0) m = if i < m then W i else 0
 | 0 => by rw [if_neg (by omega)];rfl
 | m + 1 => by
   show sumN _ m + (if i = m then W m else 0) = _
   rw [sumN_at m]
   by_cases h : i = m
   ·subst h;rw [if_neg (by omega),if_pos rfl,if_pos (by omega)];omega
   ·rw [if_neg h]
    by_cases h2 : i < m
    ·rw [if_pos h2,if_pos (by omega)];omega
    ·rw [if_neg h2,if_neg (by omega)];rfl
theorem worth_one {W : Int → Int} {g h : Nat → Int} {n m i : Nat} (hg : ∀ d,d < n → g d < m) (hh : ∀ d,d < n → h d < m) (hi : i < m) (hc : ∀ j : Nat,cntN g (j : Int) n = cntN h (j : Int) n + if i = j then 1 else 0) :
  worthW W g n = worthW W h n + W i := by
 rw [worth_cnt (m := m) n hg,worth_cnt (m := m) n hh]
 have e : sumN (fun j => cntN g (j : Int) n * W (j : Int)) m = sumN (fun j => cntN h (j : Int) n * W (j : Int) + if i = j then W (j : Int) else 0) m := sumN_eq m fun j _ => by
  rw [hc,Int.add_mul]
  congr 1
  split
  ·rw [Int.one_mul]
  ·rw [Int.zero_mul]
 rw [e,sumN_add,sumN_at (W := fun j => W (j : Int)),if_pos hi]
theorem planF_snoc {N : Int → List Nat} {n k : Nat} {l : List Int} (hk : k < l.length) : planF N n (l.take (k + 1)) = addF N n (planF N n (l.take k)) (gI l k) := by
 unfold planF;rw [take_snoc hk,List.foldl_append,gI_lt hk]
 rfl
theorem best_step {t : Tr} {n k i : Nat} (h : OptT t n) (hk : k < (ordL t.fl).length) (hi : gI (ordL t.fl) k = (i : Int)) :
  (addR t.N n (planF t.N n ((ordL t.fl).take k)) i).2.1 = planF t.N n ((ordL t.fl).take (k + 1)) ∧
  worthN t.fl (planF t.N n ((ordL t.fl).take (k + 1))) n = worthN t.fl (planF t.N n ((ordL t.fl).take k)) n + (if (addR t.N n (planF t.N n ((ordL t.fl).take k)) i).1 = true then mAt t.fl i else 0) ∧
  ∀ d,planF t.N n ((ordL t.fl).take k) d < t.fl.length := by
 have hN := trN_lt h.span
 have hC : PlanC t.N n t.fl.length (fun a b => mAt t.fl b ≤ mAt t.fl a) ((ordL t.fl).take k) (planF t.N n ((ordL t.fl).take k)) :=
  planF_C hN ((ordL_nodup t.fl).sublist (List.take_sublist _ _)) ((ordL_sorted t.fl).sublist (List.take_sublist _ _)) fun _ hx => ordL_mem.1 (List.mem_of_mem_take hx)
 rw [gI_lt hk] at hi
 have him : i < t.fl.length := by
  obtain ⟨q,e,hq⟩ := ordL_mem.1 (List.getElem_mem hk);rw [hi] at e;omega
 have hnot : ((i : Nat) : Int) ∉ (ordL t.fl).take k := by
  have hnd := ordL_nodup t.fl;rw [← List.take_append_drop k (ordL t.fl),List.drop_eq_getElem_cons hk,hi] at hnd;intro hm;exact (List.nodup_append.1 hnd).2.2 _ hm _ List.mem_cons_self rfl
 have h0 : cntN (planF t.N n ((ordL t.fl).take k)) (i : Int) n = 0 := Decidable.byContradiction fun hc => hnot (hC.only i hc);rw [planF_snoc hk,gI_lt hk,hi,worthN_W,worthN_W];refine ⟨?_,?_,fun d => (hC.ok.lt d).2⟩
 ·unfold addF
  split
  ·rfl
  ·rename_i hb
   exact (addR_R (i := i) hN hC.ok).same (by simpa using hb)
 ·cases hb : addB t.N n (planF t.N n ((ordL t.fl).take k)) i with
  | true =>
    obtain ⟨a1,a2⟩ := add_true hN hC.ok him h0 hb;have hb2 : (addR t.N n (planF t.N n ((ordL t.fl).take k)) i).1 = true := hb;rw [if_pos hb2,worth_one (fun d _ => (a1.lt d).2) (fun d _ => (hC.ok.lt d).2) him a2]
  | false =>
    have hb2 : (addR t.N n (planF t.N n ((ordL t.fl).take k)) i).1 = false := hb;rw [hb2,(add_false hN hC.ok him h0 hb).1,if_neg (by decide),Int.add_zero]
theorem worthN_leC {fl : List Fl} {C : Int} (h0 : 0 ≤ C) (hm : ∀ k (h : k < fl.length),0 ≤ fl[k].m ∧ fl[k].m ≤ C) (h : Nat → Int) : ∀ k,0 ≤ worthN fl h k ∧ worthN fl h k ≤ C * (k : Int)
 | 0 => ⟨Int.le_refl _,by simp [worthN]⟩
 | k + 1 => by
   have ih := worthN_leC h0 hm h k
   have hx : 0 ≤ mAt fl (h k) ∧ mAt fl (h k) ≤ C := by
    unfold mAt
    cases e : fl[(h k).toNat]? with
    | none => exact ⟨Int.le_refl _,h0⟩
    | some f => obtain ⟨hk,rfl⟩ := List.getElem?_eq_some_iff.1 e;exact hm _ hk
   have e : C * ((k + 1 : Nat) : Int) = C * (k : Int) + C := by rw [Int.natCast_add,Int.mul_add];omega
   unfold worthN;rw [e]
   split <;> omega
theorem worthN_noPlan (fl : List Fl) (n : Nat) : worthN fl noPlan n = 0 := by rw [worthN_W];exact worth_no n
end Go.Proofs.YtnklbepeoicgpaaGreat
namespace Go.Proofs.YtnklbepeoicgpaaGreat
open Go.RowKit Go.Wk Go.Proofs
attribute [local irreducible] Go.Wk.Wops Go.Wk.Wp Go.Wk.Mtree Go.Wk.Mops
set_option maxHeartbeats 8000000
set_option maxRecDepth 20000
theorem bools_T : ElemT Tryz.prog 180 4 1 := elemT_of (by kernel_rfl)
@[go_sem] theorem makeB (n : Nat) (hn : n ≤ 1000000000) (w : World) : (Instr.makeSlice 180 (.int .i64 (n : Int)) (.int .i64 (n : Int))).run Tryz.prog w = .ok (.slice (some ⟨w.heap.size,0,none⟩) n n) (w.alloc (.cells (List.replicate n (.bool false)).toArray 4)) :=
 make_one bools_T (by kernel_rfl) rfl n hn w
theorem rowT_of {W : World} {b n : Nat} {cs : List Value} (a : RowX W b cs) (hcs : cs = List.replicate n (.bool false)) : RowT W b n (fun _ => false) := by
 obtain ⟨t,h⟩ := a.ex;subst hcs;exact ⟨fun d hd => by rw [h.cell,List.getElem?_replicate,if_pos hd],fun j => h.frozen j,h.lt⟩
theorem rowF_of {W : World} {b n : Nat} {cs : List Value} (a : RowX W b cs) (hcs : cs = List.replicate n (.int .i64 0)) : RowF W b n (fun _ => 0) := by
 obtain ⟨t,h⟩ := a.ex;subst hcs;exact ⟨fun d hd => by rw [h.cell,List.getElem?_replicate,if_pos hd],fun j => h.frozen j,h.lt⟩
theorem IntsB.at {w : World} {base b o l c : Nat} {xs : List Int} (h : IntsB w base (.slice (some ⟨b,o,none⟩) l c) xs) : b < w.heap.size ∧ xs.length ≤ c ∨ xs = [] := by
 obtain ⟨A,c2,e,h1,h2⟩ := h
 injection e with e1 e2 e3
 subst e3
 by_cases hn : xs = []
 ·exact .inr hn
 ·obtain ⟨b2,o2,e4,-,h4,-⟩ := h1 hn;rw [← e1] at e4;injection e4 with e4;injection e4 with e5;subst e5;exact .inl ⟨h4,h2⟩
theorem IntsB.cells {w : World} {base b o l c : Nat} {xs : List Int} (h : IntsB w base (.slice (some ⟨b,o,none⟩) l c) xs) : ∀ k,k < xs.length → w.cell? ⟨b,o + k,none⟩ = some (.int .i64 (gI xs k)) := by
 intro k hk;obtain ⟨A,c2,e,h1,h2⟩ := h
 injection e with e1 e2 e3
 obtain ⟨b2,o2,e4,-,h4,h5⟩ := h1 (by rintro rfl;exact absurd hk (Nat.not_lt_zero _));rw [← e1] at e4;injection e4 with e4;injection e4 with e5 e6;subst e5 e6;rw [h5 k hk,gI_lt hk]
theorem IntsS.cells {w : World} {S b o l c : Nat} {xs : List Int} (h : IntsS w S (.slice (some ⟨b,o,none⟩) l c) xs) : ∀ k,k < xs.length → w.cell? ⟨b,o + k,none⟩ = some (.int .i64 (gI xs k)) := by
 intro k hk;obtain ⟨b2,o2,c2,ev,_,hcc⟩ := h.v.get (by omega : 0 < xs.length)
 injection ev with e1 _ _
 injection e1 with e1
 injection e1 with e1 e2
 subst e1 e2;exact hcc k hk
theorem IntsB.open {w : World} {base : Nat} {v : Value} {xs : List Int} (h : IntsB w base v xs) (hn : 0 < xs.length) : ∃ b o c,v = .slice (some ⟨b,o,none⟩) xs.length c ∧ xs.length ≤ c ∧ b < w.heap.size := by
 obtain ⟨A,c,e,h1,h2⟩ := h;obtain ⟨b,o,rfl,-,h4,-⟩ := h1 (by rintro rfl;exact absurd hn (Nat.not_lt_zero _));exact ⟨b,o,c,e,h2,h4⟩
structure SearchD (W : World) (S sb hb n : Nat) (A : Option Addr) (c : Nat) (A2 : Option Addr) (c2 : Nat) (t : Tr) : Prop where
 k0 : W.cell? ⟨sb,0,none⟩ = some (.int .i64 t.n)
 k1 : W.cell? ⟨sb,1,none⟩ = some (.slice A t.cl.length c)
 k2 : W.cell? ⟨sb,2,none⟩ = some (.slice A2 t.fl.length c2)
 k3 : W.cell? ⟨sb,3,none⟩ = some (.slice (some ⟨hb,0,none⟩) n n)
 k4 : ∃ x,W.cell? ⟨sb,4,none⟩ = some x
 fz : ∀ j,W.frozen? ⟨sb,j,none⟩ = false
 s : S ≤ hb ∧ S ≤ sb ∧ S ≤ W.heap.size
 ne : sb ≠ hb
section
variable {W V : World} {S sb hb n : Nat} {A : Option Addr} {c : Nat} {A2 : Option Addr} {c2 : Nat} {t : Tr}
theorem SearchD.chg {L : List Nat} (h : SearchD W S sb hb n A c A2 c2 t) (hC : Chg L W V) (hL : sb ∉ L) : SearchD V S sb hb n A c A2 c2 t := by
 obtain ⟨x,hx⟩ := h.k4;exact ⟨Chg.cell hC h.k0 hL,Chg.cell hC h.k1 hL,Chg.cell hC h.k2 hL,Chg.cell hC h.k3 hL,⟨x,Chg.cell hC hx hL⟩,fun j => by rw [← h.fz j];simp only [World.frozen?,hC.block sb (cell_lt h.k0) hL],⟨h.s.1,h.s.2.1,Nat.le_trans h.s.2.2 hC.size⟩,h.ne⟩
theorem SearchD.ext (h : SearchD W S sb hb n A c A2 c2 t) (hE : Ext W V) : SearchD V S sb hb n A c A2 c2 t := h.chg ((Chg.refl [] W).ext hE) (by simp)
theorem SearchD.put {k i : Nat} {vs : List Value} (h : SearchD W S sb hb n A c A2 c2 t) (p : Put W V k i vs) (hk : sb ≠ k) : SearchD V S sb hb n A c A2 c2 t := h.chg p.chg (by simpa using hk)
end
theorem SearchD.tried {W V : World} {S sb hb n : Nat} {A : Option Addr} {c : Nat} {A2 : Option Addr} {c2 : Nat} {t : Tr} {x : Value} (h : SearchD W S sb hb n A c A2 c2 t) (p : Put W V sb 4 [x]) : SearchD V S sb hb n A c A2 c2 t :=
 ⟨by rw [p.old 0 (by simp)];exact h.k0,by rw [p.old 1 (by simp)];exact h.k1,by rw [p.old 2 (by simp)];exact h.k2,by rw [p.old 3 (by simp)];exact h.k3,⟨x,p.new 0 _ rfl⟩,fun j => (p.fz _).trans (h.fz j),⟨h.s.1,h.s.2.1,Nat.le_trans h.s.2.2 p.same.2⟩,h.ne⟩
theorem SearchD.placeD {W : World} {S sb hb tb n : Nat} {A : Option Addr} {c : Nat} {A2 : Option Addr} {c2 : Nat} {t : Tr} (h : SearchD W S sb hb n A c A2 c2 t) (hT : TourS W S (.agg #[.int .i64 t.n,.slice A t.cl.length c,.slice A2 t.fl.length c2]) t)
  (y : W.cell? ⟨sb,4,none⟩ = some (.slice (some ⟨tb,0,none⟩) n n)) (hs : S ≤ tb) (h1 : sb ≠ tb) (h2 : hb ≠ tb) : PlaceD W S sb hb tb n A c A2 c2 t :=
 ⟨h.k0,h.k1,h.k2,h.k3,y,hT,⟨h.s.1,hs,h.s.2.2⟩,⟨h.ne,h1,h2⟩⟩
theorem sortQ_next {fl : List Fl} {i : Nat} {Z : List Int} (hi : i < fl.length) (hZ : Z = sortQ (ltM fl) ((rangeI fl.length).take i)) : insQ (ltM fl) Z (i : Int) = sortQ (ltM fl) ((rangeI fl.length).take (i + 1)) := by
 have hl : i < (rangeI fl.length).length := by rw [rangeI_len];exact hi
 rw [take_snoc hl,sortQ_snoc,← hZ]
 congr 1
 simp [rangeI]
theorem ownQ {w : World} {base p : Nat} {v : Value} {lt : Int → Int → Bool} {Z : List Int} {x : Int} {k : Nat} {xs : List Value} (h : w.ownsRow base 3 1 v k xs) (hp : posQ lt Z x Z.length = p) (hk : k = Z.length + 1) (hx : xs = (Z.take p ++ x :: Z.drop p).map (Value.int .i64)) : IntsB w 0 v (insQ lt Z x) := by
 have e : OwnI w base v (insQ lt Z x) := by
  unfold OwnI;rw [insQ_len,← hk];unfold insQ;rw [hp];subst hx
  simpa using h
 exact e.intsB.less (Nat.zero_le _)
theorem rbest_c (t : Tr) (n : Nat) (v : Value) (w : World) (hn : 1 ≤ n ∧ n ≤ 60) (htn : t.n = (n : Int)) (hcl : t.cl.length ≤ 1000000000000000) (hfl : t.fl.length ≤ 100) (hsp : ∀ k (h : k < t.fl.length),0 ≤ t.fl[k].lo ∧ t.fl[k].hi < n) (hmr : ∀ k (h : k < t.fl.length),0 ≤ t.fl[k].m ∧ t.fl[k].m ≤ 1000000000000) (hV : TourV w w.heap.size v t) :
  CallsV Tryz.prog 106 #[v] w fun v' w' => v' = .int .i64 (meritF t n) ∧ Ext w w' := by
 obtain ⟨A,c,A2,c2,rfl,hI,hF⟩ := hV.open';have hFS : FlawsS w w.heap.size (.slice A2 t.fl.length c2) t.fl := ⟨hF⟩;have hTS : TourS w w.heap.size (.agg #[.int .i64 t.n,.slice A t.cl.length c,.slice A2 t.fl.length c2]) t := ⟨hV⟩;have hT : OptT t n := ⟨fun f hf => by obtain ⟨k,hk,rfl⟩ := List.getElem_of_mem hf;exact hsp k hk,fun f hf => by obtain ⟨k,hk,rfl⟩ := List.getElem_of_mem hf;exact (hmr k hk).1⟩;replace htn : ∃ _u : Unit,_ := ⟨(),htn⟩;have hn9 : n ≤ 1000000000 := by omega
 clear hV hI hF;rw [htn.choose_spec];refine Wp.fn Tryz.func106 rfl Tryz.ntmps106 (by simp) ?_;have xw := Ext.refl w;refine Wp.keep [0] ?_;rintro r1 ⟨e0_1,-⟩;simp [go_sem] at e0_1;refine sRg fun K' gd hK => ?_;refine cu1 fun K1 hK1 => ?_;go_simp;refine hK1 _ _ ?_;clear hK1 K1;refine Wops.absT fun V1_1 n1 hV1_1 R1 => ?_;obtain ⟨q1,hV1_1,s1,kV1_1,f1,r1⟩ := hV1_1;try simp only [q1] at kV1_1 f1 r1 ⊢
 replace R1 := (show RowC _ _ _ _ from R1);replace hFS := hFS.ext hV1_1;replace hTS := hTS.ext hV1_1;replace xw := xw.trans hV1_1;have c1_0 := kV1_1 0 _ rfl;have c1_1 := kV1_1 1 _ rfl;have c1_2 := kV1_1 2 _ rfl;clear kV1_1 hV1_1;clear r1;go_simp;refine hK _ _ ?_;clear hK K' gd;refine Wp.keep [1] ?_;rintro r2 ⟨e1_2,-⟩;simp [go_sem,e0_1] at e1_2;clear e0_1;refine sRg fun K' gd hK => ?_;go_simp;refine hK _ _ ?_;clear hK K' gd;refine Wp.keep [1,3] ?_;rintro r3 ⟨e1_3,e3_3,-⟩;simp [go_sem,e1_2] at e1_3 e3_3;clear e1_2;refine Wp.seq ?_;refine sRg fun K' gd hK => ?_;go_simp;refine hK _ _ ?_;clear hK K' gd;refine Wp.keep [1,3,4] ?_;rintro r4 ⟨e1_4,e3_4,e4_4,-⟩;simp [go_sem,e1_3,e3_3] at e1_4 e3_4 e4_4;clear e1_3 e3_3;refine Wp.block ?_;refine Wp.loop (fun i ρ ds wi => AllEq [1] ρ r4 ∧ ds = [] ∧ (Ext V1_1 wi) ∧ (∃ v Z,ρ 4 = .int .i64 (i : Int) ∧ ρ 3 = v ∧ IntsB wi 0 v Z ∧ (∃ _u : Unit,Z = sortQ (ltM t.fl) ((rangeI t.fl.length).take i) ∧ Z.length = i ∧ (Z = [] → v = .slice none 0 0) ∧ ∀ x ∈ Z,∃ k : Nat,x = (k : Int) ∧ k < t.fl.length))) (t.fl.length) ?_ ?_
 ·refine ⟨AllEq.refl _ _,rfl,Ext.refl _,?_⟩;exact ⟨_,[],by rw [e4_4];rfl,e3_4,IntsB.nil _ _,(),rfl,rfl,fun _ => rfl,fun x h => absurd h List.not_mem_nil⟩
 ·rintro i r5 _ wi hi ⟨hA,rfl,xl2,⟨v3,Z,e4,e3,hO,hZ⟩⟩;obtain ⟨e1_5,-⟩ := hA;rw [e1_4] at e1_5;have zxl2 := Below.size xl2;replace f1 := Ext.fz xl2 c1_0 f1;replace hFS := hFS.ext xl2;replace hTS := hTS.ext xl2;replace xw := Ext.trans xw xl2;replace c1_0 := Ext.cell xl2 c1_0;replace c1_1 := Ext.cell xl2 c1_1;replace c1_2 := Ext.cell xl2 c1_2;have hzl : Z.length ≤ i := by have := hZ.choose_spec.2.1;omega
  by_cases hin : i < t.fl.length
  ·skip;have hzl2 : Z.length ≤ 100 := by omega
   have hil : (i : Int) < (t.fl.length : Int) := by omega
   obtain ⟨b2,o2,eA,hb2,x0,x1,x2,x3⟩ := FlawsV.at hFS.v hin;subst eA;obtain ⟨G,hG⟩ : ∃ G,∃ _u : Unit,t.fl[i] = G := ⟨_,(),rfl⟩;rw [hG.choose_spec] at x3;refine Wp.seq ?_;refine sRg fun K' gd hK => ?_;go_simp;refine hK _ _ ?_;clear hK K' gd;refine Wp.keep [1,3,4,15] ?_;rintro r6 ⟨e1_6,e3_6,e4_6,e15_6,-⟩;simp [go_sem,e1_5,e3,e4] at e1_6 e3_6 e4_6 e15_6;clear e1_5 e3 e4;refine cTt ?_
   by_cases hz : 0 < Z.length
   ·skip;obtain ⟨bz,oz,cz,rfl,hlz,hbz⟩ := hO.open hz;obtain ⟨p,hp⟩ : ∃ p,∃ _u : Unit,posQ (ltM t.fl) Z (i : Int) Z.length = p := ⟨_,(),rfl⟩;have hpl : p ≤ Z.length := by rw [← hp.choose_spec];exact posQ_le _ _ _ _
    refine skN ?_;refine sBk ?_;refine sRg fun K' gd hK => ?_;go_simp;refine hK _ _ ?_;clear hK K' gd;refine Wp.keep [1,3,4,5] ?_;rintro r7 ⟨e1_7,e3_7,e4_7,e5_7,-⟩;simp [go_sem,e1_6,e3_6,e4_6,e15_6] at e1_7 e3_7 e4_7 e5_7;clear e1_6 e3_6 e4_6 e15_6;refine Wp.seq ?_;refine Wp.cut (fun ρ ds W => AllEq [1,3,4] ρ r7 ∧ ds = [] ∧ (Ext wi W) ∧ (ρ 5 = .int .i64 (p : Int))) ?_ ?_
    ·have xq3 := Ext.refl wi;refine Wp.block ?_;refine Wp.loop (fun j ρ ds wj => AllEq [1,3,4] ρ r7 ∧ ds = [] ∧ (Ext wi wj) ∧ (∃ k : Nat,ρ 5 = .int .i64 (k : Int) ∧ (∃ _u : Unit,k + j = Z.length ∧ posQ (ltM t.fl) Z (i : Int) Z.length = posQ (ltM t.fl) Z (i : Int) k))) (Z.length) ?_ ?_
     ·refine ⟨AllEq.refl _ _,rfl,Ext.refl _,?_⟩;exact ⟨Z.length,by rw [e5_7],(),by omega,rfl⟩
     ·rintro j r8 _ wj hj ⟨hA,rfl,xl4,⟨k,e5,hk⟩⟩;obtain ⟨e1_8,e3_8,e4_8,-⟩ := hA;rw [e1_7] at e1_8;rw [e3_7] at e3_8;rw [e4_7] at e4_8;have zxl4 := Below.size xl4;replace f1 := Ext.fz xl4 c1_0 f1;replace hFS := hFS.ext xl4;replace hTS := hTS.ext xl4;replace hO := hO.ext xl4;replace xw := Ext.trans xw xl4;replace xl2 := Ext.trans xl2 xl4;replace xq3 := Ext.trans xq3 xl4;replace c1_0 := Ext.cell xl4 c1_0;replace c1_1 := Ext.cell xl4 c1_1;replace c1_2 := Ext.cell xl4 c1_2;replace x3 := Ext.cell xl4 x3
      by_cases h0 : 0 < k
      ·skip;obtain ⟨q,hq⟩ : ∃ q : Nat,∃ _u : Unit,q + 1 = k := ⟨k - 1,(),by omega⟩;have hqq := hq.choose_spec;have hkk := hk.choose_spec.1;have hqz : q < Z.length := by omega
       obtain ⟨f,hf1,hf2⟩ := hZ.choose_spec.2.2.2 _ (gI_mem hqz);have dq := hO.cells q hqz;rw [hf1] at dq;obtain ⟨_,_,ev,-,y0,y1,y2,y3⟩ := FlawsV.at hFS.v hf2
       injection ev with ev
       injection ev with ev1 ev2
       subst ev1 ev2;obtain ⟨F,hF⟩ : ∃ F,∃ _u : Unit,t.fl[f] = F := ⟨_,(),rfl⟩;rw [hF.choose_spec] at y3;have hwq : IntKind.i64.wrap ((k : Int) - 1) = (q : Int) := by rw [IntWalk.i64_in _ (by omega)];omega
       have hk0 : (0 : Int) < (k : Int) := by omega
       have hqi : (q : Int) < (Z.length : Int) := by omega
       have hfi : (f : Int) < (t.fl.length : Int) := by omega
       have hstep : ∃ _u : Unit,posQ (ltM t.fl) Z (i : Int) k = if F.m < G.m then posQ (ltM t.fl) Z (i : Int) q else k := ⟨(),by rw [← hqq,posQ,hf1,ltM_at hin hf2,hF.choose_spec,hG.choose_spec];simp only [decide_eq_true_eq]⟩;replace hf1 : ∃ _u : Unit,_ := ⟨(),hf1⟩
       by_cases hx : F.m < G.m
       ·skip;refine Wp.seq ?_;refine Wp.seqDraw (.inl rfl) mixed [([0,1,2],none),([3,4,5,6,7],none),([8,9,10,11,12],none),([13,14,15,16,17],none),([18,19,20],none)] (by kernel_rfl) fun K' gd hK hg => ?_;have g2 : gd 2 = some 22 := hg 2;clear hg;simp only [pick,nth,List.map_cons,List.map_nil,Option.map_none,Option.map_some];refine Mops.absD fun D5 hD5 zD5 => ?_;replace f1 := hD5.fz c1_0 f1;replace hFS := hFS.ext hD5;replace hTS := hTS.ext hD5;replace hO := hO.ext hD5;replace xw := xw.trans hD5;replace xl2 := xl2.trans hD5;replace xq3 := xq3.trans hD5;replace xl4 := xl4.trans hD5;replace c1_0 := hD5.cell c1_0;replace c1_1 := hD5.cell c1_1;replace c1_2 := hD5.cell c1_2;replace x3 := hD5.cell x3;replace dq := hD5.cell dq;replace y3 := hD5.cell y3;clear hD5;refine mNo ?_
        refine mNo ?_
        refine mNo ?_
        refine mNo ?_
        refine mNo ?_
        refine Mops.done ?_;refine hK _ _ ?_;clear hK K' gd g2;refine Wp.keep [1,3,4,5,40] ?_;rintro r9 ⟨e1_9,e3_9,e4_9,e5_9,e40_9,-⟩;simp [go_sem,e1_8,e3_8,e4_8,e5] at e1_9 e3_9 e4_9 e5_9 e40_9;clear e1_8 e3_8 e4_8 e5;refine cTt ?_;refine skN ?_;refine Wp.block ?_;refine lRg fun K' gd hK => ?_;go_simp;refine hK _ _ ?_;clear hK K' gd;refine Ends.keep [1,3,4,5] ?_;rintro r10 ⟨e1_10,e3_10,e4_10,e5_10,-⟩;simp [go_sem,e1_9,e3_9,e4_9,e5_9,e40_9] at e1_10 e3_10 e4_10 e5_10;clear e1_9 e3_9 e4_9 e5_9 e40_9;refine Ends.mk ?_;refine bNo ?_;refine thenK_normal ⟨by omega,⟨by rw [e1_10,e1_7],by rw [e3_10,e3_7],by rw [e4_10,e4_7],trivial⟩,rfl,xl4,?_⟩;exact ⟨q,by rw [e5_10],(),by omega,by rw [hk.choose_spec.2,hstep.choose_spec,if_pos hx]⟩
       ·skip;refine Wp.seq ?_;refine Wp.seqDraw (.inl rfl) mixed [([0,1,2],none),([3,4,5,6,7],none),([8,9,10,11,12],none),([13,14,15,16,17],none),([18,19,20],none)] (by kernel_rfl) fun K' gd hK hg => ?_;have g2 : gd 2 = some 22 := hg 2;clear hg;simp only [pick,nth,List.map_cons,List.map_nil,Option.map_none,Option.map_some];refine Mops.absD fun D6 hD6 zD6 => ?_;replace f1 := hD6.fz c1_0 f1;replace hFS := hFS.ext hD6;replace hTS := hTS.ext hD6;replace hO := hO.ext hD6;replace xw := xw.trans hD6;replace xl2 := xl2.trans hD6;replace xq3 := xq3.trans hD6;replace xl4 := xl4.trans hD6;replace c1_0 := hD6.cell c1_0;replace c1_1 := hD6.cell c1_1;replace c1_2 := hD6.cell c1_2;replace x3 := hD6.cell x3;replace dq := hD6.cell dq;replace y3 := hD6.cell y3;clear hD6;refine mNo ?_
        refine mNo ?_
        refine mNo ?_
        refine mNo ?_
        refine mNo ?_
        refine Mops.done ?_;refine hK _ _ ?_;clear hK K' gd g2;refine Wp.keep [1,3,4,5,40] ?_;rintro r11 ⟨e1_11,e3_11,e4_11,e5_11,e40_11,-⟩;simp [go_sem,e1_8,e3_8,e4_8,e5] at e1_11 e3_11 e4_11 e5_11 e40_11;clear e1_8 e3_8 e4_8 e5;refine cFf ?_;refine Wp.exit ?_;refine tEx ?_;refine tEx ?_;refine blockK_here ?_;refine cutK_normal ⟨⟨by rw [e1_11,e1_7],by rw [e3_11,e3_7],by rw [e4_11,e4_7],trivial⟩,rfl,xq3,?_⟩;rw [← hp.choose_spec,hk.choose_spec.2,hstep.choose_spec,if_neg hx];exact e5_11
      ·skip;have hk0 : ¬ (0 : Int) < (k : Int) := by omega
       refine Wp.seq ?_;refine Wp.seqDraw (.inl rfl) mixed [([0,1,2],none),([3,4,5,6,7],none),([8,9,10,11,12],none),([13,14,15,16,17],none),([18,19,20],none)] (by kernel_rfl) fun K' gd hK hg => ?_;have g2 : gd 2 = some 22 := hg 2;clear hg;simp only [pick,nth,List.map_cons,List.map_nil,Option.map_none,Option.map_some];refine Mops.absD fun D7 hD7 zD7 => ?_;replace f1 := hD7.fz c1_0 f1;replace hFS := hFS.ext hD7;replace hTS := hTS.ext hD7;replace hO := hO.ext hD7;replace xw := xw.trans hD7;replace xl2 := xl2.trans hD7;replace xq3 := xq3.trans hD7;replace xl4 := xl4.trans hD7;replace c1_0 := hD7.cell c1_0;replace c1_1 := hD7.cell c1_1;replace c1_2 := hD7.cell c1_2;replace x3 := hD7.cell x3;clear hD7;refine mNo ?_
       refine mNo ?_
       refine mNo ?_
       refine mNo ?_
       refine mNo ?_
       refine Mops.done ?_;refine hK _ _ ?_;clear hK K' gd g2;refine Wp.keep [1,3,4,5,40] ?_;rintro r12 ⟨e1_12,e3_12,e4_12,e5_12,e40_12,-⟩;simp [go_sem,e1_8,e3_8,e4_8,e5] at e1_12 e3_12 e4_12 e5_12 e40_12;clear e1_8 e3_8 e4_8 e5;refine cFf ?_;refine Wp.exit ?_;refine tEx ?_;refine tEx ?_;refine blockK_here ?_;refine cutK_normal ⟨⟨by rw [e1_12,e1_7],by rw [e3_12,e3_7],by rw [e4_12,e4_7],trivial⟩,rfl,xq3,?_⟩;have e : k = 0 := by omega
       subst e;rw [← hp.choose_spec,hk.choose_spec.2];exact e5_12
    ·rintro r13 _ W3 ⟨hA,rfl,xq3,e5⟩;obtain ⟨e1_13,e3_13,e4_13,-⟩ := hA;rw [e1_7] at e1_13;rw [e3_7] at e3_13;rw [e4_7] at e4_13;clear e1_7 e3_7 e4_7 e5_7;have zxq3 := Below.size xq3;replace f1 := Ext.fz xq3 c1_0 f1;replace hFS := hFS.ext xq3;replace hTS := hTS.ext xq3;replace hO := hO.ext xq3;replace xw := Ext.trans xw xq3;replace xl2 := Ext.trans xl2 xq3;replace c1_0 := Ext.cell xq3 c1_0;replace c1_1 := Ext.cell xq3 c1_1;replace c1_2 := Ext.cell xq3 c1_2;replace x3 := Ext.cell xq3 x3;refine tNo ?_;have hpc : (p : Int) ≤ (cz : Int) := by omega
     have hpl2 : (p : Int) ≤ (Z.length : Int) := by omega
     obtain ⟨S,hS1,hS2⟩ : ∃ S,S ≤ W3.heap.size ∧ W3.heap.size ≤ S := ⟨_,Nat.le_refl _,Nat.le_refl _⟩;have hZc : IntsS W3 S (.slice (some ⟨bz,oz,none⟩) Z.length cz) Z := ⟨hO.ints.more hS2⟩;refine sRg fun K' gd hK => ?_;refine cu1 fun K1 hK1 => ?_;go_simp;refine hK1 _ _ ?_;clear hK1 K1;refine Wops.absT fun V43_8 n43 hV43_8 R43 => ?_;obtain ⟨q43,hV43_8,s43,kV43_8,f43,r43⟩ := hV43_8;try simp only [q43] at kV43_8 f43 r43 ⊢
     replace R43 := (show RowC _ _ _ _ from R43);replace f1 := hV43_8.fz c1_0 f1;replace hFS := hFS.ext hV43_8;replace hTS := hTS.ext hV43_8;replace hZc := hZc.ext hV43_8;replace xw := xw.trans hV43_8;replace xl2 := xl2.trans hV43_8;replace c1_0 := hV43_8.cell c1_0;replace c1_1 := hV43_8.cell c1_1;replace c1_2 := hV43_8.cell c1_2;replace x3 := hV43_8.cell x3;clear hV43_8 f43;clear kV43_8;refine cu4 fun K1 hK1 => ?_;refine Wops.cut 3 fun K2 hK2 => ?_;simp only [tSC,tZ];go_simp;refine hK2 _ _ ?_;clear hK2 K2;simp only [dSC,dZ];obtain ⟨v',w7,hrun,hO1,hgr,-⟩ := app_run ints_T (RowC.own (size := 1) (k := 0) (c := 0) R43 (Nat.le_refl _) (Nat.le_refl _) (Nat.zero_le _) (by simp)) ⟨bz,oz,none⟩ p cz ((Z.take p).map (Value.int .i64)) 22 (by simp;omega) (newsT (IntsS.cells hZc) p) one_ints (by omega) (by omega);refine Wops.law rfl (exec_append2 rfl hrun (by go_simp) (by go_simp)) ?_;simp only [updO_some,Wops_nil];refine hK1 _ _ ?_;clear hK1 K1;have z14 := World.grownBy.size hgr;replace f1 := Chg.fz (grown_chg hgr) c1_0 f1 (lt_off (World.ownsRow.lt (RowC.own (size := 1) (k := 0) (c := 0) R43 (Nat.le_refl _) (Nat.le_refl _) (Nat.zero_le _) (by simp))) (by omega));replace hFS := hFS.chg (grown_chg hgr) (by first | (intro b hb;exact lt_off (World.ownsRow.lt (RowC.own (size := 1) (k := 0) (c := 0) R43 (Nat.le_refl _) (Nat.le_refl _) (Nat.zero_le _) (by simp))) (by omega)) | exact lt_off (World.ownsRow.lt (RowC.own (size := 1) (k := 0) (c := 0) R43 (Nat.le_refl _) (Nat.le_refl _) (Nat.zero_le _) (by simp))) (by omega) | exact lt_ge (World.ownsRow.lt (RowC.own (size := 1) (k := 0) (c := 0) R43 (Nat.le_refl _) (Nat.le_refl _) (Nat.zero_le _) (by simp))) (by omega) | exact fun b hb => .inr (lt_ge (World.ownsRow.lt (RowC.own (size := 1) (k := 0) (c := 0) R43 (Nat.le_refl _) (Nat.le_refl _) (Nat.zero_le _) (by simp))) (by omega) b hb))
     replace hTS := hTS.chg (grown_chg hgr) (by first | (intro b hb;exact lt_off (World.ownsRow.lt (RowC.own (size := 1) (k := 0) (c := 0) R43 (Nat.le_refl _) (Nat.le_refl _) (Nat.zero_le _) (by simp))) (by omega)) | exact lt_off (World.ownsRow.lt (RowC.own (size := 1) (k := 0) (c := 0) R43 (Nat.le_refl _) (Nat.le_refl _) (Nat.zero_le _) (by simp))) (by omega) | exact lt_ge (World.ownsRow.lt (RowC.own (size := 1) (k := 0) (c := 0) R43 (Nat.le_refl _) (Nat.le_refl _) (Nat.zero_le _) (by simp))) (by omega) | exact fun b hb => .inr (lt_ge (World.ownsRow.lt (RowC.own (size := 1) (k := 0) (c := 0) R43 (Nat.le_refl _) (Nat.le_refl _) (Nat.zero_le _) (by simp))) (by omega) b hb));replace hZc := hZc.chg (grown_chg hgr) (by first | (intro b hb;exact lt_off (World.ownsRow.lt (RowC.own (size := 1) (k := 0) (c := 0) R43 (Nat.le_refl _) (Nat.le_refl _) (Nat.zero_le _) (by simp))) (by omega)) | exact lt_off (World.ownsRow.lt (RowC.own (size := 1) (k := 0) (c := 0) R43 (Nat.le_refl _) (Nat.le_refl _) (Nat.zero_le _) (by simp))) (by omega) | exact lt_ge (World.ownsRow.lt (RowC.own (size := 1) (k := 0) (c := 0) R43 (Nat.le_refl _) (Nat.le_refl _) (Nat.zero_le _) (by simp))) (by omega) | exact fun b hb => .inr (lt_ge (World.ownsRow.lt (RowC.own (size := 1) (k := 0) (c := 0) R43 (Nat.le_refl _) (Nat.le_refl _) (Nat.zero_le _) (by simp))) (by omega) b hb));replace xw := Chg.to xw (grown_chg hgr) (lt_ge (World.ownsRow.lt (RowC.own (size := 1) (k := 0) (c := 0) R43 (Nat.le_refl _) (Nat.le_refl _) (Nat.zero_le _) (by simp))) (by omega))
     replace xl2 := Chg.to xl2 (grown_chg hgr) (lt_ge (World.ownsRow.lt (RowC.own (size := 1) (k := 0) (c := 0) R43 (Nat.le_refl _) (Nat.le_refl _) (Nat.zero_le _) (by simp))) (by omega));replace c1_0 := Chg.cell (grown_chg hgr) c1_0 (lt_off (World.ownsRow.lt (RowC.own (size := 1) (k := 0) (c := 0) R43 (Nat.le_refl _) (Nat.le_refl _) (Nat.zero_le _) (by simp))) (by omega));replace c1_1 := Chg.cell (grown_chg hgr) c1_1 (lt_off (World.ownsRow.lt (RowC.own (size := 1) (k := 0) (c := 0) R43 (Nat.le_refl _) (Nat.le_refl _) (Nat.zero_le _) (by simp))) (by omega));replace c1_2 := Chg.cell (grown_chg hgr) c1_2 (lt_off (World.ownsRow.lt (RowC.own (size := 1) (k := 0) (c := 0) R43 (Nat.le_refl _) (Nat.le_refl _) (Nat.zero_le _) (by simp))) (by omega));replace x3 := Chg.cell (grown_chg hgr) x3 (lt_off (World.ownsRow.lt (RowC.own (size := 1) (k := 0) (c := 0) R43 (Nat.le_refl _) (Nat.le_refl _) (Nat.zero_le _) (by simp))) (by omega));go_simp;refine hK _ _ ?_;clear hK K' gd;refine Wp.keep [1,3,4,5,6] ?_;rintro r15 ⟨e1_15,e3_15,e4_15,e5_15,e6_15,-⟩;simp [go_sem,e1_13,e3_13,e4_13,e5] at e1_15 e3_15 e4_15 e5_15 e6_15;clear e1_13 e3_13 e4_13 e5;refine sRg fun K' gd hK => ?_;refine cu3 fun K1 hK1 => ?_;go_simp;refine hK1 _ _ ?_;clear hK1 K1;refine Wops.absT fun V50_9 n50 hV50_9 R50 => ?_
     obtain ⟨q50,hV50_9,s50,kV50_9,f50,r50⟩ := hV50_9;try simp only [q50] at kV50_9 f50 r50 ⊢
     replace R50 := (show RowC _ _ _ _ from R50);replace f1 := hV50_9.fz c1_0 f1;replace hFS := hFS.ext hV50_9;replace hTS := hTS.ext hV50_9;replace hZc := hZc.ext hV50_9;replace hO1 := hO1.ext hV50_9;replace xw := xw.trans hV50_9;replace xl2 := xl2.trans hV50_9;replace c1_0 := hV50_9.cell c1_0;replace c1_1 := hV50_9.cell c1_1;replace c1_2 := hV50_9.cell c1_2;replace x3 := hV50_9.cell x3;clear hV50_9 f50;have c50_0 := kV50_9 0 _ rfl;clear kV50_9;refine cu1 fun K1 hK1 => ?_;obtain ⟨v2,w8,hrun,hO2,hgr,-⟩ := app_run ints_T hO1 ⟨n50,0,none⟩ 1 1 [.int .i64 (i : Int)] 22 rfl (news_one c50_0) (one_one rfl) (by omega) (by omega);refine Wops.law rfl (exec_append2 rfl hrun (by go_simp) (by go_simp)) ?_;simp only [updO_some,Wops_nil];refine hK1 _ _ ?_;clear hK1 K1;have z16 := World.grownBy.size hgr;replace f1 := Chg.fz (grown_chg hgr) c1_0 f1 (lt_off (World.ownsRow.lt hO1) (by omega));replace hFS := hFS.chg (grown_chg hgr) (by first | (intro b hb;exact lt_off (World.ownsRow.lt hO1) (by omega)) | exact lt_off (World.ownsRow.lt hO1) (by omega) | exact lt_ge (World.ownsRow.lt hO1) (by omega) | exact fun b hb => .inr (lt_ge (World.ownsRow.lt hO1) (by omega) b hb));replace hTS := hTS.chg (grown_chg hgr) (by first | (intro b hb;exact lt_off (World.ownsRow.lt hO1) (by omega)) | exact lt_off (World.ownsRow.lt hO1) (by omega) | exact lt_ge (World.ownsRow.lt hO1) (by omega) | exact fun b hb => .inr (lt_ge (World.ownsRow.lt hO1) (by omega) b hb))
     replace hZc := hZc.chg (grown_chg hgr) (by first | (intro b hb;exact lt_off (World.ownsRow.lt hO1) (by omega)) | exact lt_off (World.ownsRow.lt hO1) (by omega) | exact lt_ge (World.ownsRow.lt hO1) (by omega) | exact fun b hb => .inr (lt_ge (World.ownsRow.lt hO1) (by omega) b hb));replace xw := Chg.to xw (grown_chg hgr) (lt_ge (World.ownsRow.lt hO1) (by omega));replace xl2 := Chg.to xl2 (grown_chg hgr) (lt_ge (World.ownsRow.lt hO1) (by omega));replace c1_0 := Chg.cell (grown_chg hgr) c1_0 (lt_off (World.ownsRow.lt hO1) (by omega));replace c1_1 := Chg.cell (grown_chg hgr) c1_1 (lt_off (World.ownsRow.lt hO1) (by omega));replace c1_2 := Chg.cell (grown_chg hgr) c1_2 (lt_off (World.ownsRow.lt hO1) (by omega));replace x3 := Chg.cell (grown_chg hgr) x3 (lt_off (World.ownsRow.lt hO1) (by omega));go_simp;refine hK _ _ ?_;clear hK K' gd;refine Wp.keep [1,3,4,5,6] ?_;rintro r17 ⟨e1_17,e3_17,e4_17,e5_17,e6_17,-⟩;simp [go_sem,e1_15,e3_15,e4_15,e5_15,e6_15] at e1_17 e3_17 e4_17 e5_17 e6_17;clear e1_15 e3_15 e4_15 e5_15 e6_15
     by_cases hcp : cz = p
     ·skip;subst hcp;refine lRg fun K' gd hK => ?_;refine cu5 fun K1 hK1 => ?_;refine Wops.cut 4 fun K2 hK2 => ?_;simp only [tSC,tZ];go_simp;refine hK2 _ _ ?_;clear hK2 K2;simp only [dSC,dZ];obtain ⟨v3,w9,hrun,hO3,hgr,-⟩ := app_run ints_T hO2 ⟨bz,oz,none⟩ (Z.length - cz) (cz - cz) ((Z.drop cz).map (Value.int .i64)) 22 (by simp) (by intro q u hu;rw [List.drop_eq_nil_of_le (by omega)] at hu;cases hu) one_ints (by omega) (by omega);refine Wops.law rfl (exec_append2 rfl hrun (by go_simp) (by go_simp)) ?_;simp only [updO_some,Wops_nil];refine hK1 _ _ ?_;clear hK1 K1;have z18 := World.grownBy.size hgr;replace f1 := Chg.fz (grown_chg hgr) c1_0 f1 (lt_off (World.ownsRow.lt hO2) (by omega));replace hFS := hFS.chg (grown_chg hgr) (by first | (intro b hb;exact lt_off (World.ownsRow.lt hO2) (by omega)) | exact lt_off (World.ownsRow.lt hO2) (by omega) | exact lt_ge (World.ownsRow.lt hO2) (by omega) | exact fun b hb => .inr (lt_ge (World.ownsRow.lt hO2) (by omega) b hb));replace hTS := hTS.chg (grown_chg hgr) (by first | (intro b hb;exact lt_off (World.ownsRow.lt hO2) (by omega)) | exact lt_off (World.ownsRow.lt hO2) (by omega) | exact lt_ge (World.ownsRow.lt hO2) (by omega) | exact fun b hb => .inr (lt_ge (World.ownsRow.lt hO2) (by omega) b hb))
      replace hZc := hZc.chg (grown_chg hgr) (by first | (intro b hb;exact lt_off (World.ownsRow.lt hO2) (by omega)) | exact lt_off (World.ownsRow.lt hO2) (by omega) | exact lt_ge (World.ownsRow.lt hO2) (by omega) | exact fun b hb => .inr (lt_ge (World.ownsRow.lt hO2) (by omega) b hb));replace xw := Chg.to xw (grown_chg hgr) (lt_ge (World.ownsRow.lt hO2) (by omega));replace xl2 := Chg.to xl2 (grown_chg hgr) (lt_ge (World.ownsRow.lt hO2) (by omega));replace c1_0 := Chg.cell (grown_chg hgr) c1_0 (lt_off (World.ownsRow.lt hO2) (by omega));replace c1_1 := Chg.cell (grown_chg hgr) c1_1 (lt_off (World.ownsRow.lt hO2) (by omega));replace c1_2 := Chg.cell (grown_chg hgr) c1_2 (lt_off (World.ownsRow.lt hO2) (by omega));replace x3 := Chg.cell (grown_chg hgr) x3 (lt_off (World.ownsRow.lt hO2) (by omega));go_simp;refine hK _ _ ?_;clear hK K' gd;refine Ends.keep [1,3,4] ?_;rintro r19 ⟨e1_19,e3_19,e4_19,-⟩;simp [go_sem,e1_17,e3_17,e4_17,e5_17,e6_17] at e1_19 e3_19 e4_19;clear e1_17 e3_17 e4_17 e5_17 e6_17;refine Ends.mk ?_;refine bNo ?_;refine tNo ?_;refine lRg fun K' gd hK => ?_;go_simp;refine hK _ _ ?_;clear hK K' gd;refine Ends.keep [1,3,4] ?_;rintro r20 ⟨e1_20,e3_20,e4_20,-⟩;simp [go_sem,e1_19,e3_19,e4_19] at e1_20 e3_20 e4_20;clear e1_19 e3_19 e4_19;refine Ends.mk ?_;refine thenK_normal ⟨by omega,⟨by rw [e1_20,e1_4],trivial⟩,rfl,xl2,?_⟩
      exact ⟨_,insQ (ltM t.fl) Z (i : Int),by rw [e4_20,IntWalk.i64_in _ (by omega)];rfl,e3_20,ownQ hO3 hp.choose_spec (by omega) (by simp),(),sortQ_next hin hZ.choose_spec.1,by rw [insQ_len,hZ.choose_spec.2.1],fun h => (by have := insQ_len (ltM t.fl) Z (i : Int);rw [h] at this;cases this),fun x hx => by rcases (insQ_mem _ _ _ _).1 hx with rfl | hx;exact ⟨i,rfl,hin⟩;exact hZ.choose_spec.2.2.2 x hx⟩
     ·skip;refine lRg fun K' gd hK => ?_;refine cu5 fun K1 hK1 => ?_;refine Wops.cut 4 fun K2 hK2 => ?_;simp only [tSC,tZ];go_simp;refine hK2 _ _ ?_;clear hK2 K2;simp only [dSC,dZ];obtain ⟨v3,w9,hrun,hO3,hgr,-⟩ := app_run ints_T hO2 ⟨bz,oz + p,none⟩ (Z.length - p) (cz - p) ((Z.drop p).map (Value.int .i64)) 22 (by simp) (newsD (IntsS.cells hZc) p) one_ints (by omega) (by omega);refine Wops.law rfl (exec_append2 rfl hrun (by go_simp) (by go_simp)) ?_;simp only [updO_some,Wops_nil];refine hK1 _ _ ?_;clear hK1 K1;have z21 := World.grownBy.size hgr;replace f1 := Chg.fz (grown_chg hgr) c1_0 f1 (lt_off (World.ownsRow.lt hO2) (by omega));replace hFS := hFS.chg (grown_chg hgr) (by first | (intro b hb;exact lt_off (World.ownsRow.lt hO2) (by omega)) | exact lt_off (World.ownsRow.lt hO2) (by omega) | exact lt_ge (World.ownsRow.lt hO2) (by omega) | exact fun b hb => .inr (lt_ge (World.ownsRow.lt hO2) (by omega) b hb));replace hTS := hTS.chg (grown_chg hgr) (by first | (intro b hb;exact lt_off (World.ownsRow.lt hO2) (by omega)) | exact lt_off (World.ownsRow.lt hO2) (by omega) | exact lt_ge (World.ownsRow.lt hO2) (by omega) | exact fun b hb => .inr (lt_ge (World.ownsRow.lt hO2) (by omega) b hb));replace hZc := hZc.chg (grown_chg hgr) (by first | (intro b hb;exact lt_off (World.ownsRow.lt hO2) (by omega)) | exact lt_off (World.ownsRow.lt hO2) (by omega) | exact lt_ge (World.ownsRow.lt hO2) (by omega) | exact fun b hb => .inr (lt_ge (World.ownsRow.lt hO2) (by omega) b hb))
      replace xw := Chg.to xw (grown_chg hgr) (lt_ge (World.ownsRow.lt hO2) (by omega));replace xl2 := Chg.to xl2 (grown_chg hgr) (lt_ge (World.ownsRow.lt hO2) (by omega));replace c1_0 := Chg.cell (grown_chg hgr) c1_0 (lt_off (World.ownsRow.lt hO2) (by omega));replace c1_1 := Chg.cell (grown_chg hgr) c1_1 (lt_off (World.ownsRow.lt hO2) (by omega));replace c1_2 := Chg.cell (grown_chg hgr) c1_2 (lt_off (World.ownsRow.lt hO2) (by omega));replace x3 := Chg.cell (grown_chg hgr) x3 (lt_off (World.ownsRow.lt hO2) (by omega));go_simp;refine hK _ _ ?_;clear hK K' gd;refine Ends.keep [1,3,4] ?_;rintro r22 ⟨e1_22,e3_22,e4_22,-⟩;simp [go_sem,e1_17,e3_17,e4_17,e5_17,e6_17] at e1_22 e3_22 e4_22;clear e1_17 e3_17 e4_17 e5_17 e6_17;refine Ends.mk ?_;refine bNo ?_;refine tNo ?_;refine lRg fun K' gd hK => ?_;go_simp;refine hK _ _ ?_;clear hK K' gd;refine Ends.keep [1,3,4] ?_;rintro r23 ⟨e1_23,e3_23,e4_23,-⟩;simp [go_sem,e1_22,e3_22,e4_22] at e1_23 e3_23 e4_23;clear e1_22 e3_22 e4_22;refine Ends.mk ?_;refine thenK_normal ⟨by omega,⟨by rw [e1_23,e1_4],trivial⟩,rfl,xl2,?_⟩;exact ⟨_,insQ (ltM t.fl) Z (i : Int),by rw [e4_23,IntWalk.i64_in _ (by omega)];rfl,e3_23,ownQ hO3 hp.choose_spec (by omega) (by simp),(),sortQ_next hin hZ.choose_spec.1,by rw [insQ_len,hZ.choose_spec.2.1],fun h => (by have := insQ_len (ltM t.fl) Z (i : Int);rw [h] at this;cases this),fun x hx => by rcases (insQ_mem _ _ _ _).1 hx with rfl | hx;exact ⟨i,rfl,hin⟩;exact hZ.choose_spec.2.2.2 x hx⟩
   ·skip;obtain ⟨hz0,hz1⟩ : Z = [] ∧ i = 0 := ⟨List.eq_nil_of_length_eq_zero (by omega),by have := hZ.choose_spec.2.1;omega⟩;obtain rfl : v3 = .slice none 0 0 := hZ.choose_spec.2.2.1 hz0;replace hz0 : ∃ _u : Unit,_ := ⟨(),hz0⟩;replace hz1 : ∃ _u : Unit,_ := ⟨(),hz1⟩;refine skN ?_;refine sBk ?_;refine sRg fun K' gd hK => ?_;go_simp;refine hK _ _ ?_;clear hK K' gd;refine Wp.keep [1,3,4,5] ?_;rintro r24 ⟨e1_24,e3_24,e4_24,e5_24,-⟩;simp [go_sem,e1_6,e3_6,e4_6,e15_6] at e1_24 e3_24 e4_24 e5_24;clear e1_6 e3_6 e4_6 e15_6;refine sBk ?_;refine Wp.loop (fun j ρ ds wj => AllEq [1,3,4] ρ r24 ∧ ds = [] ∧ (Ext wi wj) ∧ (ρ 5 = .int .i64 0)) (0) ?_ ?_
    ·refine ⟨AllEq.refl _ _,rfl,Ext.refl _,?_⟩;rw [e5_24]
    ·rintro j r25 _ wj hj ⟨hA,rfl,xl10,e5⟩;obtain ⟨e1_25,e3_25,e4_25,-⟩ := hA;rw [e1_24] at e1_25;rw [e3_24] at e3_25;rw [e4_24] at e4_25;have zxl10 := Below.size xl10;replace f1 := Ext.fz xl10 c1_0 f1;replace hFS := hFS.ext xl10;replace hTS := hTS.ext xl10;replace xw := Ext.trans xw xl10;replace xl2 := Ext.trans xl2 xl10;replace c1_0 := Ext.cell xl10 c1_0;replace c1_1 := Ext.cell xl10 c1_1;replace c1_2 := Ext.cell xl10 c1_2;replace x3 := Ext.cell xl10 x3;refine Wp.seq ?_;refine Wp.seqDraw (.inl rfl) mixed [([0,1,2],none),([3,4,5,6,7],none),([8,9,10,11,12],none),([13,14,15,16,17],none),([18,19,20],none)] (by kernel_rfl) fun K' gd hK hg => ?_;have g2 : gd 2 = some 22 := hg 2;clear hg;simp only [pick,nth,List.map_cons,List.map_nil,Option.map_none,Option.map_some];refine Mops.absD fun D11 hD11 zD11 => ?_;replace f1 := hD11.fz c1_0 f1;replace hFS := hFS.ext hD11;replace hTS := hTS.ext hD11;replace xw := xw.trans hD11;replace xl2 := xl2.trans hD11;replace xl10 := xl10.trans hD11;replace c1_0 := hD11.cell c1_0;replace c1_1 := hD11.cell c1_1;replace c1_2 := hD11.cell c1_2;replace x3 := hD11.cell x3;clear hD11;refine mNo ?_
     refine mNo ?_
     refine mNo ?_
     refine mNo ?_
     refine mNo ?_
     refine Mops.done ?_;refine hK _ _ ?_;clear hK K' gd g2;refine Wp.keep [1,3,4,5,40] ?_;rintro r26 ⟨e1_26,e3_26,e4_26,e5_26,e40_26,-⟩;simp [go_sem,e1_25,e3_25,e4_25,e5] at e1_26 e3_26 e4_26 e5_26 e40_26;clear e1_25 e3_25 e4_25 e5;refine cFf ?_;refine Wp.exit ?_;refine tEx ?_;refine tEx ?_;refine blockK_here ?_;refine tNo ?_;refine sRg fun K' gd hK => ?_;refine cu1 fun K1 hK1 => ?_;go_simp;refine hK1 _ _ ?_;clear hK1 K1;refine Wops.absT fun V43_12 n43 hV43_12 R43 => ?_;obtain ⟨q43,hV43_12,s43,kV43_12,f43,r43⟩ := hV43_12;try simp only [q43] at kV43_12 f43 r43 ⊢
     replace R43 := (show RowC _ _ _ _ from R43);replace f1 := hV43_12.fz c1_0 f1;replace hFS := hFS.ext hV43_12;replace hTS := hTS.ext hV43_12;replace xw := xw.trans hV43_12;replace xl2 := xl2.trans hV43_12;replace xl10 := xl10.trans hV43_12;replace c1_0 := hV43_12.cell c1_0;replace c1_1 := hV43_12.cell c1_1;replace c1_2 := hV43_12.cell c1_2;replace x3 := hV43_12.cell x3;clear hV43_12 f43;clear kV43_12;refine cu4 fun K1 hK1 => ?_;refine Wops.cut 3 fun K2 hK2 => ?_;simp only [tSC,tZ];go_simp;refine hK2 _ _ ?_;clear hK2 K2;simp only [dSC,dZ];obtain ⟨v',w7,hrun,hO1,hgr,-⟩ := app0I 22 (RowC.own (size := 1) (k := 0) (c := 0) R43 (Nat.le_refl _) (Nat.le_refl _) (Nat.zero_le _) (by simp));refine Wops.law rfl (exec_append2 rfl hrun (by go_simp) (by go_simp)) ?_;simp only [updO_some,Wops_nil];refine hK1 _ _ ?_;clear hK1 K1;have z27 := World.grownBy.size hgr;replace f1 := Chg.fz (grown_chg hgr) c1_0 f1 (lt_off (World.ownsRow.lt (RowC.own (size := 1) (k := 0) (c := 0) R43 (Nat.le_refl _) (Nat.le_refl _) (Nat.zero_le _) (by simp))) (by omega));replace hFS := hFS.chg (grown_chg hgr) (by first | (intro b hb;exact lt_off (World.ownsRow.lt (RowC.own (size := 1) (k := 0) (c := 0) R43 (Nat.le_refl _) (Nat.le_refl _) (Nat.zero_le _) (by simp))) (by omega)) | exact lt_off (World.ownsRow.lt (RowC.own (size := 1) (k := 0) (c := 0) R43 (Nat.le_refl _) (Nat.le_refl _) (Nat.zero_le _) (by simp))) (by omega) | exact lt_ge (World.ownsRow.lt (RowC.own (size := 1) (k := 0) (c := 0) R43 (Nat.le_refl _) (Nat.le_refl _) (Nat.zero_le _) (by simp))) (by omega) | exact fun b hb => .inr (lt_ge (World.ownsRow.lt (RowC.own (size := 1) (k := 0) (c := 0) R43 (Nat.le_refl _) (Nat.le_refl _) (Nat.zero_le _) (by simp))) (by omega) b hb))
     replace hTS := hTS.chg (grown_chg hgr) (by first | (intro b hb;exact lt_off (World.ownsRow.lt (RowC.own (size := 1) (k := 0) (c := 0) R43 (Nat.le_refl _) (Nat.le_refl _) (Nat.zero_le _) (by simp))) (by omega)) | exact lt_off (World.ownsRow.lt (RowC.own (size := 1) (k := 0) (c := 0) R43 (Nat.le_refl _) (Nat.le_refl _) (Nat.zero_le _) (by simp))) (by omega) | exact lt_ge (World.ownsRow.lt (RowC.own (size := 1) (k := 0) (c := 0) R43 (Nat.le_refl _) (Nat.le_refl _) (Nat.zero_le _) (by simp))) (by omega) | exact fun b hb => .inr (lt_ge (World.ownsRow.lt (RowC.own (size := 1) (k := 0) (c := 0) R43 (Nat.le_refl _) (Nat.le_refl _) (Nat.zero_le _) (by simp))) (by omega) b hb));replace xw := Chg.to xw (grown_chg hgr) (lt_ge (World.ownsRow.lt (RowC.own (size := 1) (k := 0) (c := 0) R43 (Nat.le_refl _) (Nat.le_refl _) (Nat.zero_le _) (by simp))) (by omega));replace xl2 := Chg.to xl2 (grown_chg hgr) (lt_ge (World.ownsRow.lt (RowC.own (size := 1) (k := 0) (c := 0) R43 (Nat.le_refl _) (Nat.le_refl _) (Nat.zero_le _) (by simp))) (by omega));replace xl10 := Chg.to xl10 (grown_chg hgr) (lt_ge (World.ownsRow.lt (RowC.own (size := 1) (k := 0) (c := 0) R43 (Nat.le_refl _) (Nat.le_refl _) (Nat.zero_le _) (by simp))) (by omega));replace c1_0 := Chg.cell (grown_chg hgr) c1_0 (lt_off (World.ownsRow.lt (RowC.own (size := 1) (k := 0) (c := 0) R43 (Nat.le_refl _) (Nat.le_refl _) (Nat.zero_le _) (by simp))) (by omega));replace c1_1 := Chg.cell (grown_chg hgr) c1_1 (lt_off (World.ownsRow.lt (RowC.own (size := 1) (k := 0) (c := 0) R43 (Nat.le_refl _) (Nat.le_refl _) (Nat.zero_le _) (by simp))) (by omega))
     replace c1_2 := Chg.cell (grown_chg hgr) c1_2 (lt_off (World.ownsRow.lt (RowC.own (size := 1) (k := 0) (c := 0) R43 (Nat.le_refl _) (Nat.le_refl _) (Nat.zero_le _) (by simp))) (by omega));replace x3 := Chg.cell (grown_chg hgr) x3 (lt_off (World.ownsRow.lt (RowC.own (size := 1) (k := 0) (c := 0) R43 (Nat.le_refl _) (Nat.le_refl _) (Nat.zero_le _) (by simp))) (by omega));go_simp;refine hK _ _ ?_;clear hK K' gd;refine Wp.keep [1,3,4,5,6] ?_;rintro r28 ⟨e1_28,e3_28,e4_28,e5_28,e6_28,-⟩;simp [go_sem,e1_26,e3_26,e4_26,e5_26,e40_26] at e1_28 e3_28 e4_28 e5_28 e6_28;clear e1_26 e3_26 e4_26 e5_26 e40_26;refine sRg fun K' gd hK => ?_;refine cu3 fun K1 hK1 => ?_;go_simp;refine hK1 _ _ ?_;clear hK1 K1;refine Wops.absT fun V50_13 n50 hV50_13 R50 => ?_;obtain ⟨q50,hV50_13,s50,kV50_13,f50,r50⟩ := hV50_13;try simp only [q50] at kV50_13 f50 r50 ⊢
     replace R50 := (show RowC _ _ _ _ from R50);replace f1 := hV50_13.fz c1_0 f1;replace hFS := hFS.ext hV50_13;replace hTS := hTS.ext hV50_13;replace hO1 := hO1.ext hV50_13;replace xw := xw.trans hV50_13;replace xl2 := xl2.trans hV50_13;replace xl10 := xl10.trans hV50_13;replace c1_0 := hV50_13.cell c1_0;replace c1_1 := hV50_13.cell c1_1;replace c1_2 := hV50_13.cell c1_2;replace x3 := hV50_13.cell x3;clear hV50_13 f50;have c50_0 := kV50_13 0 _ rfl;clear kV50_13;refine cu1 fun K1 hK1 => ?_;obtain ⟨v2,w8,hrun,hO2,hgr,-⟩ := app_run ints_T hO1 ⟨n50,0,none⟩ 1 1 [.int .i64 (i : Int)] 22 rfl (news_one c50_0) (one_one rfl) (by omega) (by omega);refine Wops.law rfl (exec_append2 rfl hrun (by go_simp) (by go_simp)) ?_;simp only [updO_some,Wops_nil];refine hK1 _ _ ?_;clear hK1 K1;have z29 := World.grownBy.size hgr;replace f1 := Chg.fz (grown_chg hgr) c1_0 f1 (lt_off (World.ownsRow.lt hO1) (by omega));replace hFS := hFS.chg (grown_chg hgr) (by first | (intro b hb;exact lt_off (World.ownsRow.lt hO1) (by omega)) | exact lt_off (World.ownsRow.lt hO1) (by omega) | exact lt_ge (World.ownsRow.lt hO1) (by omega) | exact fun b hb => .inr (lt_ge (World.ownsRow.lt hO1) (by omega) b hb));replace hTS := hTS.chg (grown_chg hgr) (by first | (intro b hb;exact lt_off (World.ownsRow.lt hO1) (by omega)) | exact lt_off (World.ownsRow.lt hO1) (by omega) | exact lt_ge (World.ownsRow.lt hO1) (by omega) | exact fun b hb => .inr (lt_ge (World.ownsRow.lt hO1) (by omega) b hb))
     replace xw := Chg.to xw (grown_chg hgr) (lt_ge (World.ownsRow.lt hO1) (by omega));replace xl2 := Chg.to xl2 (grown_chg hgr) (lt_ge (World.ownsRow.lt hO1) (by omega));replace xl10 := Chg.to xl10 (grown_chg hgr) (lt_ge (World.ownsRow.lt hO1) (by omega));replace c1_0 := Chg.cell (grown_chg hgr) c1_0 (lt_off (World.ownsRow.lt hO1) (by omega));replace c1_1 := Chg.cell (grown_chg hgr) c1_1 (lt_off (World.ownsRow.lt hO1) (by omega));replace c1_2 := Chg.cell (grown_chg hgr) c1_2 (lt_off (World.ownsRow.lt hO1) (by omega));replace x3 := Chg.cell (grown_chg hgr) x3 (lt_off (World.ownsRow.lt hO1) (by omega));go_simp;refine hK _ _ ?_;clear hK K' gd;refine Wp.keep [1,3,4,5,6] ?_;rintro r30 ⟨e1_30,e3_30,e4_30,e5_30,e6_30,-⟩;simp [go_sem,e1_28,e3_28,e4_28,e5_28,e6_28] at e1_30 e3_30 e4_30 e5_30 e6_30;clear e1_28 e3_28 e4_28 e5_28 e6_28;obtain ⟨A8,c8,rfl⟩ := ownsRow_slice hO2;refine lRg fun K' gd hK => ?_;refine cu5 fun K1 hK1 => ?_;refine Wops.cut 4 fun K2 hK2 => ?_;simp only [tSC,tZ];go_simp;refine hK2 _ _ ?_;clear hK2 K2;simp only [dSC,dZ];obtain ⟨v3,w9,hrun,hO3,hgr,-⟩ := app0I 22 hO2;refine Wops.law rfl (exec_append2 rfl hrun (by go_simp) (by go_simp)) ?_;simp only [updO_some,Wops_nil];refine hK1 _ _ ?_;clear hK1 K1
     have z31 := World.grownBy.size hgr;replace f1 := Chg.fz (grown_chg hgr) c1_0 f1 (lt_off (World.ownsRow.lt hO2) (by omega));replace hFS := hFS.chg (grown_chg hgr) (by first | (intro b hb;exact lt_off (World.ownsRow.lt hO2) (by omega)) | exact lt_off (World.ownsRow.lt hO2) (by omega) | exact lt_ge (World.ownsRow.lt hO2) (by omega) | exact fun b hb => .inr (lt_ge (World.ownsRow.lt hO2) (by omega) b hb));replace hTS := hTS.chg (grown_chg hgr) (by first | (intro b hb;exact lt_off (World.ownsRow.lt hO2) (by omega)) | exact lt_off (World.ownsRow.lt hO2) (by omega) | exact lt_ge (World.ownsRow.lt hO2) (by omega) | exact fun b hb => .inr (lt_ge (World.ownsRow.lt hO2) (by omega) b hb));replace xw := Chg.to xw (grown_chg hgr) (lt_ge (World.ownsRow.lt hO2) (by omega));replace xl2 := Chg.to xl2 (grown_chg hgr) (lt_ge (World.ownsRow.lt hO2) (by omega));replace xl10 := Chg.to xl10 (grown_chg hgr) (lt_ge (World.ownsRow.lt hO2) (by omega));replace c1_0 := Chg.cell (grown_chg hgr) c1_0 (lt_off (World.ownsRow.lt hO2) (by omega));replace c1_1 := Chg.cell (grown_chg hgr) c1_1 (lt_off (World.ownsRow.lt hO2) (by omega));replace c1_2 := Chg.cell (grown_chg hgr) c1_2 (lt_off (World.ownsRow.lt hO2) (by omega));replace x3 := Chg.cell (grown_chg hgr) x3 (lt_off (World.ownsRow.lt hO2) (by omega));go_simp;refine hK _ _ ?_;clear hK K' gd;refine Ends.keep [1,3,4] ?_;rintro r32 ⟨e1_32,e3_32,e4_32,-⟩;simp [go_sem,e1_30,e3_30,e4_30,e5_30,e6_30] at e1_32 e3_32 e4_32
     clear e1_30 e3_30 e4_30 e5_30 e6_30;refine Ends.mk ?_;refine bNo ?_;refine tNo ?_;refine lRg fun K' gd hK => ?_;go_simp;refine hK _ _ ?_;clear hK K' gd;refine Ends.keep [1,3,4] ?_;rintro r33 ⟨e1_33,e3_33,e4_33,-⟩;simp [go_sem,e1_32,e3_32,e4_32] at e1_33 e3_33 e4_33;clear e1_32 e3_32 e4_32;refine Ends.mk ?_;refine thenK_normal ⟨by omega,⟨by rw [e1_33,e1_4],trivial⟩,rfl,xl2,?_⟩;exact ⟨_,insQ (ltM t.fl) Z (i : Int),by rw [e4_33,IntWalk.i64_in _ (by omega)];rfl,e3_33,ownQ hO3 rfl (by rw [hz0.choose_spec];rfl) (by rw [hz0.choose_spec];rfl),(),sortQ_next hin hZ.choose_spec.1,by rw [insQ_len,hZ.choose_spec.2.1],fun h => (by have := insQ_len (ltM t.fl) Z (i : Int);rw [h] at this;cases this),fun x hx => by rcases (insQ_mem _ _ _ _).1 hx with rfl | hx;exact ⟨i,rfl,hin⟩;exact hZ.choose_spec.2.2.2 x hx⟩
  ·skip;have hil : ¬ (i : Int) < (t.fl.length : Int) := by omega
   have hZ2 : ∃ _u : Unit,Z = ordL t.fl := ⟨(),by rw [hZ.choose_spec.1,List.take_of_length_le (by rw [rangeI_len];omega)];rfl⟩;have hzl2 : Z.length ≤ 100 := by have := ordL_len t.fl;rw [hZ2.choose_spec];omega
   refine Wp.seq ?_;refine sRg fun K' gd hK => ?_;go_simp;refine hK _ _ ?_;clear hK K' gd;refine Wp.keep [1,3,4,15] ?_;rintro r34 ⟨e1_34,e3_34,e4_34,e15_34,-⟩;simp [go_sem,e1_5,e3,e4] at e1_34 e3_34 e4_34 e15_34;clear e1_5 e3 e4;refine cFf ?_;obtain ⟨A6,k6,rfl⟩ := IntsB.slice hO;refine Wp.exit ?_;refine tEx ?_;refine tEx ?_;refine blockK_here ?_;refine tNo ?_;obtain ⟨S,hS1,hS2⟩ : ∃ S,S ≤ wi.heap.size ∧ wi.heap.size ≤ S := ⟨_,Nat.le_refl _,Nat.le_refl _⟩;have hsz : w.heap.size ≤ S := Nat.le_trans (Below.size (XE)) hS2;have hZc : IntsS wi S (.slice A6 Z.length k6) Z := ⟨hO.ints.more hS2⟩;have hTS2 : TourS wi S (.agg #[.int .i64 t.n,.slice A t.cl.length c,.slice A2 t.fl.length c2]) t := ⟨hTS.v.more hsz⟩;have hFS2 : FlawsS wi S (.slice A2 t.fl.length c2) t.fl := ⟨hFS.v.more hsz⟩;refine Wp.seqDraw (.inl rfl) mixed [([0,1,2],some (3,false)),([4],some (5,false)),([6],none)] (by kernel_rfl) fun K' gd hK hg => ?_;clear hg;simp only [pick,nth,List.map_cons,List.map_nil,Option.map_none,Option.map_some];refine Mops.absD fun D14 hD14 zD14 => ?_;replace hZc := hZc.ext hD14;replace hTS2 := hTS2.ext hD14;replace hFS2 := hFS2.ext hD14;replace xw := xw.trans hD14;replace xl2 := xl2.trans hD14;replace c1_0 := hD14.cell c1_0;replace c1_1 := hD14.cell c1_1;replace c1_2 := hD14.cell c1_2;clear hD14;refine mAc ?_
   intro K1 hK1;go_simp;refine hK1 _ _ (XA) ?_;clear hK1 K1;refine Mops.absA fun V60_15 n60 hV60_15 => ?_;obtain ⟨q60,hV60_15,s60,k60,f60,r60⟩ := hV60_15;try simp only [q60] at k60 f60 r60 ⊢
   replace hZc := hZc.ext hV60_15;replace hTS2 := hTS2.ext hV60_15;replace hFS2 := hFS2.ext hV60_15;replace xw := xw.trans hV60_15;replace xl2 := xl2.trans hV60_15;replace c1_0 := hV60_15.cell c1_0;replace c1_2 := hV60_15.cell c1_2;clear hV60_15;have rx60 := RowX.mk2 r60;apply Mops.act
   ·intro w' hE';go_simp;with_reducible rfl
   intro K1 hK1;go_simp;refine hK1 _ _ (XA) ?_;clear hK1 K1;refine Mops.absT fun V62_16 n62 hV62_16 R62 => ?_;obtain ⟨q62,hV62_16,s62,kV62_16,f62,r62⟩ := hV62_16;try simp only [q62] at kV62_16 f62 r62 ⊢
   replace R62 := (show RowC _ _ _ _ from R62);replace hZc := hZc.ext hV62_16;replace hTS2 := hTS2.ext hV62_16;replace hFS2 := hFS2.ext hV62_16;replace rx60 := rx60.ext hV62_16;replace xw := xw.trans hV62_16;replace xl2 := xl2.trans hV62_16;replace c1_0 := hV62_16.cell c1_0;replace c1_2 := hV62_16.cell c1_2;have c62_0 := kV62_16 0 _ rfl;have c62_1 := kV62_16 1 _ rfl;have c62_2 := kV62_16 2 _ rfl;have c62_3 := kV62_16 3 _ rfl;have c62_4 := kV62_16 4 _ rfl;clear kV62_16 hV62_16;clear r62;apply Mops.none
   ·intro w' hE';go_simp;with_reducible rfl
   refine Mops.done ?_;refine hK _ _ ?_;clear hK K' gd;refine Wp.keep [1,3,7] ?_;rintro r35 ⟨e1_35,e3_35,e7_35,-⟩;simp [go_sem,e1_34,e3_34,e4_34,e15_34] at e1_35 e3_35 e7_35;clear e1_34 e3_34 e4_34 e15_34;refine Wp.seq ?_;have hR0 : RowF V62_16 n60 n (fun _ => 0) := rowF_of rx60 (by simp);refine sRg fun K' gd hK => ?_;go_simp;refine hK _ _ ?_;clear hK K' gd;refine Wp.keep [1,3,7,8] ?_;rintro r36 ⟨e1_36,e3_36,e7_36,e8_36,-⟩;simp [go_sem,e1_35,e3_35,e7_35] at e1_36 e3_36 e7_36 e8_36;clear e1_35 e3_35 e7_35;refine Wp.block ?_;refine Wp.loop (fun d ρ ds wd => AllEq [1,3,7] ρ r36 ∧ ds = [] ∧ (Chg [n60] V62_16 wd) ∧ (ρ 8 = .int .i64 (d : Int) ∧ RowF wd n60 n (fun j => if j < d then -1 else 0))) (n) ?_ ?_
   ·refine ⟨AllEq.refl _ _,rfl,Chg.refl _ _,?_⟩;exact ⟨by rw [e8_36];rfl,hR0.congr fun d _ => by simp⟩
   ·rintro d r37 _ wd hd ⟨hA,rfl,xl17,⟨e8,hR⟩⟩;obtain ⟨e1_37,e3_37,e7_37,-⟩ := hA;rw [e1_36] at e1_37;rw [e3_36] at e3_37;rw [e7_36] at e7_37;have zxl17 := Chg.size xl17;replace f62 := Chg.fz xl17 c62_0 f62 XN;replace hZc := hZc.chg xl17 XB;replace hTS2 := hTS2.chg xl17 XB;replace hFS2 := hFS2.chg xl17 XB;replace xw := Chg.to xw xl17 XL;replace xl2 := Chg.to xl2 xl17 XL;replace c1_0 := Chg.cell xl17 c1_0 XN;replace c1_2 := Chg.cell xl17 c1_2 XN;replace c62_0 := Chg.cell xl17 c62_0 XN;replace c62_1 := Chg.cell xl17 c62_1 XN;replace c62_2 := Chg.cell xl17 c62_2 XN;replace c62_3 := Chg.cell xl17 c62_3 XN;replace c62_4 := Chg.cell xl17 c62_4 XN
    by_cases hdn : d < n
    ·skip;have hdl : (d : Int) < (n : Int) := by omega
     have z1 := hR.c d hdn;have fh := hR.fz;refine Wp.seq ?_;refine sRg fun K' gd hK => ?_;go_simp;refine hK _ _ ?_;clear hK K' gd;refine Wp.keep [1,3,7,8,66] ?_;rintro r38 ⟨e1_38,e3_38,e7_38,e8_38,e66_38,-⟩;simp [go_sem,e1_37,e3_37,e7_37,e8] at e1_38 e3_38 e7_38 e8_38 e66_38;clear e1_37 e3_37 e7_37 e8;refine cTt ?_;refine skN ?_;refine sBk ?_;refine lRg fun K' gd hK => ?_;refine cu7 fun K1 hK1 => ?_;go_simp;refine hK1 _ _ ?_;clear hK1 K1;refine Wops.absS (b := n60) (i := d) [_] (hR.some hdn) fun P1 hP1 => ?_;replace xw := Put.to xw hP1 (by omega);replace xl2 := Put.to xl2 hP1 (by omega);replace xl17 := Put.more xl17 hP1 (.inr (by simp));try simp only [Wops_nil,updO_some,updO_none]
     refine hK _ _ ?_;clear hK K' gd;refine Ends.keep [1,3,7,8] ?_;rintro r39 ⟨e1_39,e3_39,e7_39,e8_39,-⟩;simp [go_sem,e1_38,e3_38,e7_38,e8_38,e66_38] at e1_39 e3_39 e7_39 e8_39;clear e1_38 e3_38 e7_38 e8_38 e66_38;refine Ends.mk ?_;refine bNo ?_;refine tNo ?_;have hR2 : RowF P1 n60 n (fun j => if j < d + 1 then -1 else 0) := (hR.store hP1).congr fun j _ => by unfold updF;split;(rename_i q;rw [if_pos (by omega)]);(rename_i q;by_cases e : j < d;(show (if j < d then (-1 : Int) else 0) = _;rw [if_pos e,if_pos (by omega)]);show (if j < d then (-1 : Int) else 0) = _;rw [if_neg e,if_neg (by omega)])
     refine lRg fun K' gd hK => ?_;go_simp;refine hK _ _ ?_;clear hK K' gd;refine Ends.keep [1,3,7,8] ?_;rintro r40 ⟨e1_40,e3_40,e7_40,e8_40,-⟩;simp [go_sem,e1_39,e3_39,e7_39,e8_39] at e1_40 e3_40 e7_40 e8_40;clear e1_39 e3_39 e7_39 e8_39;refine Ends.mk ?_;refine thenK_normal ⟨by omega,⟨by rw [e1_40,e1_36],by rw [e3_40,e3_36],by rw [e7_40,e7_36],trivial⟩,rfl,xl17,?_⟩;exact ⟨by rw [e8_40,IntWalk.i64_in _ (by omega)];rfl,hR2⟩
    ·skip;have hdl : ¬ (d : Int) < (n : Int) := by omega
     refine Wp.seq ?_;refine sRg fun K' gd hK => ?_;go_simp;refine hK _ _ ?_;clear hK K' gd;refine Wp.keep [1,3,7,8,66] ?_;rintro r41 ⟨e1_41,e3_41,e7_41,e8_41,e66_41,-⟩;simp [go_sem,e1_37,e3_37,e7_37,e8] at e1_41 e3_41 e7_41 e8_41 e66_41;clear e1_37 e3_37 e7_37 e8;refine cFf ?_;have hR9 : RowF wd n60 n noPlan := hR.congr fun j hj => by rw [if_pos (by omega)];rfl
     have hSD : SearchD wd S n62 n60 n A c A2 c2 t := ⟨by rw [htn.choose_spec];exact c62_0,c62_1,c62_2,c62_3,⟨_,c62_4⟩,f62,⟨by omega,by omega,by omega⟩,by omega⟩;refine Wp.exit ?_;refine tEx ?_;refine tEx ?_;refine blockK_here ?_;refine tNo ?_;refine sRg fun K' gd hK => ?_;go_simp;refine hK _ _ ?_;clear hK K' gd;refine Wp.keep [1,3,7,9] ?_;rintro r42 ⟨e1_42,e3_42,e7_42,e9_42,-⟩;simp [go_sem,e1_41,e3_41,e7_41,e8_41,e66_41] at e1_42 e3_42 e7_42 e9_42;clear e1_41 e3_41 e7_41 e8_41 e66_41;refine Wp.seq ?_;refine sRg fun K' gd hK => ?_;go_simp;refine hK _ _ ?_;clear hK K' gd;refine Wp.keep [1,3,7,9,10] ?_;rintro r43 ⟨e1_43,e3_43,e7_43,e9_43,e10_43,-⟩;simp [go_sem,e1_42,e3_42,e7_42,e9_42] at e1_43 e3_43 e7_43 e9_43 e10_43;clear e1_42 e3_42 e7_42 e9_42;refine Wp.block ?_;refine Wp.loop (fun k ρ ds wk => AllEq [1,3,7] ρ r43 ∧ ds = [] ∧ (Chg [n60,n62] wd wk) ∧ (ρ 10 = .int .i64 (k : Int) ∧ ρ 9 = .int .i64 (worthN t.fl (planF t.N n (Z.take k)) n) ∧ SearchD wk S n62 n60 n A c A2 c2 t ∧ RowF wk n60 n (planF t.N n (Z.take k)))) (Z.length) ?_ ?_
     ·refine ⟨AllEq.refl _ _,rfl,Chg.refl _ _,?_⟩;exact ⟨by rw [e10_43];rfl,by rw [e9_43];show _ = Value.int .i64 (worthN t.fl noPlan n);rw [worthN_noPlan],hSD,hR9⟩
     ·rintro k r44 _ wk hk ⟨hA,rfl,xl19,⟨e10,e9,hSD,hR⟩⟩;obtain ⟨e1_44,e3_44,e7_44,-⟩ := hA;rw [e1_43] at e1_44;rw [e3_43] at e3_44;rw [e7_43] at e7_44;have zxl19 := Chg.size xl19;replace hZc := hZc.chg xl19 XB;replace hTS2 := hTS2.chg xl19 XB;replace hFS2 := hFS2.chg xl19 XB;replace xw := Chg.to xw xl19 XL;replace xl2 := Chg.to xl2 xl19 XL;clear xl17;replace c1_0 := Chg.cell xl19 c1_0 XN;replace c1_2 := Chg.cell xl19 c1_2 XN
      by_cases hkz : k < Z.length
      ·skip;have hkl : (k : Int) < (Z.length : Int) := by omega
       obtain ⟨bz,oz,cz,ev,hbz,hcz⟩ := hZc.v.get hkz
       injection ev with ev1 _ ev2
       subst ev1;subst ev2;have d1 := hcz k hkz;clear hcz;obtain ⟨j,hj1,hj2⟩ := hZ.choose_spec.2.2.2 _ (gI_mem hkz);rw [hj1] at d1;have hji : (j : Int) < (t.fl.length : Int) := by omega
       obtain ⟨b2,o2,eA,hb2,x0,x1,x2,x3⟩ := FlawsV.at hFS2.v hj2;subst eA;have hst := best_step hT (k := k) (i := j) (by rw [← hZ2.choose_spec];exact hkz) (by rw [← hZ2.choose_spec];exact hj1);rw [← hZ2.choose_spec,mAt_at hj2] at hst;obtain ⟨G,hG⟩ : ∃ G,∃ _u : Unit,t.fl[j] = G := ⟨_,(),rfl⟩;have hmg := hmr j hj2;rw [hG.choose_spec] at x3 hst hmg;have hwb := worthN_leC (C := 1000000000000) (by decide) hmr (planF t.N n (Z.take k)) n;obtain ⟨X,hX⟩ : ∃ X,∃ _u : Unit,worthN t.fl (planF t.N n (Z.take k)) n = X := ⟨_,(),rfl⟩;obtain ⟨H,hH⟩ : ∃ H,∃ _u : Unit,planF t.N n (Z.take k) = H := ⟨_,(),rfl⟩;rw [hX.choose_spec] at e9 hst hwb;rw [hH.choose_spec] at hR hst;have hwb2 : 0 ≤ X ∧ X ≤ 60000000000000 := ⟨hwb.1,by omega⟩;replace hst : ∃ _u : Unit,_ := ⟨(),hst⟩;obtain ⟨x4,y4⟩ := hSD.k4;have fp := hSD.fz;refine Wp.seq ?_;refine sRg fun K' gd hK => ?_;go_simp;refine hK _ _ ?_;clear hK K' gd;refine Wp.keep [1,3,7,9,10,78] ?_;rintro r45 ⟨e1_45,e3_45,e7_45,e9_45,e10_45,e78_45,-⟩;simp [go_sem,e1_44,e3_44,e7_44,e9,e10] at e1_45 e3_45 e7_45 e9_45 e10_45 e78_45;clear e1_44 e3_44 e7_44 e9 e10;refine cTt ?_;refine skN ?_;refine sBk ?_;refine sRg fun K' gd hK => ?_;refine cu4 fun K1 hK1 => ?_
       go_simp;refine hK1 _ _ ?_;clear hK1 K1;refine Wops.absA fun V84_20 n84 hV84_20 => ?_;obtain ⟨q84,hV84_20,s84,k84,f84,r84⟩ := hV84_20;try simp only [q84] at k84 f84 r84 ⊢
       replace fp := hV84_20.fz y4 fp;replace hTS2 := hTS2.ext hV84_20;replace hSD := hSD.ext hV84_20;replace hR := hR.ext hV84_20;replace xw := xw.trans hV84_20;replace xl2 := xl2.trans hV84_20;replace xl19 := Chg.ext xl19 hV84_20;replace c1_2 := hV84_20.cell c1_2;replace d1 := hV84_20.cell d1;replace x3 := hV84_20.cell x3;replace y4 := hV84_20.cell y4;clear hV84_20;have rx84 := RowX.mk2 r84;refine cu3 fun K1 hK1 => ?_;go_simp;refine hK1 _ _ ?_;clear hK1 K1;refine Wops.absS (b := n62) (i := 4) [_] (some1 y4) fun P9 hP9 => ?_;have zP9 := hP9.same;replace hTS2 := hTS2.put hP9 (by omega);replace hR := hR.put hP9 (by omega);replace rx84 := rx84.put hP9 (by omega);replace xw := Put.to xw hP9 (by omega);replace xl2 := Put.to xl2 hP9 (by omega);replace xl19 := Put.more xl19 hP9 (.inr (by simp));replace c1_2 := hP9.cell c1_2 (by omega);replace d1 := hP9.cell d1 (by omega);replace x3 := hP9.cell x3 (by omega);try simp only [Wops_nil,updO_some,updO_none]
       refine hK _ _ ?_;clear hK K' gd;refine Wp.keep [1,3,7,9,10] ?_;rintro r46 ⟨e1_46,e3_46,e7_46,e9_46,e10_46,-⟩;simp [go_sem,e1_45,e3_45,e7_45,e9_45,e10_45,e78_45] at e1_46 e3_46 e7_46 e9_46 e10_46;clear e1_45 e3_45 e7_45 e9_45 e10_45 e78_45;have y9 := hP9.new 0 _ rfl;have hSD2 := hSD.tried hP9;have hT0 : RowT P9 n84 n (fun _ => false) := rowT_of rx84 (by simp);have hPD := hSD2.placeD (tb := n84) hTS2 y9 (by omega) (by omega) (by omega)
       by_cases hb1 : (giveF t.N (n + 1) j H fun _ => false).1 = true
       ·skip;refine sRg fun K' gd hK => ?_;refine cu6 fun K1 hK1 => ?_;go_simp;refine Wcall (.inl rfl) (place_c t S n62 n60 n84 n A c (some ⟨b2,o2,none⟩) c2 hn.2 htn hcl (by omega) hsp (n + 1) j H (fun _ => false) _ (by have := untr_none n;omega) hj2 hst.choose_spec.2.2 hPD hR hT0) ?_;rintro v w5 ⟨hv,hR3,hT3,hC⟩;rw [hb1] at hv;subst hv;go_simp;refine hK1 _ _ ?_;clear hK1 K1;replace hSD2 := hSD2.chg hC XB;replace xw := Chg.to xw hC XL;replace xl2 := Chg.to xl2 hC XL;replace xl19 := Chg.more xl19 hC (by intro b hm;simp only [List.mem_cons,List.not_mem_nil,or_false] at hm;first | (left;omega) | (right;simp [hm];done) | (rcases hm with hm | hm <;> first | (left;omega) | (right;simp [hm])));replace c1_2 := Chg.cell hC c1_2 XN;replace d1 := Chg.cell hC d1 XN;replace x3 := Chg.cell hC x3 XN;try simp only [Wops_nil,updO_some,updO_none]
        refine hK _ _ ?_;clear hK K' gd;refine Wp.keep [1,3,7,9,10,92] ?_;rintro r48 ⟨e1_48,e3_48,e7_48,e9_48,e10_48,e92_48,-⟩;simp [go_sem,e1_46,e3_46,e7_46,e9_46,e10_46] at e1_48 e3_48 e7_48 e9_48 e10_48 e92_48;clear e1_46 e3_46 e7_46 e9_46 e10_46;refine cTt ?_;refine Wp.loneDraw (.inl rfl) mixed [([0,1,2,3,4],none),([5,6,7,8,9],none),([10,11],none)] (by kernel_rfl) fun K' gd hK hg => ?_;clear hg;simp only [pick,nth,List.map_cons,List.map_nil,Option.map_none,Option.map_some];refine Mops.absD fun D22 hD22 zD22 => ?_;replace hSD2 := hSD2.ext hD22;replace hR3 := hR3.ext hD22;replace xw := xw.trans hD22;replace xl2 := xl2.trans hD22;replace xl19 := Chg.ext xl19 hD22;replace c1_2 := hD22.cell c1_2;replace d1 := hD22.cell d1;replace x3 := hD22.cell x3;clear hD22;refine mNo ?_
        refine mNo ?_
        apply Mops.none
        ·intro w' hE';go_simp;with_reducible rfl
        refine Mops.done ?_;refine hK _ _ ?_;clear hK K' gd;refine Ends.keep [1,3,7,9,10] ?_;rintro r49 ⟨e1_49,e3_49,e7_49,e9_49,e10_49,-⟩;simp [go_sem,e1_48,e3_48,e7_48,e9_48,e10_48,e92_48] at e1_49 e3_49 e7_49 e9_49 e10_49;clear e1_48 e3_48 e7_48 e9_48 e10_48 e92_48;refine Ends.mk ?_;refine bNo ?_;refine tNo ?_;refine lRg fun K' gd hK => ?_;go_simp;refine hK _ _ ?_;clear hK K' gd;refine Ends.keep [1,3,7,9,10] ?_;rintro r50 ⟨e1_50,e3_50,e7_50,e9_50,e10_50,-⟩;simp [go_sem,e1_49,e3_49,e7_49,e9_49,e10_49] at e1_50 e3_50 e7_50 e9_50 e10_50;clear e1_49 e3_49 e7_49 e9_49 e10_49;refine Ends.mk ?_;refine thenK_normal ⟨by omega,⟨by rw [e1_50,e1_43],by rw [e3_50,e3_43],by rw [e7_50,e7_43],trivial⟩,rfl,xl19,?_⟩;exact ⟨by rw [e10_50,IntWalk.i64_in _ (by omega)];rfl,by rw [e9_50,IntWalk.i64_in _ (by omega),hst.choose_spec.2.1,if_pos (show (addR t.N n H j).1 = true from hb1)],hSD2,by rw [← hst.choose_spec.1];exact hR3⟩
       ·skip;have hb2 : (giveF t.N (n + 1) j H fun _ => false).1 = false := by simpa using hb1
        refine sRg fun K' gd hK => ?_;refine cu6 fun K1 hK1 => ?_;go_simp;refine Wcall (.inl rfl) (place_c t S n62 n60 n84 n A c (some ⟨b2,o2,none⟩) c2 hn.2 htn hcl (by omega) hsp (n + 1) j H (fun _ => false) _ (by have := untr_none n;omega) hj2 hst.choose_spec.2.2 hPD hR hT0) ?_;rintro v w5 ⟨hv,hR3,hT3,hC⟩;rw [hb2] at hv;subst hv;go_simp;refine hK1 _ _ ?_;clear hK1 K1;replace hSD2 := hSD2.chg hC XB;replace xw := Chg.to xw hC XL;replace xl2 := Chg.to xl2 hC XL;replace xl19 := Chg.more xl19 hC (by intro b hm;simp only [List.mem_cons,List.not_mem_nil,or_false] at hm;first | (left;omega) | (right;simp [hm];done) | (rcases hm with hm | hm <;> first | (left;omega) | (right;simp [hm])));try simp only [Wops_nil,updO_some,updO_none]
        refine hK _ _ ?_;clear hK K' gd;refine Wp.keep [1,3,7,9,10,92] ?_;rintro r52 ⟨e1_52,e3_52,e7_52,e9_52,e10_52,e92_52,-⟩;simp [go_sem,e1_46,e3_46,e7_46,e9_46,e10_46] at e1_52 e3_52 e7_52 e9_52 e10_52 e92_52;clear e1_46 e3_46 e7_46 e9_46 e10_46;refine cFf ?_;refine Wp.skip ?_;refine bNo ?_;refine tNo ?_;refine lRg fun K' gd hK => ?_;go_simp;refine hK _ _ ?_;clear hK K' gd;refine Ends.keep [1,3,7,9,10] ?_;rintro r53 ⟨e1_53,e3_53,e7_53,e9_53,e10_53,-⟩;simp [go_sem,e1_52,e3_52,e7_52,e9_52,e10_52,e92_52] at e1_53 e3_53 e7_53 e9_53 e10_53;clear e1_52 e3_52 e7_52 e9_52 e10_52 e92_52;refine Ends.mk ?_;refine thenK_normal ⟨by omega,⟨by rw [e1_53,e1_43],by rw [e3_53,e3_43],by rw [e7_53,e7_43],trivial⟩,rfl,xl19,?_⟩;exact ⟨by rw [e10_53,IntWalk.i64_in _ (by omega)];rfl,by rw [e9_53,hst.choose_spec.2.1,if_neg (show ¬ (addR t.N n H j).1 = true from hb1),Int.add_zero],hSD2,by rw [← hst.choose_spec.1];exact hR3⟩
      ·skip;have hkl : ¬ (k : Int) < (Z.length : Int) := by omega
       have hkk : ∃ _u : Unit,k = Z.length := ⟨(),by omega⟩;refine Wp.seq ?_;refine sRg fun K' gd hK => ?_;go_simp;refine hK _ _ ?_;clear hK K' gd;refine Wp.keep [1,3,7,9,10,78] ?_;rintro r54 ⟨e1_54,e3_54,e7_54,e9_54,e10_54,e78_54,-⟩;simp [go_sem,e1_44,e3_44,e7_44,e9,e10] at e1_54 e3_54 e7_54 e9_54 e10_54 e78_54;clear e1_44 e3_44 e7_44 e9 e10;refine cFf ?_;refine Wp.exit ?_;refine tEx ?_;refine tEx ?_;refine blockK_here ?_;refine tNo ?_;refine sRg fun K' gd hK => ?_;go_simp;refine hK _ _ ?_;clear hK K' gd;refine Wp.keep [2] ?_;rintro r55 ⟨e2_55,-⟩;simp [go_sem,e1_54,e3_54,e7_54,e9_54,e10_54,e78_54] at e2_55;clear e1_54 e3_54 e7_54 e9_54 e10_54 e78_54;refine Wp.ret ?_;refine endK_tmp Tryz.results106 (by decide) ?_;rw [e2_55];exact ⟨by rw [meritF,bestF,← hZ2.choose_spec,hkk.choose_spec,List.take_length],xw⟩
instance (t : Tr) (m : Md) : Decidable (ProvP t m) := by unfold ProvP;infer_instance
theorem SpansV.at {w : World} {B : Nat} {A : Option Addr} {n c : Nat} {l : List (Int × Int)} (h : SpansV w B (.slice A n c) l) {k : Nat} (hk : k < l.length) : ∃ b o,A = some ⟨b,o,none⟩ ∧ b < B ∧
  w.cell? ⟨b,o + k * 2,none⟩ = some (.int .i64 (gZ l k).1) ∧ w.cell? ⟨b,o + k * 2 + 1,none⟩ = some (.int .i64 (gZ l k).2) := by
 obtain ⟨A',c',hv,hx,-⟩ := h
 injection hv with h1 h2 h3;subst h1
 obtain ⟨b,o,hA,hb,hc⟩ := hx (by rintro rfl;exact absurd hk (Nat.not_lt_zero _));rw [gZ_lt hk];exact ⟨b,o,hA,hb,hc k hk 0 _ rfl,hc k hk 1 _ rfl⟩
structure SpansS (w : World) (S : Nat) (v : Value) (l : List (Int × Int)) : Prop where
 v : SpansV w S v l
section
variable {w V : World} {S : Nat} {v : Value} {l : List (Int × Int)}
theorem SpansS.ext (h : SpansS w S v l) (hE : Ext w V) : SpansS V S v l := ⟨h.v.cells fun _ _ _ _ hc => hE.cell hc⟩
theorem SpansS.chg {L : List Nat} (h : SpansS w S v l) (hC : Chg L w V) (hL : ∀ b ∈ L,S ≤ b) : SpansS V S v l := ⟨h.v.cells fun b _ _ hb hc => Chg.cell hC hc fun hm => by have := hL b hm;omega⟩
theorem SpansS.put {b i : Nat} {vs : List Value} (h : SpansS w S v l) (p : Put w V b i vs) (hb : S ≤ b) : SpansS V S v l := h.chg p.chg (by simpa using hb)
end
def FullP (t : Tr) (m : Md) : Prop := m.full.length = t.fl.length ∧ ∀ k,k < t.fl.length → FullOk t m.on (gZ m.full k) k
instance (t : Tr) (m : Md) : Decidable (FullP t m) := by unfold FullP;infer_instance
def natI (l : List Nat) : List Int := l.map fun d : Nat => (d : Int)
theorem natI_snoc (l : List Nat) (d : Nat) : natI (l ++ [d]) = natI l ++ [(d : Int)] := by unfold natI;rw [List.map_append];rfl
theorem rbestP_c (t : Tr) (n : Nat) (v : Value) (w : World) (hP : PlanT t n) (hV : TourV w w.heap.size v t) :
  CallsV Tryz.prog 106 #[v] w fun v' w' => v' = .int .i64 (meritF t n) ∧ Ext w w' :=
 rbest_c t n v w ⟨hP.n1,hP.n2⟩ hP.tn hP.cl (by have := hP.fl;omega) hP.sp (fun k hk => ⟨(hP.mr k hk).1,by have := (hP.mr k hk).2;omega⟩) hV
theorem FlawsV.cellsF {w : World} {B b o n c : Nat} {fl : List Fl} (h : FlawsV w B (.slice (some ⟨b,o,none⟩) n c) fl) : ∀ i (hi : i < fl.length) r u,(encF fl[i])[r]? = some u → w.cell? ⟨b,o + i * 4 + r,none⟩ = some u := by
 intro i hi r u hu;obtain ⟨A,c',hv,hx,-⟩ := h
 injection hv with h1 h2 h3
 subst h1;obtain ⟨b2,o2,e,-,hc⟩ := hx (by rintro rfl;exact absurd hi (Nat.not_lt_zero _))
 injection e with e
 injection e with e1 e2
 subst e1 e2;exact hc i hi r u hu
def lessF (ids : List Int) (fl : List Fl) : List Fl := fl.filter fun f => !decide (f.id ∈ ids)
theorem lessF_in {ids : List Int} {fl : List Fl} {k : Nat} (hk : k < fl.length) (h : fl[k].id ∈ ids) : lessF ids (fl.take (k + 1)) = lessF ids (fl.take k) := by
 unfold lessF;rw [take_snoc hk,List.filter_append];simp [h]
theorem lessF_out {ids : List Int} {fl : List Fl} {k : Nat} (hk : k < fl.length) (h : fl[k].id ∉ ids) : lessF ids (fl.take (k + 1)) = lessF ids (fl.take k) ++ [fl[k]] := by
 unfold lessF;rw [take_snoc hk,List.filter_append];simp [h]
theorem lessF_len (ids : List Int) (fl : List Fl) (k : Nat) : (lessF ids (fl.take k)).length ≤ k := Nat.le_trans (List.length_filter_le _ _) (by rw [List.length_take];omega)
theorem rless_c (t : Tr) (ids : List Int) (A : Option Addr) (c : Nat) (A2 : Option Addr) (c2 : Nat) (iv : Value) (w : World) (hF : FlawsV w w.heap.size (.slice A2 t.fl.length c2) t.fl) (hI : IntsV w w.heap.size iv ids) (hil : ids.length ≤ 1000000000000000) (hfl : t.fl.length ≤ 1000) :
  CallsV Tryz.prog 107 #[.agg #[.int .i64 t.n,.slice A t.cl.length c,.slice A2 t.fl.length c2],iv] w fun v' w' => (∃ fv,v' = .agg #[.int .i64 t.n,.slice A t.cl.length c,fv] ∧ OwnF w' w.heap.size fv (lessF ids t.fl)) ∧ Ext w w' := by
 obtain ⟨A1,c1,rfl,-,-⟩ := id hI;have hFS : FlawsS w w.heap.size (.slice A2 t.fl.length c2) t.fl := ⟨hF⟩;have hIS : IntsS w w.heap.size (.slice A1 ids.length c1) ids := ⟨hI⟩;clear hF hI;refine Wp.fn Tryz.func107 rfl Tryz.ntmps107 (by simp) ?_;have xw := Ext.refl w;refine Wp.keep [0,1] ?_;rintro r1 ⟨e0_1,e1_1,-⟩;simp [go_sem] at e0_1 e1_1;refine sRg fun K' gd hK => ?_;refine cu1 fun K1 hK1 => ?_;go_simp;refine hK1 _ _ ?_;clear hK1 K1;refine Wops.absA fun V2_1 n2 hV2_1 => ?_;obtain ⟨q2,hV2_1,s2,kV2_1,f2,r2⟩ := hV2_1;try simp only [q2] at kV2_1 f2 r2 ⊢
 replace hFS := hFS.ext hV2_1;replace hIS := hIS.ext hV2_1;replace xw := xw.trans hV2_1;have c2_0 := kV2_1 0 _ rfl;have c2_1 := kV2_1 1 _ rfl;have c2_2 := kV2_1 2 _ rfl;clear kV2_1 hV2_1;clear r2;refine cu1 fun K1 hK1 => ?_;go_simp;refine hK1 _ _ ?_;clear hK1 K1;refine Wops.absA fun V4_2 n4 hV4_2 => ?_;obtain ⟨q4,hV4_2,s4,kV4_2,f4,r4⟩ := hV4_2;try simp only [q4] at kV4_2 f4 r4 ⊢
 replace hFS := hFS.ext hV4_2;replace hIS := hIS.ext hV4_2;replace xw := xw.trans hV4_2;replace c2_0 := hV4_2.cell c2_0;replace c2_1 := hV4_2.cell c2_1;replace c2_2 := hV4_2.cell c2_2;have c4_0 := kV4_2 0 _ rfl;have c4_1 := kV4_2 1 _ rfl;have c4_2 := kV4_2 2 _ rfl;clear kV4_2 hV4_2;clear r4;try simp only [Wops_nil,updO_some,updO_none]
 refine hK _ _ ?_;clear hK K' gd;refine Wp.keep [1,2,4] ?_;rintro r2 ⟨e1_2,e2_2,e4_2,-⟩;simp [go_sem,e0_1,e1_1] at e1_2 e2_2 e4_2;clear e0_1 e1_1;refine sRg fun K' gd hK => ?_;refine cu7 fun K1 hK1 => ?_;go_simp;refine hK1 _ _ ?_;clear hK1 K1;refine Wops.absA fun V5_3 n5 hV5_3 => ?_;obtain ⟨q5,hV5_3,s5,kV5_3,f5,r5⟩ := hV5_3;try simp only [q5] at kV5_3 f5 r5 ⊢
 replace f4 := hV5_3.fz c4_0 f4;replace hFS := hFS.ext hV5_3;replace hIS := hIS.ext hV5_3;replace xw := xw.trans hV5_3;replace c2_2 := hV5_3.cell c2_2;replace c4_0 := hV5_3.cell c4_0;replace c4_1 := hV5_3.cell c4_1;replace c4_2 := hV5_3.cell c4_2;have c5_0 := kV5_3 0 _ rfl;have c5_1 := kV5_3 1 _ rfl;have c5_2 := kV5_3 2 _ rfl;clear kV5_3 hV5_3;clear r5;try simp only [Wops_nil,updO_some,updO_none]
 refine hK _ _ ?_;clear hK K' gd;refine Wp.keep [1,2,4,5] ?_;rintro r3 ⟨e1_3,e2_3,e4_3,e5_3,-⟩;simp [go_sem,e1_2,e2_2,e4_2] at e1_3 e2_3 e4_3 e5_3;clear e1_2 e2_2 e4_2;refine Wp.seq ?_;obtain ⟨B0,hB0,hB1,hB2⟩ : ∃ B,n5 < B ∧ B ≤ V5_3.heap.size ∧ V5_3.heap.size ≤ B := ⟨V5_3.heap.size,cell_lt c5_0,Nat.le_refl _,Nat.le_refl _⟩;refine sRg fun K' gd hK => ?_;go_simp;refine hK _ _ ?_;clear hK K' gd;refine Wp.keep [1,2,4,5,6] ?_;rintro r4 ⟨e1_4,e2_4,e4_4,e5_4,e6_4,-⟩;simp [go_sem,e1_3,e2_3,e4_3,e5_3] at e1_4 e2_4 e4_4 e5_4 e6_4;clear e1_3 e2_3 e4_3 e5_3;refine Wp.block ?_;refine Wp.loop (fun k ρ ds wk => AllEq [1,2,4,5] ρ r4 ∧ ds = [] ∧ (Chg [n5] V5_3 wk ∧ (∀ i,wk.frozen? ⟨n5,i,none⟩ = false)) ∧ (∃ v,ρ 6 = .int .i64 (k : Int) ∧ wk.cell? ⟨n5,0,none⟩ = some (.int .i64 t.n) ∧ wk.cell? ⟨n5,1,none⟩ = some (.slice A t.cl.length c) ∧ wk.cell? ⟨n5,2,none⟩ = some v ∧ OwnF wk B0 v (lessF ids (t.fl.take k)))) (t.fl.length) ?_ ?_
 ·refine ⟨AllEq.refl _ _,rfl,⟨Chg.refl _ _,f5⟩,?_⟩;exact ⟨_,by rw [e6_4];rfl,c5_0,c5_1,c5_2,World.ownsRow_nil _ _ _ _⟩
 ·rintro k r5 _ wk hk ⟨hA,rfl,⟨xo,gf5⟩,⟨v5,e6,gc5_0,gc5_1,gc5_2,hO9⟩⟩;obtain ⟨e1_5,e2_5,e4_5,e5_5,-⟩ := hA;rw [e1_4] at e1_5;rw [e2_4] at e2_5;rw [e4_4] at e4_5;rw [e5_4] at e5_5;have zxo := Chg.size xo;replace f4 := Chg.fz xo c4_0 f4 XN;clear f5;replace hFS := hFS.chg xo XB;replace hIS := hIS.chg xo XB;replace xw := Chg.to xw xo XL;replace c2_2 := Chg.cell xo c2_2 XN;replace c4_0 := Chg.cell xo c4_0 XN;replace c4_1 := Chg.cell xo c4_1 XN;replace c4_2 := Chg.cell xo c4_2 XN;clear c5_0;clear c5_1;clear c5_2;have f5 := gf5;clear gf5;have c5_0 := gc5_0;clear gc5_0;have c5_1 := gc5_1;clear gc5_1;have c5_2 := gc5_2;clear gc5_2;have q8 := lessF_len ids t.fl k;obtain ⟨A5,c5,rfl⟩ := OwnF.slice hO9
  by_cases hk2 : k < t.fl.length
  ·skip;have hkl : (k : Int) < (t.fl.length : Int) := by omega
   obtain ⟨b2,o2,eA,hb2,x0,x1,x2,x3⟩ := FlawsV.at hFS.v hk2;subst eA;refine Wp.seq ?_;refine sRg fun K' gd hK => ?_;go_simp;refine hK _ _ ?_;clear hK K' gd;refine Wp.keep [1,2,4,5,6,16] ?_;rintro r6 ⟨e1_6,e2_6,e4_6,e5_6,e6_6,e16_6,-⟩;simp [go_sem,e1_5,e2_5,e4_5,e5_5,e6] at e1_6 e2_6 e4_6 e5_6 e6_6 e16_6;clear e1_5 e2_5 e4_5 e5_5 e6;refine cTt ?_;have xv := Ext.refl wk;refine skN ?_;refine sBk ?_;replace hO9 := OwnF.ext hO9 xv
   by_cases hin : t.fl[k].id ∈ ids
   ·skip;refine sRg fun K' gd hK => ?_;refine cu8 fun K1 hK1 => ?_;go_simp;refine Wcall (.inl rfl) (rhas_c _ ids (t.fl[k].id) _ (hIS.v.more (Below.size (XE))) hil) ?_;rintro v w3 ⟨hv,hE⟩;rw [decide_eq_true hin] at hv;subst hv;go_simp;refine hK1 _ _ ?_;clear hK1 K1;replace f5 := hE.fz c5_0 f5;replace hO9 := hO9.ext hE;replace xw := xw.trans hE;replace xo := Chg.ext xo hE;replace c5_0 := hE.cell c5_0;replace c5_1 := hE.cell c5_1;replace c5_2 := hE.cell c5_2;clear hE;go_simp;refine hK _ _ ?_;clear hK K' gd;refine Wp.keep [1,2,4,5,6,27] ?_;rintro r8 ⟨e1_8,e2_8,e4_8,e5_8,e6_8,e27_8,-⟩;simp [go_sem,e1_6,e2_6,e4_6,e5_6,e6_6,e16_6] at e1_8 e2_8 e4_8 e5_8 e6_8 e27_8;clear e1_6 e2_6 e4_6 e5_6 e6_6 e16_6;refine cFf ?_;refine Wp.skip ?_;refine bNo ?_;refine tNo ?_;refine lRg fun K' gd hK => ?_;go_simp;refine hK _ _ ?_;clear hK K' gd;refine Ends.keep [1,2,4,5,6] ?_;rintro r9 ⟨e1_9,e2_9,e4_9,e5_9,e6_9,-⟩;simp [go_sem,e1_8,e2_8,e4_8,e5_8,e6_8,e27_8] at e1_9 e2_9 e4_9 e5_9 e6_9;clear e1_8 e2_8 e4_8 e5_8 e6_8 e27_8;refine Ends.mk ?_;refine thenK_normal ⟨by omega,⟨by rw [e1_9,e1_4],by rw [e2_9,e2_4],by rw [e4_9,e4_4],by rw [e5_9,e5_4],trivial⟩,rfl,⟨xo,f5⟩,?_⟩
    exact ⟨_,by rw [e6_9,IntWalk.i64_in _ (by omega)];rfl,c5_0,c5_1,c5_2,by rw [lessF_in hk2 hin];exact hO9⟩
   ·skip;refine sRg fun K' gd hK => ?_;refine cu8 fun K1 hK1 => ?_;go_simp;refine Wcall (.inl rfl) (rhas_c _ ids (t.fl[k].id) _ (hIS.v.more (Below.size (XE))) hil) ?_;rintro v w3 ⟨hv,hE⟩;rw [decide_eq_false hin] at hv;subst hv;go_simp;refine hK1 _ _ ?_;clear hK1 K1;have z10 := Below.size hE;replace f5 := hE.fz c5_0 f5;replace hO9 := hO9.ext hE;replace xw := xw.trans hE;replace xo := Chg.ext xo hE;replace c2_2 := hE.cell c2_2;replace c5_0 := hE.cell c5_0;replace c5_1 := hE.cell c5_1;replace c5_2 := hE.cell c5_2;replace x0 := hE.cell x0;replace x1 := hE.cell x1;replace x2 := hE.cell x2;replace x3 := hE.cell x3;clear hE;go_simp;refine hK _ _ ?_;clear hK K' gd;refine Wp.keep [1,2,4,5,6,27] ?_;rintro r11 ⟨e1_11,e2_11,e4_11,e5_11,e6_11,e27_11,-⟩;simp [go_sem,e1_6,e2_6,e4_6,e5_6,e6_6,e16_6] at e1_11 e2_11 e4_11 e5_11 e6_11 e27_11;clear e1_6 e2_6 e4_6 e5_6 e6_6 e16_6;refine cTt ?_;refine Wp.loneDraw (.inl rfl) mixed [([0,1,2,3,4],none),([5,6],some (7,false)),([],some (8,true)),([],some (9,true)),([],some (10,true))] (by kernel_rfl) fun K' gd hK hg => ?_;clear hg;simp only [pick,nth,List.map_cons,List.map_nil,Option.map_none,Option.map_some];refine Mops.absD fun D6 hD6 zD6 => ?_
    replace f5 := hD6.fz c5_0 f5;replace hO9 := hO9.ext hD6;replace xw := xw.trans hD6;replace xo := Chg.ext xo hD6;replace c2_2 := hD6.cell c2_2;replace c5_0 := hD6.cell c5_0;replace c5_1 := hD6.cell c5_1;replace c5_2 := hD6.cell c5_2;replace x0 := hD6.cell x0;replace x1 := hD6.cell x1;replace x2 := hD6.cell x2;replace x3 := hD6.cell x3;clear hD6;refine mNo ?_
    refine mAc ?_
    intro K1 hK1;go_simp;refine hK1 _ _ (XA) ?_;clear hK1 K1;refine Mops.absA fun V35_7 n35 hV35_7 => ?_;obtain ⟨q35,hV35_7,s35,kV35_7,f35,r35⟩ := hV35_7;try simp only [q35] at kV35_7 f35 r35 ⊢
    replace f5 := hV35_7.fz c5_0 f5;replace hO9 := hO9.ext hV35_7;replace xw := xw.trans hV35_7;replace xo := Chg.ext xo hV35_7;replace c5_0 := hV35_7.cell c5_0;replace c5_1 := hV35_7.cell c5_1;replace c5_2 := hV35_7.cell c5_2;clear hV35_7 f35;have c35_0 := kV35_7 0 _ rfl;have c35_1 := kV35_7 1 _ rfl;have c35_2 := kV35_7 2 _ rfl;have c35_3 := kV35_7 3 _ rfl;clear kV35_7;apply Mops.last
    ·exact fun _ _ => Rops_done
    intro K1 hK1;obtain ⟨v',w7,hrun,hO2,hgr,-⟩ := app_run flaws_T hO9 ⟨n35,0,none⟩ 1 1 (encF t.fl[k]) 23 rfl (newsG c35_0 c35_1 c35_2 c35_3) encF_one (by omega) (by omega);refine if_pos_of rfl (Wstep.law (exec_append2 rfl hrun (by go_simp) (by go_simp)) ?_);refine hK1 _ _ ?_;clear hK1 K1;replace f5 := Chg.fz (grown_chg hgr) c5_0 f5 (lt_off (World.ownsRow.lt hO9) (by omega));replace xw := Chg.to xw (grown_chg hgr) (lt_ge (World.ownsRow.lt hO9) (by omega));replace xo := Chg.more xo (grown_chg hgr) (by first | exact lt_gm (World.ownsRow.lt hO9) (by omega) | simp);replace c5_0 := Chg.cell (grown_chg hgr) c5_0 (lt_off (World.ownsRow.lt hO9) (by omega));replace c5_1 := Chg.cell (grown_chg hgr) c5_1 (lt_off (World.ownsRow.lt hO9) (by omega));replace c5_2 := Chg.cell (grown_chg hgr) c5_2 (lt_off (World.ownsRow.lt hO9) (by omega));have hO3 : OwnF w7 B0 v' (lessF ids (t.fl.take (k + 1))) := by rw [lessF_out hk2 hin];unfold OwnF;rw [encFs_add,List.length_append];exact hO2
    clear hO2;obtain ⟨A6,c6,rfl⟩ := OwnF.slice hO3;apply Mops.last
    ·exact fun _ _ => Rops_done
    intro K1 hK1;go_simp;refine hK1 _ _ ?_;clear hK1 K1;apply Mops.last
    ·exact fun _ _ => Rops_done
    intro K1 hK1;go_simp;refine hK1 _ _ ?_;clear hK1 K1;refine Mops.absS (b := n5) (i := 2) [_] (somes [cellVal c5_2] (by simp) (by intro j v hj;match j,hj with | 0,hj => (simp at hj;subst hj;exact c5_2))) fun P8 hP8 => ?_;replace f5 := hP8.frz f5;replace hO3 := hO3.put hP8 (by omega);replace xw := Put.to xw hP8 (by omega);replace xo := Put.more xo hP8 (.inr (by simp));replace c5_0 := Put.cellOff hP8 c5_0 (by simp);replace c5_1 := Put.cellOff hP8 c5_1 (by simp);clear c5_2;have c5_2 := hP8.new 0 _ rfl;try simp only [Nat.reduceAdd,Nat.zero_add,Nat.add_zero] at c5_2
    clear hP8;refine Mops.done ?_;refine hK _ _ ?_;clear hK K' gd;refine Ends.keep [1,2,4,5,6] ?_;rintro r13 ⟨e1_13,e2_13,e4_13,e5_13,e6_13,-⟩;simp [go_sem,e1_11,e2_11,e4_11,e5_11,e6_11,e27_11] at e1_13 e2_13 e4_13 e5_13 e6_13;clear e1_11 e2_11 e4_11 e5_11 e6_11 e27_11;refine Ends.mk ?_;refine bNo ?_;refine tNo ?_;refine lRg fun K' gd hK => ?_;go_simp;refine hK _ _ ?_;clear hK K' gd;refine Ends.keep [1,2,4,5,6] ?_;rintro r14 ⟨e1_14,e2_14,e4_14,e5_14,e6_14,-⟩;simp [go_sem,e1_13,e2_13,e4_13,e5_13,e6_13] at e1_14 e2_14 e4_14 e5_14 e6_14;clear e1_13 e2_13 e4_13 e5_13 e6_13;refine Ends.mk ?_;refine thenK_normal ⟨by omega,⟨by rw [e1_14,e1_4],by rw [e2_14,e2_4],by rw [e4_14,e4_4],by rw [e5_14,e5_4],trivial⟩,rfl,⟨xo,f5⟩,?_⟩;exact ⟨_,by rw [e6_14,IntWalk.i64_in _ (by omega)];rfl,c5_0,c5_1,c5_2,hO3⟩
  ·skip;have hkl : ¬ (k : Int) < (t.fl.length : Int) := by omega
   obtain rfl : k = t.fl.length := by omega
   rw [List.take_length] at hO9;refine Wp.seq ?_;refine sRg fun K' gd hK => ?_;go_simp;refine hK _ _ ?_;clear hK K' gd;refine Wp.keep [1,2,4,5,6,16] ?_;rintro r15 ⟨e1_15,e2_15,e4_15,e5_15,e6_15,e16_15,-⟩;simp [go_sem,e1_5,e2_5,e4_5,e5_5,e6] at e1_15 e2_15 e4_15 e5_15 e6_15 e16_15;clear e1_5 e2_5 e4_5 e5_5 e6;refine cFf ?_;refine Wp.exit ?_;refine tEx ?_;refine tEx ?_;refine blockK_here ?_;refine tNo ?_;refine sRg fun K' gd hK => ?_;refine cu2 fun K1 hK1 => ?_;go_simp;refine hK1 _ _ ?_;clear hK1 K1;refine Wops.absS (b := n4) (i := 0) [_,_,_] (somes [cellVal c4_0,cellVal c4_1,cellVal c4_2] (by simp) (by intro j v hj;match j,hj with | 0,hj => (simp at hj;subst hj;exact c4_0) | 1,hj => (simp at hj;subst hj;exact c4_1) | 2,hj => (simp at hj;subst hj;exact c4_2))) fun P9 hP9 => ?_;replace hO9 := hO9.put hP9 (by omega);replace xw := Put.to xw hP9 (by omega);clear xo;clear c4_0;clear c4_1;clear c4_2;have c4_0 := hP9.new 0 _ rfl;try simp only [Nat.reduceAdd,Nat.zero_add,Nat.add_zero] at c4_0
   have c4_1 := hP9.new 1 _ rfl;try simp only [Nat.reduceAdd,Nat.zero_add,Nat.add_zero] at c4_1
   have c4_2 := hP9.new 2 _ rfl;try simp only [Nat.reduceAdd,Nat.zero_add,Nat.add_zero] at c4_2
   clear hP9;try simp only [Wops_nil,updO_some,updO_none]
   refine hK _ _ ?_;clear hK K' gd;refine Wp.keep [4] ?_;rintro r16 ⟨e4_16,-⟩;simp [go_sem,e1_15,e2_15,e4_15,e5_15,e6_15,e16_15] at e4_16;clear e1_15 e2_15 e4_15 e5_15 e6_15 e16_15;refine Wp.ret ?_;refine endK_cell (v := .agg #[cellVal c4_0,cellVal c4_1,cellVal c4_2]) Tryz.results107 (by decide) e4_16 (by dsimp only [cellVal];go_simp) ?_
   dsimp only [cellVal]
   exact ⟨⟨_,rfl,hO9.less (by omega)⟩,xw⟩
def withF (fl : List Fl) (i : Nat) (lo hi : Int) : List Fl := match fl[i]? with | some f => fl.set i ⟨f.id,lo,hi,f.m % 1048576 + 1048576⟩ | none => fl
theorem withF_at {fl : List Fl} {i : Nat} {lo hi : Int} (h : i < fl.length) : withF fl i lo hi = fl.set i ⟨fl[i].id,lo,hi,fl[i].m % 1048576 + 1048576⟩ := by unfold withF;rw [List.getElem?_eq_getElem h]
theorem withF_len {fl : List Fl} {i : Nat} {lo hi : Int} : (withF fl i lo hi).length = fl.length := by
 unfold withF
 split
 ·rw [List.length_set]
 ·rfl
theorem RowG.merit {W V : World} {b : Nat} {l : List Fl} {i : Nat} {m : Int} (h : RowG W b l) (hi' : i < l.length) (p : Put W V b (i * 4 + 3) [.int .i64 m]) : RowG V b (l.set i ⟨l[i].id,l[i].lo,l[i].hi,m⟩) := by
 refine ⟨fun k hk r u hu => ?_,fun j => (p.fz _).trans (h.fz j),fun e => by have := congrArg List.length e;simp at this;exact h.ne this⟩;rw [List.length_set] at hk;rw [List.getElem_set] at hu
 by_cases e : i = k
 ·subst e;rw [if_pos rfl] at hu
  match r,hu with
  | 0,hu => rw [p.old _ (by simp)];exact h.c i hi' 0 u hu
  | 1,hu => rw [p.old _ (by simp)];exact h.c i hi' 1 u hu
  | 2,hu => rw [p.old _ (by simp)];exact h.c i hi' 2 u hu
  | 3,hu => exact p.new 0 u (by injection hu with hu;subst hu;rfl)
  | r + 4,hu => exact absurd hu (by simp [encF])
 ·rw [if_neg e] at hu;have hr : r < 4 := (List.getElem?_eq_some_iff.1 hu).1;rw [p.old _ (by simp;omega)];exact h.c k hk r u hu
theorem rwith_c (t : Tr) (i : Nat) (lo hi : Int) (A : Option Addr) (c : Nat) (A2 : Option Addr) (c2 : Nat) (w : World) (hF : FlawsV w w.heap.size (.slice A2 t.fl.length c2) t.fl) (hi2 : i < t.fl.length) (hfl : t.fl.length ≤ 1000) (hm : 0 ≤ t.fl[i].m ∧ t.fl[i].m ≤ 1000000000000) :
  CallsV Tryz.prog 109 #[.agg #[.int .i64 t.n,.slice A t.cl.length c,.slice A2 t.fl.length c2],.int .i64 (i : Int),.agg #[.int .i64 lo,.int .i64 hi]] w fun v w' =>
   (∃ b c4,v = .agg #[.int .i64 t.n,.slice A t.cl.length c,.slice (some ⟨b,0,none⟩) t.fl.length c4] ∧ w.heap.size ≤ b ∧ t.fl.length ≤ c4 ∧ RowG w' b (withF t.fl i lo hi)) ∧ Ext w w' := by
 have hFS : FlawsS w w.heap.size (.slice A2 t.fl.length c2) t.fl := ⟨hF⟩;clear hF;obtain ⟨b2,o2,eA,hb2,x0,x1,x2,x3⟩ := FlawsV.at hFS.v hi2;subst eA;have hii : (i : Int) < (t.fl.length : Int) := by omega
 have hne : t.fl ≠ [] := fun e => by rw [e] at hi2;exact absurd hi2 (Nat.not_lt_zero _)
 obtain ⟨M,hM⟩ : ∃ M,∃ _u : Unit,t.fl[i].m = M := ⟨_,(),rfl⟩;rw [hM.choose_spec] at x3 hm;have hms : ∃ _u : Unit,IntKind.i64.wrap (M.tmod 1048576 + 1048576) = M % 1048576 + 1048576 := ⟨(),by rw [Int.tmod_eq_emod_of_nonneg hm.1,IntWalk.i64_in _ (by omega)]⟩;replace hne : ∃ _u : Unit,_ := ⟨(),hne⟩;refine Wp.fn Tryz.func109 rfl Tryz.ntmps109 (by simp) ?_;have xw := Ext.refl w;refine Wp.keep [0,1,2] ?_;rintro r1 ⟨e0_1,e1_1,e2_1,-⟩;simp [go_sem] at e0_1 e1_1 e2_1;refine sRg fun K' gd hK => ?_;refine cu1 fun K1 hK1 => ?_;go_simp;refine hK1 _ _ ?_;clear hK1 K1;refine Wops.absT fun V3_1 n3 hV3_1 R3 => ?_;obtain ⟨q3,hV3_1,s3,kV3_1,f3,r3⟩ := hV3_1;try simp only [q3] at kV3_1 f3 r3 ⊢
 replace hFS := hFS.ext hV3_1;replace xw := xw.trans hV3_1;replace x3 := hV3_1.cell x3;have c3_0 := kV3_1 0 _ rfl;have c3_1 := kV3_1 1 _ rfl;have c3_2 := kV3_1 2 _ rfl;clear kV3_1 hV3_1;clear r3;refine cu1 fun K1 hK1 => ?_;go_simp;refine hK1 _ _ ?_;clear hK1 K1;refine Wops.absT fun V5_2 n5 hV5_2 R5 => ?_;obtain ⟨q5,hV5_2,s5,kV5_2,f5,r5⟩ := hV5_2;try simp only [q5] at kV5_2 f5 r5 ⊢
 replace hFS := hFS.ext hV5_2;replace xw := xw.trans hV5_2;replace x3 := hV5_2.cell x3;replace c3_0 := hV5_2.cell c3_0;replace c3_1 := hV5_2.cell c3_1;replace c3_2 := hV5_2.cell c3_2;have c5_0 := kV5_2 0 _ rfl;have c5_1 := kV5_2 1 _ rfl;clear kV5_2 hV5_2;clear r5;refine cu1 fun K1 hK1 => ?_;go_simp;refine hK1 _ _ ?_;clear hK1 K1;refine Wops.absT fun V6_3 n6 hV6_3 R6 => ?_;obtain ⟨q6,hV6_3,s6,kV6_3,f6,r6⟩ := hV6_3;try simp only [q6] at kV6_3 f6 r6 ⊢
 replace hFS := hFS.ext hV6_3;replace xw := xw.trans hV6_3;replace x3 := hV6_3.cell x3;replace c3_0 := hV6_3.cell c3_0;replace c3_1 := hV6_3.cell c3_1;replace c3_2 := hV6_3.cell c3_2;replace c5_0 := hV6_3.cell c5_0;replace c5_1 := hV6_3.cell c5_1;have c6_0 := kV6_3 0 _ rfl;have c6_1 := kV6_3 1 _ rfl;have c6_2 := kV6_3 2 _ rfl;clear kV6_3 hV6_3;clear r6;try simp only [Wops_nil,updO_some,updO_none]
 refine hK _ _ ?_;clear hK K' gd;refine Wp.keep [1,3,5,6] ?_;rintro r2 ⟨e1_2,e3_2,e5_2,e6_2,-⟩;simp [go_sem,e0_1,e1_1,e2_1] at e1_2 e3_2 e5_2 e6_2;clear e0_1 e1_1 e2_1;refine sRg fun K' gd hK => ?_;refine cu3 fun K1 hK1 => ?_;go_simp;refine hK1 _ _ ?_;clear hK1 K1;refine Wops.absT fun V7_4 n7 hV7_4 R7 => ?_;obtain ⟨q7,hV7_4,s7,kV7_4,f7,r7⟩ := hV7_4;try simp only [q7] at kV7_4 f7 r7 ⊢
 replace f6 := hV7_4.fz c6_0 f6;replace hFS := hFS.ext hV7_4;replace xw := xw.trans hV7_4;replace x3 := hV7_4.cell x3;replace c3_2 := hV7_4.cell c3_2;replace c5_0 := hV7_4.cell c5_0;replace c5_1 := hV7_4.cell c5_1;replace c6_0 := hV7_4.cell c6_0;replace c6_1 := hV7_4.cell c6_1;replace c6_2 := hV7_4.cell c6_2;have c7_0 := kV7_4 0 _ rfl;have c7_1 := kV7_4 1 _ rfl;have c7_2 := kV7_4 2 _ rfl;clear kV7_4 hV7_4;clear r7;try simp only [Wops_nil,updO_some,updO_none]
 refine hK _ _ ?_;clear hK K' gd;refine Wp.keep [1,3,5,6,7] ?_;rintro r3 ⟨e1_3,e3_3,e5_3,e6_3,e7_3,-⟩;simp [go_sem,e1_2,e3_2,e5_2,e6_2] at e1_3 e3_3 e5_3 e6_3 e7_3;clear e1_2 e3_2 e5_2 e6_2;refine sRg fun K' gd hK => ?_;refine cu1 fun K1 hK1 => ?_;go_simp;refine hK1 _ _ ?_;clear hK1 K1;refine Wops.absT fun V9_5 n9 hV9_5 R9 => ?_;obtain ⟨q9,hV9_5,s9,kV9_5,f9,r9⟩ := hV9_5;try simp only [q9] at kV9_5 f9 r9 ⊢
 replace R9 := (show RowC _ _ _ _ from R9);replace f6 := hV9_5.fz c6_0 f6;replace f7 := hV9_5.fz c7_0 f7;replace hFS := hFS.ext hV9_5;replace xw := xw.trans hV9_5;replace x3 := hV9_5.cell x3;replace c3_2 := hV9_5.cell c3_2;replace c5_0 := hV9_5.cell c5_0;replace c5_1 := hV9_5.cell c5_1;replace c6_0 := hV9_5.cell c6_0;replace c6_1 := hV9_5.cell c6_1;replace c6_2 := hV9_5.cell c6_2;replace c7_0 := hV9_5.cell c7_0;replace c7_1 := hV9_5.cell c7_1;replace c7_2 := hV9_5.cell c7_2;clear hV9_5 f9;clear kV9_5;refine cu3 fun K1 hK1 => ?_;refine Wops.cut 2 fun K2 hK2 => ?_;simp only [tSC,tZ];go_simp;refine hK2 _ _ ?_;clear hK2 K2;simp only [dSC,dZ];obtain ⟨v',w7,hrun,hO,hgr,-⟩ := app_run flaws_T (RowC.own (size := 4) (k := 0) (c := 0) R9 (Nat.le_refl _) (Nat.le_refl _) (Nat.zero_le _) (by simp)) ⟨b2,o2,none⟩ t.fl.length c2 (encFs t.fl) 23 (encFs_len _) (newsF_of (FlawsV.cellsF hFS.v)) encFs_one (by omega) (by omega);refine Wops.law rfl (exec_append2 rfl hrun (by go_simp) (by go_simp)) ?_;simp only [updO_some,Wops_nil];refine hK1 _ _ ?_;clear hK1 K1;replace f6 := Chg.fz (grown_chg hgr) c6_0 f6 (lt_off (World.ownsRow.lt (RowC.own (size := 4) (k := 0) (c := 0) R9 (Nat.le_refl _) (Nat.le_refl _) (Nat.zero_le _) (by simp))) (by omega));replace f7 := Chg.fz (grown_chg hgr) c7_0 f7 (lt_off (World.ownsRow.lt (RowC.own (size := 4) (k := 0) (c := 0) R9 (Nat.le_refl _) (Nat.le_refl _) (Nat.zero_le _) (by simp))) (by omega))
 replace xw := Chg.to xw (grown_chg hgr) (lt_ge (World.ownsRow.lt (RowC.own (size := 4) (k := 0) (c := 0) R9 (Nat.le_refl _) (Nat.le_refl _) (Nat.zero_le _) (by simp))) (by omega));replace x3 := Chg.cell (grown_chg hgr) x3 (lt_off (World.ownsRow.lt (RowC.own (size := 4) (k := 0) (c := 0) R9 (Nat.le_refl _) (Nat.le_refl _) (Nat.zero_le _) (by simp))) (by omega));replace c3_2 := Chg.cell (grown_chg hgr) c3_2 (lt_off (World.ownsRow.lt (RowC.own (size := 4) (k := 0) (c := 0) R9 (Nat.le_refl _) (Nat.le_refl _) (Nat.zero_le _) (by simp))) (by omega));replace c5_0 := Chg.cell (grown_chg hgr) c5_0 (lt_off (World.ownsRow.lt (RowC.own (size := 4) (k := 0) (c := 0) R9 (Nat.le_refl _) (Nat.le_refl _) (Nat.zero_le _) (by simp))) (by omega));replace c5_1 := Chg.cell (grown_chg hgr) c5_1 (lt_off (World.ownsRow.lt (RowC.own (size := 4) (k := 0) (c := 0) R9 (Nat.le_refl _) (Nat.le_refl _) (Nat.zero_le _) (by simp))) (by omega));replace c6_0 := Chg.cell (grown_chg hgr) c6_0 (lt_off (World.ownsRow.lt (RowC.own (size := 4) (k := 0) (c := 0) R9 (Nat.le_refl _) (Nat.le_refl _) (Nat.zero_le _) (by simp))) (by omega));replace c6_1 := Chg.cell (grown_chg hgr) c6_1 (lt_off (World.ownsRow.lt (RowC.own (size := 4) (k := 0) (c := 0) R9 (Nat.le_refl _) (Nat.le_refl _) (Nat.zero_le _) (by simp))) (by omega));replace c6_2 := Chg.cell (grown_chg hgr) c6_2 (lt_off (World.ownsRow.lt (RowC.own (size := 4) (k := 0) (c := 0) R9 (Nat.le_refl _) (Nat.le_refl _) (Nat.zero_le _) (by simp))) (by omega));replace c7_0 := Chg.cell (grown_chg hgr) c7_0 (lt_off (World.ownsRow.lt (RowC.own (size := 4) (k := 0) (c := 0) R9 (Nat.le_refl _) (Nat.le_refl _) (Nat.zero_le _) (by simp))) (by omega))
 replace c7_1 := Chg.cell (grown_chg hgr) c7_1 (lt_off (World.ownsRow.lt (RowC.own (size := 4) (k := 0) (c := 0) R9 (Nat.le_refl _) (Nat.le_refl _) (Nat.zero_le _) (by simp))) (by omega));replace c7_2 := Chg.cell (grown_chg hgr) c7_2 (lt_off (World.ownsRow.lt (RowC.own (size := 4) (k := 0) (c := 0) R9 (Nat.le_refl _) (Nat.le_refl _) (Nat.zero_le _) (by simp))) (by omega));have hO1 : OwnF w7 n9 v' t.fl := (by unfold OwnF;simpa using hO);clear hO;obtain ⟨b,c4,rfl,hb,hbc,hR⟩ := hO1.rowG hne.choose_spec;clear hO1;refine cu2 fun K1 hK1 => ?_;go_simp;refine hK1 _ _ ?_;clear hK1 K1;refine Wops.absS (b := n7) (i := 2) [_] (somes [cellVal c7_2] (by simp) (by intro j v hj;match j,hj with | 0,hj => (simp at hj;subst hj;exact c7_2))) fun P6 hP6 => ?_;replace f6 := hP6.frz f6;replace hR := hR.put hP6 (by omega);replace xw := Put.to xw hP6 (by omega);replace x3 := hP6.cell x3 (by omega);replace c3_2 := hP6.cell c3_2 (by omega);replace c5_0 := hP6.cell c5_0 (by omega);replace c5_1 := hP6.cell c5_1 (by omega);replace c6_0 := hP6.cell c6_0 (by omega);replace c6_1 := hP6.cell c6_1 (by omega);replace c6_2 := hP6.cell c6_2 (by omega);replace c7_0 := Put.cellOff hP6 c7_0 (by simp);replace c7_1 := Put.cellOff hP6 c7_1 (by simp);clear c7_2;have c7_2 := hP6.new 0 _ rfl;try simp only [Nat.reduceAdd,Nat.zero_add,Nat.add_zero] at c7_2
 clear hP6;try simp only [Wops_nil,updO_some,updO_none]
 refine hK _ _ ?_;clear hK K' gd;refine Wp.keep [1,3,5,6,7] ?_;rintro r5 ⟨e1_5,e3_5,e5_5,e6_5,e7_5,-⟩;simp [go_sem,e1_3,e3_3,e5_3,e6_3,e7_3] at e1_5 e3_5 e5_5 e6_5 e7_5;clear e1_3 e3_3 e5_3 e6_3 e7_3;have z0 := hR.c i hi2 1 _ rfl;have z1 := hR.c i hi2 2 _ rfl;have fb := hR.fz;refine sRg fun K' gd hK => ?_;refine cu7 fun K1 hK1 => ?_;go_simp;refine hK1 _ _ ?_;clear hK1 K1;refine Wops.absS (b := b) (i := i * 4 + 1) [_,_] (some2 z0 z1) fun P9 hP9 => ?_;replace f6 := hP9.frz f6;replace xw := Put.to xw hP9 (by omega);replace x3 := hP9.cell x3 (by omega);replace c3_2 := hP9.cell c3_2 (by omega);replace c6_0 := hP9.cell c6_0 (by omega);replace c6_1 := hP9.cell c6_1 (by omega);replace c6_2 := hP9.cell c6_2 (by omega);replace c7_0 := hP9.cell c7_0 (by omega);replace c7_1 := hP9.cell c7_1 (by omega);replace c7_2 := hP9.cell c7_2 (by omega);try simp only [Wops_nil,updO_some,updO_none]
 refine hK _ _ ?_;clear hK K' gd;refine Wp.keep [1,3,6,7] ?_;rintro r6 ⟨e1_6,e3_6,e6_6,e7_6,-⟩;simp [go_sem,e1_5,e3_5,e5_5,e6_5,e7_5] at e1_6 e3_6 e6_6 e7_6;clear e1_5 e3_5 e5_5 e6_5 e7_5;have hR2 := hR.days hi2 hP9;have hi3 : i < (t.fl.set i ⟨t.fl[i].id,lo,hi,t.fl[i].m⟩).length := by rw [List.length_set];exact hi2
 have z3 := hR2.c i hi3 3 _ rfl;have fb2 := hR2.fz;refine Wp.seqDraw (.inl rfl) mixed [([0,1,2,3,4],none),([5,6,7,8,9],none),([10,11,12],some (13,true))] (by kernel_rfl) fun K' gd hK hg => ?_;clear hg;simp only [pick,nth,List.map_cons,List.map_nil,Option.map_none,Option.map_some];refine Mops.absD fun D8 hD8 zD8 => ?_;replace f6 := hD8.fz c6_0 f6;replace fb2 := hD8.fz z3 fb2;replace hR2 := hR2.ext hD8;replace xw := xw.trans hD8;replace x3 := hD8.cell x3;replace c3_2 := hD8.cell c3_2;replace c6_0 := hD8.cell c6_0;replace c6_1 := hD8.cell c6_1;replace c6_2 := hD8.cell c6_2;replace c7_0 := hD8.cell c7_0;replace c7_1 := hD8.cell c7_1;replace c7_2 := hD8.cell c7_2;replace z3 := hD8.cell z3;clear hD8;refine mNo ?_
 refine mNo ?_
 apply Mops.last
 ·intro w' hE';go_simp;with_reducible rfl
 intro K1 hK1;go_simp;refine hK1 _ _ ?_;clear hK1 K1;refine Mops.absS (b := b) (i := i * 4 + 3) [_] (some1 z3) fun P10 hP10 => ?_;replace f6 := hP10.frz f6;replace xw := Put.to xw hP10 (by omega);replace c6_0 := hP10.cell c6_0 (by omega);replace c6_1 := hP10.cell c6_1 (by omega);replace c6_2 := hP10.cell c6_2 (by omega);replace c7_0 := hP10.cell c7_0 (by omega);replace c7_1 := hP10.cell c7_1 (by omega);replace c7_2 := hP10.cell c7_2 (by omega);refine Mops.done ?_;refine hK _ _ ?_;clear hK K' gd;refine Wp.keep [6,7] ?_;rintro r7 ⟨e6_7,e7_7,-⟩;simp [go_sem,e1_6,e3_6,e6_6,e7_6] at e6_7 e7_7;clear e1_6 e3_6 e6_6 e7_6;have hR3 := hR2.merit hi3 hP10;rw [hms.choose_spec] at hR3;have hwf : ∃ _u : Unit,(t.fl.set i ⟨t.fl[i].id,lo,hi,t.fl[i].m⟩).set i ⟨(t.fl.set i ⟨t.fl[i].id,lo,hi,t.fl[i].m⟩)[i].id,(t.fl.set i ⟨t.fl[i].id,lo,hi,t.fl[i].m⟩)[i].lo,(t.fl.set i ⟨t.fl[i].id,lo,hi,t.fl[i].m⟩)[i].hi,M % 1048576 + 1048576⟩ = withF t.fl i lo hi := ⟨(),by rw [withF_at hi2,List.set_set];simp [hM.choose_spec]⟩;refine sRg fun K' gd hK => ?_;refine cu2 fun K1 hK1 => ?_;go_simp;refine hK1 _ _ ?_;clear hK1 K1;refine Wops.absS (b := n6) (i := 0) [_,_,_] (somes [cellVal c6_0,cellVal c6_1,cellVal c6_2] (by simp) (by intro j v hj;match j,hj with | 0,hj => (simp at hj;subst hj;exact c6_0) | 1,hj => (simp at hj;subst hj;exact c6_1) | 2,hj => (simp at hj;subst hj;exact c6_2))) fun P10 hP10 => ?_
 replace hR3 := hR3.put hP10 (by omega);replace xw := Put.to xw hP10 (by omega);clear c6_0;clear c6_1;clear c6_2;have c6_0 := hP10.new 0 _ rfl;try simp only [Nat.reduceAdd,Nat.zero_add,Nat.add_zero] at c6_0
 have c6_1 := hP10.new 1 _ rfl;try simp only [Nat.reduceAdd,Nat.zero_add,Nat.add_zero] at c6_1
 have c6_2 := hP10.new 2 _ rfl;try simp only [Nat.reduceAdd,Nat.zero_add,Nat.add_zero] at c6_2
 clear hP10;try simp only [Wops_nil,updO_some,updO_none]
 refine hK _ _ ?_;clear hK K' gd;refine Wp.keep [6] ?_;rintro r8 ⟨e6_8,-⟩;simp [go_sem,e6_7,e7_7] at e6_8;clear e6_7 e7_7;refine Wp.ret ?_;refine endK_cell (v := .agg #[cellVal c6_0,cellVal c6_1,cellVal c6_2]) Tryz.results109 (by decide) e6_8 (by dsimp only [cellVal];go_simp) ?_
 dsimp only [cellVal]
 exact ⟨⟨b,c4,rfl,by omega,hbc,by rw [← hwf.choose_spec];exact hR3⟩,xw⟩
end Go.Proofs.YtnklbepeoicgpaaGreat
namespace Go.Proofs.YtnklbepeoicgpaaGreat
structure InsP (a : List Int) (x : Int) (k : Nat) (Z : List Int) (put : Bool) : Prop where
 srt : Z.Pairwise (· < ·)
 mem : ∀ y,y ∈ Z ↔ y ∈ a.take k ∨ (put = true ∧ y = x)
 hi : put = true → ∀ y ∈ a.drop k,x < y
 lo : put = false → ∀ y ∈ a.take k,y < x
theorem pw_snoc {l : List Int} {x : Int} : (l ++ [x]).Pairwise (· < ·) ↔ l.Pairwise (· < ·) ∧ ∀ y ∈ l,y < x := by
 rw [List.pairwise_append]
 constructor
 ·rintro ⟨h1,-,h2⟩;exact ⟨h1,fun y hy => h2 y hy x (by simp)⟩
 ·rintro ⟨h1,h2⟩;exact ⟨h1,List.pairwise_singleton _ _,fun y hy z hz => by rw [List.mem_singleton] at hz;subst hz;exact h2 y hy⟩
theorem InsP.zero (a : List Int) (x : Int) : InsP a x 0 [] false := ⟨List.Pairwise.nil,fun y => by simp,fun h => (by cases h),fun _ y hy => by simp at hy⟩
section
variable {a : List Int} {x : Int} {k : Nat} {Z : List Int} {put : Bool}
theorem take_lt (ha : a.Pairwise (· < ·)) (hk : k < a.length) : ∀ y ∈ a.take k,y < a[k] := fun y hy => by
 obtain ⟨j,hj,e⟩ := List.getElem_of_mem hy;rw [List.length_take] at hj;rw [List.getElem_take] at e;rw [← e];exact List.pairwise_iff_getElem.1 ha j k (by omega) hk (by omega)
theorem InsP.on (h : InsP a x k Z put) (ha : a.Pairwise (· < ·)) (hk : k < a.length) (hx : put = true ∨ a[k] < x) : InsP a x (k + 1) (Z ++ [a[k]]) put := by
 refine ⟨pw_snoc.2 ⟨h.srt,fun y hy => ?_⟩,fun y => ?_,fun q y hy => ?_,fun q y hy => ?_⟩
 ·rcases (h.mem y).1 hy with q | ⟨q,rfl⟩
  ·exact take_lt ha hk y q
  ·exact h.hi q _ (by rw [List.drop_eq_getElem_cons hk];exact List.mem_cons_self)
 ·rw [List.mem_append,List.mem_singleton,h.mem,take_snoc hk,List.mem_append,List.mem_singleton]
  constructor
  ·rintro ((q | q) | q)
   ·exact .inl (.inl q)
   ·exact .inr q
   ·exact .inl (.inr q)
  ·rintro ((q | q) | q)
   ·exact .inl (.inl q)
   ·exact .inr q
   ·exact .inl (.inr q)
 ·exact h.hi q y (by rw [List.drop_eq_getElem_cons hk];exact List.mem_cons_of_mem _ hy)
 ·rw [take_snoc hk,List.mem_append,List.mem_singleton] at hy
  rcases hy with hy | rfl
  ·exact h.lo q y hy
  ·rcases hx with e | e
   ·rw [q] at e;cases e
   ·exact e
def insW (Z : List Int) (put : Bool) (x : Int) : List Int := if put = true then Z else Z ++ [x]
theorem InsP.done (h : InsP a x a.length Z put) : (insW Z put x).Pairwise (· < ·) ∧ ∀ y,y ∈ insW Z put x ↔ y ∈ a ∨ y = x := by
 have hm := h.mem;rw [List.take_length] at hm;unfold insW
 by_cases q : put = true
 ·rw [if_pos q];exact ⟨h.srt,fun y => by rw [hm];exact ⟨fun z => z.imp id fun z => z.2,fun z => z.imp id fun z => ⟨q,z⟩⟩⟩
 ·rw [if_neg q];have q0 : put = false := by simpa using q
  have hl := h.lo q0;rw [List.take_length] at hl;have hz : ∀ y ∈ Z,y ∈ a := fun y hy => ((hm y).1 hy).resolve_right fun z => q z.1;refine ⟨pw_snoc.2 ⟨h.srt,fun y hy => hl y (hz y hy)⟩,fun y => ?_⟩;rw [List.mem_append,List.mem_singleton,hm];exact ⟨fun z => z.elim (fun z => .inl (z.resolve_right fun z => q z.1)) .inr,fun z => z.elim (fun z => .inl (.inl z)) .inr⟩
end
end Go.Proofs.YtnklbepeoicgpaaGreat
namespace Go.Proofs.YtnklbepeoicgpaaGreat
open Go.Wk Go.Proofs
set_option maxHeartbeats 8000000
theorem worth_bump {W U : Int → Int} {E : Int} {i : Nat} {g : Nat → Int} (hU : ∀ x : Int,0 ≤ x → U x = W x + if x = (i : Int) then E else 0) : ∀ n,worthW U g n = worthW W g n + E * cntN g (i : Int) n
 | 0 => by show (0 : Int) = 0 + E * 0;omega
 | n + 1 => by
   have ih := worth_bump (g := g) hU n
   show worthW U g n + (if 0 ≤ g n then U (g n) else 0) = worthW W g n + (if 0 ≤ g n then W (g n) else 0) + E * (cntN g (i : Int) n + if g n = (i : Int) then 1 else 0)
   rw [ih,Int.mul_add]
   by_cases h0 : 0 ≤ g n
   ·rw [if_pos h0,if_pos h0,hU _ h0]
    by_cases e : g n = (i : Int)
    ·rw [if_pos e,if_pos e,Int.mul_one];omega
    ·rw [if_neg e,if_neg e,Int.mul_zero];omega
   ·rw [if_neg h0,if_neg h0,if_neg (by omega),Int.mul_zero];omega
def withT (t : Tr) (i : Nat) (lo hi : Int) : Tr := ⟨t.n,t.cl,withF t.fl i lo hi⟩
theorem withT_get {t : Tr} {i : Nat} {lo hi : Int} (h : i < t.fl.length) (j : Nat) (hj : j < t.fl.length) : (withT t i lo hi).fl[j]? = some (if i = j then ⟨t.fl[i].id,lo,hi,t.fl[i].m % 1048576 + 1048576⟩ else t.fl[j]) := by
 unfold withT;rw [withF_at h,List.getElem?_set]
 by_cases e : i = j
 ·subst e;rw [if_pos rfl,if_pos hj,if_pos rfl]
 ·rw [if_neg e,if_neg e,List.getElem?_eq_getElem hj]
theorem withT_N {t : Tr} {i : Nat} {lo hi : Int} (h : i < t.fl.length) (j : Nat) (hj : j < t.fl.length) : (withT t i lo hi).N (j : Int) = if i = j then openN t.cl lo hi else t.N (j : Int) := by
 rw [trN_at hj]
 show (match (withT t i lo hi).fl[(j : Int).toNat]? with | some f => openN t.cl f.lo f.hi | none => []) = _
 rw [Int.toNat_natCast,withT_get h j hj]
 by_cases e : i = j
 ·rw [if_pos e,if_pos e]
 ·rw [if_neg e,if_neg e]
theorem withT_m {t : Tr} {i : Nat} {lo hi : Int} (h : i < t.fl.length) (hm : 0 ≤ t.fl[i].m ∧ t.fl[i].m < 1048576) (x : Int) (h0 : 0 ≤ x) : mAt (withT t i lo hi).fl x = mAt t.fl x + if x = (i : Int) then 1048576 else 0 := by
 obtain ⟨j,rfl⟩ := Int.eq_ofNat_of_zero_le h0;unfold mAt;rw [Int.toNat_natCast]
 by_cases hj : j < t.fl.length
 ·rw [withT_get h j hj,List.getElem?_eq_getElem hj]
  by_cases e : i = j
  ·subst e;rw [if_pos rfl,if_pos rfl]
   show t.fl[i].m % 1048576 + 1048576 = t.fl[i].m + 1048576
   omega
  ·rw [if_neg e,if_neg (by omega)]
   show t.fl[j].m = t.fl[j].m + 0
   omega
 ·rw [List.getElem?_eq_none (show (withT t i lo hi).fl.length ≤ j by unfold withT;rw [withF_len];omega),List.getElem?_eq_none (by omega),if_neg (by omega)];rfl
theorem withT_opt {t : Tr} {n i : Nat} {lo hi : Int} (h : OptT t n) (hi' : i < t.fl.length) (hs : 0 ≤ lo ∧ hi < n) : OptT (withT t i lo hi) n := by
 have key : ∀ f ∈ (withT t i lo hi).fl,f ∈ t.fl ∨ f = ⟨t.fl[i].id,lo,hi,t.fl[i].m % 1048576 + 1048576⟩ := fun f hf => by
  unfold withT at hf;rw [withF_at hi'] at hf;exact List.mem_or_eq_of_mem_set hf
 refine ⟨fun f hf => ?_,fun f hf => ?_⟩
 ·rcases key f hf with q | rfl
  ·exact h.sp f q
  ·exact hs
 ·rcases key f hf with q | rfl
  ·exact h.mr f q
  ·show 0 ≤ t.fl[i].m % 1048576 + 1048576
   omega
theorem with_iff {t : Tr} {n i : Nat} {lo hi : Int} (h : OptT t n) (hi' : i < t.fl.length) (hs : t.fl[i].lo ≤ lo ∧ hi ≤ t.fl[i].hi) (hm : t.fl[i].m < 1048576) :
  meritF (withT t i lo hi) n = meritF t n + 1048576 ↔ ∃ g,BestP t n g ∧ ∃ d : Nat,d < n ∧ g d = (i : Int) ∧ lo ≤ (d : Int) ∧ (d : Int) ≤ hi := by
 have hsp := h.sp _ (List.getElem_mem hi');have hmr := h.mr _ (List.getElem_mem hi');have lw : (withT t i lo hi).fl.length = t.fl.length := withF_len;have o1 := meritF_opt h;have o2 := meritF_opt (withT_opt h hi' (lo := lo) (hi := hi) ⟨by omega,by omega⟩);rw [lw] at o2;have bump := fun g => worth_bump (g := g) (E := 1048576) (withT_m (lo := lo) (hi := hi) hi' ⟨hmr,hm⟩) n
 have down : ∀ g,OkP (withT t i lo hi).N n t.fl.length g → OkP t.N n t.fl.length g := fun g hg => hg.sub fun d hd h0 hmem => by
  obtain ⟨j,e,hj⟩ := hg.at' h0;rw [e] at hmem ⊢;rw [withT_N hi' j hj] at hmem
  by_cases q : i = j
  ·subst q;rw [if_pos rfl,openN_in (by omega)] at hmem;rw [trN_at hi',openN_in hsp.1];exact ⟨by omega,by omega,hmem.2.2⟩
  ·rwa [if_neg q] at hmem
 constructor
 ·intro e;obtain ⟨g,hg,hw⟩ := o2.ex;have hg1 := down g hg;have hb := bump g;have h1 := hg.one i;have h2 := cntN_pos (h := g) (j := (i : Int)) (n := n);have h3 := o1.le g hg1
  have hc : cntN g (i : Int) n = 1 := by
   rcases (show cntN g (i : Int) n = 0 ∨ cntN g (i : Int) n = 1 by omega) with q | q
   ·rw [q] at hb;omega
   ·exact q
  rw [hc] at hb;obtain ⟨d,hd,hgd⟩ := cntN_some (h := g) (j := (i : Int)) (n := n) (by omega);have hmem := hg.day d hd (by omega);rw [hgd,withT_N hi' i hi',if_pos rfl,openN_in (by omega)] at hmem;exact ⟨g,⟨hg1,by omega⟩,d,hd,hgd,hmem.1,hmem.2.1⟩
 ·rintro ⟨g,hb,d,hd,hgd,h1,h2⟩
  have hg2 : OkP (withT t i lo hi).N n t.fl.length g := hb.ok.sub fun e he h0 hmem => by
   obtain ⟨j,q,hj⟩ := hb.ok.at' h0;rw [q] at hmem ⊢;rw [withT_N hi' j hj]
   by_cases z : i = j
   ·subst z;rw [if_pos rfl,openN_in (by omega)];have : e = d := hb.ok.inj he hd h0 (by rw [q,hgd]);subst this;rw [trN_at hi',openN_in hsp.1] at hmem;exact ⟨h1,h2,hmem.2.2⟩
   ·rwa [if_neg z]
  have hle := o2.le g hg2;have hbg := bump g;have hc1 := cntN_ge hd hgd;have hc2 := hb.ok.one i;rw [show cntN g (i : Int) n = 1 by omega] at hbg;obtain ⟨k,hk,hkw⟩ := o2.ex;have hbk := bump k;have h3 := o1.le k (down k hk);have hk1 := hk.one i;have hbw := hb.w;have : (1048576 : Int) * cntN k (i : Int) n ≤ 1048576 := by omega
  omega
theorem with_some {t : Tr} {n i : Nat} (h : OptT t n) (hi' : i < t.fl.length) (hm : t.fl[i].m < 1048576) :
  meritF (withT t i t.fl[i].lo t.fl[i].hi) n = meritF t n + 1048576 ↔ 0 < (daysL t n i).length := by
 rw [with_iff h hi' ⟨Int.le_refl _,Int.le_refl _⟩ hm,some_iff h hi']
 constructor
 ·rintro ⟨g,hg,d,hd,e,-⟩;exact ⟨g,hg,fun q => cntN_zero q d hd e⟩
 ·rintro ⟨g,hg,q⟩;obtain ⟨d,hd,e⟩ := cntN_some q;have hmem := hg.ok.day d hd (by omega);rw [e,trN_at hi',openN_in (h.sp _ (List.getElem_mem hi')).1] at hmem;exact ⟨g,hg,d,hd,e,hmem.1,hmem.2.1⟩
theorem with_day {t : Tr} {n i d : Nat} (h : OptT t n) (hi' : i < t.fl.length) (hm : t.fl[i].m < 1048576) (hd : d ∈ t.N (i : Int)) :
  meritF (withT t i (d : Int) (d : Int)) n = meritF t n + 1048576 ↔ ((d : Nat) : Int) ∈ daysL t n i := by
 have hd2 := hd;rw [trN_at hi',openN_in (h.sp _ (List.getElem_mem hi')).1] at hd2;rw [with_iff h hi' ⟨hd2.1,hd2.2.1⟩ hm,daysL_mem h hi']
 constructor
 ·rintro ⟨g,hg,e,-,h1,h2,h3⟩;obtain rfl : e = d := by omega
  exact ⟨e,rfl,hd,g,hg,h1⟩
 ·rintro ⟨e,e1,-,g,hg,h1⟩;obtain rfl : d = e := by omega
  exact ⟨g,hg,d,trN_lt h.span _ _ hd,h1,Int.le_refl _,Int.le_refl _⟩
theorem less_keep {fl : List Fl} {i : Nat} (hi : i < fl.length) (hu : ∀ j (hj : j < fl.length),fl[j].id = fl[i].id → j = i) : ∀ k,k ≤ fl.length → keepN [(i : Int)] fl k = lessF [fl[i].id] (fl.take k)
 | 0,_ => rfl
 | k + 1,hk => by
   have ih := less_keep hi hu k (by omega)
   by_cases e : k = i
   ·subst e;rw [keepN_in (List.mem_singleton.2 rfl),lessF_in (by omega) (List.mem_singleton.2 rfl),ih]
   ·rw [keepN_out (fun h => by have := List.mem_singleton.1 h;omega) (by omega),lessF_out (by omega) (fun h => e (hu k (by omega) (List.mem_singleton.1 h))),ih]
theorem less_without {t : Tr} (hg : GoodT t) {i : Nat} (hi : i < t.fl.length) : lessF [t.fl[i].id] t.fl = (withoutT t [(i : Int)]).fl := by
 have q := less_keep hi (fun j hj e => by
  have h1 := posF_at hg.ids hi;have h2 := posF_at hg.ids hj
  rw [e] at h2;omega) t.fl.length (Nat.le_refl _)
 rw [List.take_length] at q;exact q.symm
end Go.Proofs.YtnklbepeoicgpaaGreat
