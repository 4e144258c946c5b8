/- What a line of a sheet is on each day, and the days on which a word can be copied (plain law). Tours, flaws, and the search that gives a flaw a day (plain model). Lists in memory: what is read, and what is our own. The earliest and the latest days of a copy (plain law). Lists in memory: what is read, and what is our own. Rows of our own that grow between the rounds of a range; a store into a row of our own. Rows of numbers: lists, functions; lists that are made. Tours in memory. A sheet and a copy, and how they lie in memory; what Check says. The words that a line reads on a day (plain law). s -/
import Derived.Test.YtnklbepeoicgpaaGreatProg
import Derived.Test.YtnklbepeoicgpaaGreatAw1
import Derived.Laws.EntriesVeiled
import Derived.Lib.SliceRun
import Derived.RangeFuncBox
import Derived.Laws.MakeOwn
import Derived.Laws.OwnMore
import Derived.Lib.Tables
import Derived.Laws.CopyOwn
import Derived.Lib.AppendZerosOnto
set_option linter.all false
namespace Go.Proofs.YtnklbepeoicgpaaGreat.St
structure Alt where
 id : Int
 kind : Int
 day : Int
 frm : Int
 tu : Int
 word : Int
instance : Inhabited Alt := ⟨⟨0,0,0,0,0,0⟩⟩
structure Sh where
 words : List Int
 alts : List Alt
def Sh.n (s : Sh) : Nat := s.words.length
def Sh.W (s : Sh) (i : Nat) : Int := s.words[i]?.getD 0
abbrev Face := Int × Int × Bool
def aft (f : Face) (a : Alt) : Face :=
 if f.2.2 = true then f else if a.kind = 1 then (0,f.2.1,f.2.2) else if a.kind = 2 then (0,0,true) else if a.kind = 3 then (f.1,a.word,f.2.2) else if a.kind = 4 then (a.word,0,f.2.2) else f
def nxt (i : Int) (f : Face) (a : Alt) : Face := if a.frm ≤ i ∧ i ≤ a.tu then aft f a else f
def facesL (i : Int) : List Alt → Face → Int → List (Int × Int × Face)
 | [],f,d => [(d,730,f)]
 | a :: l,f,d => if nxt i f a = f then facesL i l f d else if d < a.day then (d,a.day - 1,f) :: facesL i l (nxt i f a) a.day else facesL i l (nxt i f a) a.day
def rds (f : Face) (w : Int) : Bool := if w = 0 then decide (f.1 = 0 ∧ f.2.1 = 0) else decide (f.1 = w ∨ f.2.1 = w)
def addS (out : List (Int × Int)) (lo hi : Int) : List (Int × Int) :=
 match out.getLast? with
 | some s => if s.2 + 1 = lo then out.dropLast ++ [(s.1,hi)] else out ++ [(lo,hi)]
 | none => [(lo,hi)]
def whenF (w : Int) (l : List (Int × Int × Face)) (out : List (Int × Int)) : List (Int × Int) := l.foldl (fun out x => if rds x.2.2 w = true then addS out x.1 x.2.1 else out) out
def Sh.faces (s : Sh) (i : Nat) : List (Int × Int × Face) := facesL i s.alts (s.W i,0,false) 0
def Sh.whenL (s : Sh) (i : Nat) (w : Int) : List (Int × Int) := whenF w (s.faces i) []
def onF (i : Int) (d : Int) (l : List Alt) (f : Face) : Face := l.foldl (fun f a => if a.day ≤ d then nxt i f a else f) f
def Sh.on (s : Sh) (i : Nat) (d : Int) : Face := onF i d s.alts (s.W i,0,false)
def Sh.can (s : Sh) (i : Nat) (d w : Int) : Bool := rds (s.on i d) w
def daysL (lo hi : Int) : List Int := (List.range (hi + 1 - lo).toNat).map fun k => lo + (k : Nat)
theorem daysL_nil {lo hi : Int} (h : hi < lo) : daysL lo hi = [] := by
 unfold daysL;rw [show (hi + 1 - lo).toNat = 0 by omega];rfl
theorem daysL_cons {lo hi : Int} (h : lo ≤ hi) : daysL lo hi = lo :: daysL (lo + 1) hi := by
 unfold daysL;rw [show (hi + 1 - lo).toNat = (hi + 1 - (lo + 1)).toNat + 1 by omega,List.range_succ_eq_map,List.map_cons,List.map_map]
 congr 1
 ·simp
 ·apply List.map_congr_left;intro k _;simp only [Function.comp_apply];push_cast;omega
theorem daysL_snoc {lo hi : Int} (h : lo ≤ hi) : daysL lo hi = daysL lo (hi - 1) ++ [hi] := by
 unfold daysL;rw [show (hi + 1 - lo).toNat = (hi - 1 + 1 - lo).toNat + 1 by omega,List.range_succ,List.map_append]
 congr 1
 simp;omega
theorem daysL_append {lo mid hi : Int} (h1 : lo ≤ mid + 1) (h2 : mid ≤ hi) : daysL lo hi = daysL lo mid ++ daysL (mid + 1) hi := by
 unfold daysL;rw [show (hi + 1 - lo).toNat = (mid + 1 - lo).toNat + (hi + 1 - (mid + 1)).toNat by omega,List.range_add,List.map_append,List.map_map]
 congr 1
 apply List.map_congr_left;intro k _;simp only [Function.comp_apply];push_cast;omega
theorem mem_daysL {lo hi d : Int} : d ∈ daysL lo hi ↔ lo ≤ d ∧ d ≤ hi := by
 unfold daysL;rw [List.mem_map]
 constructor
 ·rintro ⟨k,hk,rfl⟩;rw [List.mem_range] at hk;omega
 ·rintro ⟨h1,h2⟩;exact ⟨(d - lo).toNat,by rw [List.mem_range];omega,by omega⟩
def SortA : Int → List Alt → Prop
 | _,[] => True
 | d,a :: l => d ≤ a.day ∧ a.day ≤ 730 ∧ SortA a.day l
theorem onF_before {i d : Int} : ∀ {l : List Alt} {f : Face} {e : Int},SortA e l → d < e → onF i d l f = f
 | [],_,_,_,_ => rfl
 | a :: l,f,e,hs,hd => by
   have h1 := hs.1;unfold onF;rw [List.foldl_cons,if_neg (by omega)];exact onF_before hs.2.2 (by omega)
theorem faces_days {i : Int} : ∀ {l : List Alt} {f : Face} {e : Int},SortA e l → e ≤ 730 →
  (facesL i l f e).flatMap (fun x => (daysL x.1 x.2.1).map fun d => (d,x.2.2)) = (daysL e 730).map fun d => (d,onF i d l f)
 | [],f,e,_,_ => by simp [facesL,onF]
 | a :: l,f,e,hs,he => by
   obtain ⟨h1,h2,h3⟩ := hs;have key : ∀ g d,a.day ≤ d → onF i d (a :: l) g = onF i d l (nxt i g a) := fun g d hd => by unfold onF;rw [List.foldl_cons,if_pos hd]
   have keyb : ∀ g d,d < a.day → onF i d (a :: l) g = g := fun g d hd => by
    unfold onF;rw [List.foldl_cons,if_neg (by omega)];exact onF_before h3 hd
   unfold facesL
   by_cases hn : nxt i f a = f
   ·rw [if_pos hn]
    have hs' : SortA e l := by
     cases l with
     | nil => trivial
     | cons b l => exact ⟨by have := h3.1;omega,h3.2⟩
    rw [faces_days hs' he];apply List.map_congr_left;intro d _
    by_cases hd : a.day ≤ d
    ·rw [key f d hd,hn]
    ·rw [keyb f d (by omega),onF_before h3 (by omega)]
   ·rw [if_neg hn]
    by_cases hd : e < a.day
    ·rw [if_pos hd,List.flatMap_cons,faces_days h3 h2]
     dsimp only
     rw [daysL_append (lo := e) (mid := a.day - 1) (hi := 730) (by omega) (by omega),List.map_append,show a.day - 1 + 1 = a.day by omega]
     congr 1
     ·apply List.map_congr_left;intro d hm;rw [mem_daysL] at hm;rw [keyb f d (by omega)]
     ·apply List.map_congr_left;intro d hm;rw [mem_daysL] at hm;rw [key f d hm.1]
    ·have he' : e = a.day := by omega
     rw [if_neg hd,faces_days h3 h2,he'];apply List.map_congr_left;intro d hm;rw [mem_daysL] at hm;rw [key f d hm.1]
theorem faces_le {i : Int} : ∀ {l : List Alt} {f : Face} {e : Int},SortA e l → e ≤ 730 → ∀ x ∈ facesL i l f e,e ≤ x.1 ∧ x.1 ≤ x.2.1 ∧ x.2.1 ≤ 730
 | [],f,e,_,he,x,hx => by simp [facesL] at hx;subst hx;exact ⟨Int.le_refl _,he,Int.le_refl _⟩
 | a :: l,f,e,hs,he,x,hx => by
   obtain ⟨h1,h2,h3⟩ := hs
   have hs' : SortA e l := by
    cases l with
    | nil => trivial
    | cons b l => exact ⟨by have := h3.1;omega,h3.2⟩
   unfold facesL at hx
   split at hx
   ·exact faces_le hs' he x hx
   ·split at hx
    ·rcases List.mem_cons.1 hx with rfl | hx
     ·exact ⟨Int.le_refl _,by dsimp only;omega,by dsimp only;omega⟩
     ·have := faces_le h3 h2 x hx;exact ⟨by omega,this.2⟩
    ·have := faces_le h3 h2 x hx;exact ⟨by omega,this.2⟩
def putS (out : List (Int × Int)) (d : Int) : List (Int × Int) := addS out d d
theorem addS_snoc (l : List (Int × Int)) (s : Int × Int) (lo hi : Int) : addS (l ++ [s]) lo hi = if s.2 + 1 = lo then l ++ [(s.1,hi)] else l ++ [s] ++ [(lo,hi)] := by
 unfold addS;simp
theorem addS_form (out : List (Int × Int)) (lo hi : Int) : ∃ l a,addS out lo hi = l ++ [(a,hi)] ∧ ∀ hi',addS out lo hi' = l ++ [(a,hi')] := by
 rcases List.eq_nil_or_concat out with rfl | ⟨l,s,rfl⟩
 ·exact ⟨[],lo,rfl,fun _ => rfl⟩
 ·simp only [List.concat_eq_append]
  by_cases h : s.2 + 1 = lo
  ·exact ⟨l,s.1,by rw [addS_snoc,if_pos h],fun _ => by rw [addS_snoc,if_pos h]⟩
  ·exact ⟨l ++ [s],lo,by rw [addS_snoc,if_neg h],fun _ => by rw [addS_snoc,if_neg h]⟩
theorem put_days : ∀ (n : Nat) (out : List (Int × Int)) (lo hi : Int),(hi - lo).toNat = n → lo ≤ hi → (daysL lo hi).foldl putS out = addS out lo hi
 | 0,out,lo,hi,hn,h => by
   obtain rfl : lo = hi := by omega
   rw [daysL_cons h,daysL_nil (by omega)];rfl
 | n + 1,out,lo,hi,hn,h => by
   rw [daysL_snoc h,List.foldl_append,put_days n out lo (hi - 1) (by omega) (by omega)];obtain ⟨l,a,h1,h2⟩ := addS_form out lo (hi - 1);rw [h1,h2 hi,List.foldl_cons,List.foldl_nil,putS,addS_snoc,if_pos (by dsimp only;omega)]
theorem when_days {w : Int} : ∀ (l : List (Int × Int × Face)) (out : List (Int × Int)),(∀ x ∈ l,x.1 ≤ x.2.1) →
  whenF w l out = (l.flatMap fun x => (daysL x.1 x.2.1).map fun d => (d,x.2.2)).foldl (fun out y => if rds y.2 w = true then putS out y.1 else out) out
 | [],_,_ => rfl
 | x :: l,out,h => by
   unfold whenF;rw [List.foldl_cons,List.flatMap_cons,List.foldl_append];have ih := when_days (w := w) l;unfold whenF at ih;rw [ih _ fun y hy => h y (List.mem_cons_of_mem _ hy)]
   congr 1
   rw [List.foldl_map]
   by_cases hr : rds x.2.2 w = true
   ·simp only [hr,if_true];exact (put_days _ out _ _ rfl (h x List.mem_cons_self)).symm
   ·simp only [hr,if_neg,Bool.false_eq_true,if_false]
    generalize daysL x.1 x.2.1 = q
    induction q with
    | nil => rfl
    | cons _ _ ih => exact ih
theorem Sh.whenL_days {s : Sh} (hs : SortA 0 s.alts) (i : Nat) (w : Int) : s.whenL i w = (daysL 0 730).foldl (fun out d => if s.can i d w = true then putS out d else out) [] := by
 unfold Sh.whenL Sh.faces;rw [when_days _ _ fun x hx => (faces_le hs (by decide) x hx).2.1,faces_days hs (by decide),List.foldl_map]
 rfl
def inside (l : List (Int × Int)) (d : Int) : Prop := ∃ x ∈ l,x.1 ≤ d ∧ d ≤ x.2
def SpansTo (hi : Int) (l : List (Int × Int)) : Prop := (∀ x ∈ l,x.1 ≤ x.2 ∧ x.2 ≤ hi) ∧ l.Pairwise fun x y => x.2 + 1 < y.1
theorem putS_spans {l : List (Int × Int)} {d : Int} (h : SpansTo (d - 1) l) : SpansTo d (putS l d) ∧ ∀ e,inside (putS l d) e ↔ inside l e ∨ e = d := by
 unfold putS
 rcases List.eq_nil_or_concat l with rfl | ⟨l,s,rfl⟩
 ·refine ⟨⟨by simp [addS],by simp [addS]⟩,fun e => ?_⟩;simp [inside,addS];omega
 ·simp only [List.concat_eq_append] at h ⊢;obtain ⟨h1,h2⟩ := h;rw [List.pairwise_append] at h2;have hs := h1 s (by simp);rw [addS_snoc]
  split
  ·rename_i hd
   refine ⟨⟨?_,?_⟩,fun e => ?_⟩
   ·intro x hx
    rcases List.mem_append.1 hx with hx | hx
    ·have := h1 x (by simp [hx]);omega
    ·simp at hx;subst hx;dsimp only;omega
   ·rw [List.pairwise_append];refine ⟨h2.1,by simp,fun x hx y hy => ?_⟩;simp at hy;subst hy;exact h2.2.2 x hx s (by simp)
   ·simp only [inside,List.mem_append,List.mem_singleton]
    constructor
    ·rintro ⟨x,hx | rfl,he⟩
     ·exact .inl ⟨x,.inl hx,he⟩
     ·dsimp only at he
      by_cases e' : e = d
      ·exact .inr e'
      ·exact .inl ⟨s,.inr rfl,by omega⟩
    ·rintro (⟨x,hx | rfl,he⟩ | rfl)
     ·exact ⟨x,.inl hx,he⟩
     ·exact ⟨_,.inr rfl,by dsimp only;omega⟩
     ·exact ⟨_,.inr rfl,by dsimp only;omega⟩
  ·rename_i hd
   refine ⟨⟨?_,?_⟩,fun e => ?_⟩
   ·intro x hx
    rcases List.mem_append.1 hx with hx | hx
    ·have := h1 x hx;omega
    ·simp at hx;subst hx;dsimp only;omega
   ·rw [List.pairwise_append];refine ⟨List.pairwise_append.2 h2,by simp,fun x hx y hy => ?_⟩;simp at hy;subst hy
    rcases List.mem_append.1 hx with hx | hx
    ·have := h2.2.2 x hx s (by simp)
     dsimp only;omega
    ·simp at hx;subst hx;dsimp only;omega
   ·simp only [inside,List.mem_append,List.mem_singleton]
    constructor
    ·rintro ⟨x,hx | rfl,he⟩
     ·exact .inl ⟨x,hx,he⟩
     ·dsimp only at he;exact .inr (by omega)
    ·rintro (⟨x,hx,he⟩ | rfl)
     ·exact ⟨x,.inl hx,he⟩
     ·exact ⟨_,.inr rfl,by dsimp only;omega⟩
theorem SpansTo.mono {a b : Int} {l : List (Int × Int)} (h : SpansTo a l) (hab : a ≤ b) : SpansTo b l := ⟨fun x hx => by have := h.1 x hx;omega,h.2⟩
theorem put_fold {p : Int → Bool} : ∀ (n : Nat) (lo hi : Int) ,(hi + 1 - lo).toNat = n → lo ≤ hi + 1 → SpansTo hi ((daysL lo hi).foldl (fun out d => if p d = true then putS out d else out) []) ∧
  ∀ e,inside ((daysL lo hi).foldl (fun out d => if p d = true then putS out d else out) []) e ↔ lo ≤ e ∧ e ≤ hi ∧ p e = true
 | 0,lo,hi,hn,h => by
   rw [daysL_nil (by omega)];refine ⟨⟨by simp,by simp⟩,fun e => ?_⟩;simp [inside];omega
 | n + 1,lo,hi,hn,h => by
   obtain ⟨h1,h2⟩ := put_fold (p := p) n lo (hi - 1) (by omega) (by omega);rw [daysL_snoc (by omega),List.foldl_append]
   generalize (daysL lo (hi - 1)).foldl (fun out d => if p d = true then putS out d else out) [] = q at h1 h2
   rw [List.foldl_cons,List.foldl_nil]
   by_cases hp : p hi = true
   ·rw [if_pos hp];obtain ⟨h3,h4⟩ := putS_spans h1;refine ⟨h3,fun e => ?_⟩;rw [h4,h2]
    constructor
    ·rintro (⟨a,b,c⟩ | rfl)
     ·exact ⟨a,by omega,c⟩
     ·exact ⟨by omega,Int.le_refl _,hp⟩
    ·rintro ⟨a,b,c⟩
     by_cases e' : e = hi
     ·exact .inr e'
     ·exact .inl ⟨a,by omega,c⟩
   ·rw [if_neg hp];refine ⟨h1.mono (by omega),fun e => ?_⟩;rw [h2]
    constructor
    ·rintro ⟨a,b,c⟩;exact ⟨a,by omega,c⟩
    ·rintro ⟨a,b,c⟩;refine ⟨a,?_,c⟩
     by_cases e' : e = hi
     ·subst e';exact absurd c hp
     ·omega
theorem Sh.when_spans {s : Sh} (hs : SortA 0 s.alts) (i : Nat) (w : Int) : SpansTo 730 (s.whenL i w) ∧ ∀ d,inside (s.whenL i w) d ↔ 0 ≤ d ∧ d ≤ 730 ∧ s.can i d w = true := by
 rw [Sh.whenL_days hs];exact put_fold (p := fun d => s.can i d w) _ 0 730 rfl (by decide)
end Go.Proofs.YtnklbepeoicgpaaGreat.St
namespace Go.Proofs.YtnklbepeoicgpaaGreat
structure Fl where
 id : Int
 lo : Int
 hi : Int
 m : Int
deriving DecidableEq
structure Tr where
 n : Int
 cl : List Int
 fl : List Fl
def openN (cl : List Int) (lo hi : Int) : List Nat := (List.range' lo.toNat (hi + 1 - lo).toNat).filter fun d : Nat => !decide ((d : Int) ∈ cl)
def Tr.N (t : Tr) (i : Int) : List Nat := match t.fl[i.toNat]? with | some f => openN t.cl f.lo f.hi | none => []
def updI (f : Nat → Int) (d : Nat) (x : Int) : Nat → Int := fun e => if e = d then x else f e
def markT (t : Nat → Bool) (d : Nat) : Nat → Bool := fun e => if e = d then true else t e
abbrev Gv := Bool × (Nat → Int) × (Nat → Bool)
def loopF (g : Int → (Nat → Int) → (Nat → Bool) → Gv) (i : Int) : List Nat → (Nat → Int) → (Nat → Bool) → Gv
 | [],h,t => (false,h,t)
 | d :: l,h,t => if t d = true then loopF g i l h t else
   if h d < 0 then (true,updI h d i,markT t d) else
   let r := g (h d) h (markT t d)
   if r.1 = true then (true,updI r.2.1 d i,r.2.2) else loopF g i l r.2.1 r.2.2
def giveF (N : Int → List Nat) : Nat → Int → (Nat → Int) → (Nat → Bool) → Gv
 | 0,_,h,t => (false,h,t)
 | f + 1,i,h,t => loopF (giveF N f) i (N i) h t
def untr (n : Nat) (t : Nat → Bool) : Nat := ((List.range n).filter fun d => !t d).length
theorem filter_lt {α : Type} {p q : α → Bool} {l : List α} (hs : ∀ x ∈ l,q x = true → p x = true) {x : α} (hx : x ∈ l) (h1 : p x = true) (h2 : q x = false) : (l.filter q).length < (l.filter p).length := by
 induction l with
 | nil => cases hx
 | cons y l ih =>
   have hle : ∀ (l : List α),(∀ x ∈ l,q x = true → p x = true) → (l.filter q).length ≤ (l.filter p).length := by
    intro l
    induction l with
    | nil => intro _;exact Nat.le_refl _
    | cons z l ih2 =>
      intro h;have := ih2 fun w hw => h w (List.mem_cons_of_mem _ hw);simp only [List.filter_cons]
      by_cases hq : q z = true
      ·rw [if_pos hq,if_pos (h z (List.mem_cons_self ..) hq)];simp only [List.length_cons];omega
      ·rw [if_neg hq];split <;> (try simp only [List.length_cons]) <;> omega
   simp only [List.filter_cons]
   rcases List.mem_cons.1 hx with rfl | hx
   ·rw [if_pos h1,if_neg (by rw [h2];decide)];have := hle l fun w hw => hs w (List.mem_cons_of_mem _ hw);simp only [List.length_cons];omega
   ·have := ih (fun w hw => hs w (List.mem_cons_of_mem _ hw)) hx
    by_cases hq : q y = true
    ·rw [if_pos hq,if_pos (hs y (List.mem_cons_self ..) hq)];simp only [List.length_cons];omega
    ·rw [if_neg hq];split <;> (try simp only [List.length_cons]) <;> omega
theorem untr_mark {n d : Nat} {t : Nat → Bool} (hd : d < n) (ht : t d = false) : untr n (markT t d) < untr n t := by
 unfold untr;refine filter_lt (x := d) (fun x _ hq => ?_) (List.mem_range.2 hd) (by rw [ht];rfl) (by unfold markT;rw [if_pos rfl];rfl);unfold markT at hq
 by_cases e : x = d
 ·rw [if_pos e] at hq;cases hq
 ·rw [if_neg e] at hq;exact hq
theorem untr_none (n : Nat) : untr n (fun _ => false) ≤ n := by
 unfold untr;have := List.length_filter_le (fun d => !(fun _ => false : Nat → Bool) d) (List.range n)
 rwa [List.length_range] at this
theorem loopF_mono {g : Int → (Nat → Int) → (Nat → Bool) → Gv} (hg : ∀ i h t d,t d = true → (g i h t).2.2 d = true) (i : Int) : ∀ (l : List Nat) h t d,t d = true → (loopF g i l h t).2.2 d = true
 | [],h,t,d,hd => hd
 | e :: l,h,t,d,hd => by
   unfold loopF;have hm : markT t e d = true := by unfold markT;split;rfl;exact hd
   split
   ·exact loopF_mono hg i l h t d hd
   ·split
    ·exact hm
    ·dsimp only
     split
     ·exact hg _ _ _ d hm
     ·exact loopF_mono hg i l _ _ d (hg _ _ _ d hm)
theorem giveF_mono {N : Int → List Nat} : ∀ f i h t d,t d = true → (giveF N f i h t).2.2 d = true
 | 0,_,_,_,_,hd => hd
 | f + 1,i,h,t,d,hd => loopF_mono (fun i h t d hd => giveF_mono f i h t d hd) i (N i) h t d hd
theorem untr_le {n : Nat} {t t2 : Nat → Bool} (h : ∀ d,t d = true → t2 d = true) : untr n t2 ≤ untr n t := by
 unfold untr
 generalize List.range n = l
 induction l with
 | nil => exact Nat.le_refl _
 | cons z l ih =>
   simp only [List.filter_cons]
   by_cases hq : t z = true
   ·rw [hq,h z hq];simpa using ih
   ·have hq : t z = false := by simpa using hq
    rw [hq];simp only [Bool.not_false,if_true]
    split <;> (try simp only [List.length_cons]) <;> omega
theorem loopF_vals {P : Int → Prop} {g : Int → (Nat → Int) → (Nat → Bool) → Gv} (hg : ∀ i h t,P i → (∀ d,P (h d)) → ∀ d,P ((g i h t).2.1 d)) {i : Int} (hi : P i) :
  ∀ (l : List Nat) h t,(∀ d,P (h d)) → ∀ d,P ((loopF g i l h t).2.1 d)
 | [],h,t,hh => hh
 | e :: l,h,t,hh => by
   unfold loopF;have hu : ∀ h' : Nat → Int,(∀ d,P (h' d)) → ∀ d,P (updI h' e i d) := fun h' q d => by unfold updI;split;exact hi;exact q d
   split
   ·exact loopF_vals hg hi l h t hh
   ·split
    ·exact hu h hh
    ·dsimp only
     split
     ·exact hu _ (hg _ _ _ (hh e) hh)
     ·exact loopF_vals hg hi l _ _ (hg _ _ _ (hh e) hh)
theorem giveF_vals {P : Int → Prop} {N : Int → List Nat} : ∀ f i h t,P i → (∀ d,P (h d)) → ∀ d,P ((giveF N f i h t).2.1 d)
 | 0,_,_,_,_,hh => hh
 | f + 1,i,h,t,hi,hh => loopF_vals (fun i h t hi hh => giveF_vals f i h t hi hh) hi (N i) h t hh
def addR (N : Int → List Nat) (n : Nat) (h : Nat → Int) (i : Int) : Gv := giveF N (n + 1) i h fun _ => false
def addF (N : Int → List Nat) (n : Nat) (h : Nat → Int) (i : Int) : Nat → Int := if (addR N n h i).1 = true then (addR N n h i).2.1 else h
def addB (N : Int → List Nat) (n : Nat) (h : Nat → Int) (i : Int) : Bool := (addR N n h i).1
def noPlan : Nat → Int := fun _ => -1
def planF (N : Int → List Nat) (n : Nat) (l : List Int) : Nat → Int := l.foldl (addF N n) noPlan
end Go.Proofs.YtnklbepeoicgpaaGreat
namespace Go.Proofs.YtnklbepeoicgpaaGreat
open Go.RowKit Go.Wk Go.Proofs
theorem drop_cons {α : Type} {l : List α} {k : Nat} (h : k < l.length) : l.drop k = l[k] :: l.drop (k + 1) := List.drop_eq_getElem_cons h
theorem take_snoc {α : Type} {l : List α} {k : Nat} (h : k < l.length) : l.take (k + 1) = l.take k ++ [l[k]] := by
 rw [List.take_add_one,List.getElem?_eq_getElem h];rfl
def gI (l : List Int) (i : Nat) : Int := l[i]?.getD 0
theorem gI_lt {l : List Int} {i : Nat} (h : i < l.length) : gI l i = l[i] := by unfold gI;rw [List.getElem?_eq_getElem h];rfl
theorem gI_mem {l : List Int} {i : Nat} (h : i < l.length) : gI l i ∈ l := by rw [gI_lt h];exact List.getElem_mem h
theorem mixed : Tryz.prog.follows .mixedOrders = true := by kernel_rfl
def IntsV (w : World) (B : Nat) (v : Value) (xs : List Int) : Prop :=
 ∃ (A : Option Addr) (c : Nat),v = .slice A xs.length c ∧ (xs ≠ [] → ∃ b o,A = some ⟨b,o,none⟩ ∧ b < B ∧ ∀ k (h : k < xs.length),w.cell? ⟨b,o + k,none⟩ = some (.int .i64 xs[k])) ∧ xs.length ≤ c
theorem IntsV.below {w w' : World} {B : Nat} {v : Value} {xs : List Int} (h : IntsV w B v xs) (hb : Below B w w') : IntsV w' B v xs := by
 obtain ⟨A,c,hv,hx,hcap⟩ := h
 exact ⟨A,c,hv,fun hne => by
  obtain ⟨b,o,hA,hlt,hc⟩ := hx hne
  exact ⟨b,o,hA,hlt,fun k hk => (hb.cell (p := ⟨b,o + k,none⟩) hlt).trans (hc k hk)⟩,hcap⟩
theorem IntsV.more {w : World} {B B' : Nat} {v : Value} {xs : List Int} (h : IntsV w B v xs) (hB : B ≤ B') : IntsV w B' v xs := by
 obtain ⟨A,c,hv,hx,hcap⟩ := h
 exact ⟨A,c,hv,fun hne => by
  obtain ⟨b,o,hA,hlt,hc⟩ := hx hne
  exact ⟨b,o,hA,by omega,hc⟩,hcap⟩
theorem IntsV.ext {w w' : World} {v : Value} {xs : List Int} (h : IntsV w w.heap.size v xs) (hE : Ext w w') : IntsV w' w'.heap.size v xs := (h.below hE).more hE.size
structure ElemT (P : Program) (t e : TypeId) (size : Nat) : Prop where
 ex : ∃ (i : TypeInfo) (z : Value),P.underlying t = some (.slice e) ∧ P.info? e = some i ∧ i.zero = some z ∧ i.size = size ∧ z.cells.size = size ∧ 0 < size ∧ i.bytes ≤ 1000
theorem app_run {P : Program} {t e : TypeId} {size : Nat} (T : ElemT P t e size) {w : World} {base : Nat} {v : Value} {n : Nat} {xs : List Value} (hown : w.ownsRow base e size v n xs)
  (a : Addr) (m c : Nat) (news : List Value) (ty : TypeId) (hl : news.length = m * size) (hnews : ∀ j u,news[j]? = some u → w.cell? (a.add j) = some u) (h1 : ∀ u ∈ news,u.oneCell' = true)
  (hn : n + m ≤ 10000000000) (hbase : base ≤ w.heap.size) :
  ∃ v' w',(Builtin.append_ #[t,t] ty #[v,.slice (some a) m c]).run P w = .ok v' w' ∧ w'.ownsRow base e size v' (n + m) (xs ++ news) ∧ w.grownBy w' v.ownBlock ∧
   (v' = .slice none 0 0 ↔ v = .slice none 0 0 ∧ m = 0) := by
 obtain ⟨i,z,h1',h2,h3,h4,h5,h6,h7⟩ := T.ex;exact run_append_own w base t ty e i z size i.bytes h1' h2 h3 h4 rfl h5 h6 v n xs hown a m c news hl hnews h1 (by unfold maxLen;omega) (Nat.le_trans (Nat.mul_le_mul hn h7) (by decide)) hbase
theorem Below.grown {n : Nat} {w0 w w' : World} {v : Value} {base e size k : Nat} {xs : List Value} (h : Below n w0 w) (ho : w.ownsRow base e size v k xs) (hg : w.grownBy w' v.ownBlock) (hb : n ≤ base) (hn : n ≤ w0.heap.size) : Below n w0 w' := by
 refine ⟨hg.os.trans h.os,hg.tape.trans h.tape,hg.output.trans h.output,Nat.le_trans h.size hg.size,fun i hi => ?_⟩;refine (hg.block i (Nat.lt_of_lt_of_le hi (Nat.le_trans hn h.size)) ?_).trans (h.block i hi);intro e;have := (ho.lt i e.symm).1;omega
def OwnI (w : World) (base : Nat) (v : Value) (xs : List Int) : Prop := w.ownsRow base 3 1 v xs.length (xs.map (Value.int .i64))
theorem OwnI.intsV {w : World} {base : Nat} {v : Value} {xs : List Int} (h : OwnI w base v xs) : IntsV w w.heap.size v xs := by
 rcases h.2 with ⟨rfl,hn⟩ | ⟨g,cap,cur,rfl,hb,hg,hnc,hcm,hcs,htake⟩
 ·have : xs = [] := List.eq_nil_of_length_eq_zero hn;subst this;exact ⟨none,0,rfl,fun h => absurd rfl h,Nat.le_refl _⟩
 ·refine ⟨_,cap,rfl,fun _ => ⟨g,0,rfl,(Array.getElem?_eq_some_iff.1 hg).1,fun k hk => ?_⟩,hnc⟩;have := World.ownsRow.cells h (g := g) rfl k (.int .i64 xs[k]) (by simp [hk]);rw [Addr.add_lit] at this;exact this
def elemB (P : Program) (t e : TypeId) (size : Nat) : Bool :=
 match P.underlying t,P.info? e with
 | some (.slice e'),some i => e' == e && i.size == size && decide (0 < size) && decide (i.bytes ≤ 1000) && (match i.zero with | some z => z.cells.size == size | none => false)
 | _,_ => false
theorem elemT_of {P : Program} {t e : TypeId} {size : Nat} (h : elemB P t e size = true) : ElemT P t e size := by
 unfold elemB at h
 split at h
 ·rename_i e' i h1 h2
  simp only [Bool.and_eq_true,beq_iff_eq,decide_eq_true_eq] at h;obtain ⟨⟨⟨⟨rfl,h4⟩,h5⟩,h6⟩,h7⟩ := h
  split at h7
  ·rename_i z hz
   exact ⟨i,z,h1,h2,hz,h4,by simpa using h7,h5,h6⟩
  ·cases h7
 ·cases h
theorem ints_T : ElemT Tryz.prog 22 3 1 := elemT_of (by kernel_rfl)
theorem own0 (w : World) (e : TypeId) (size : Nat) : (w.alloc (.cells #[] e)).ownsRow w.heap.size e size (.slice (some ⟨w.heap.size,0,none⟩) 0 0) 0 [] :=
 World.ownsRow_made w #[] 0 (Nat.le_refl _) (Nat.zero_le _) (by simp)
theorem news_of {w : World} {b o : Nat} {xs : List Int} (h : ∀ k (h : k < xs.length),w.cell? ⟨b,o + k,none⟩ = some (.int .i64 xs[k])) :
  ∀ j u,(xs.map (Value.int .i64))[j]? = some u → w.cell? ((⟨b,o,none⟩ : Addr).add j) = some u := by
 intro j u hu;rw [List.getElem?_map] at hu;obtain ⟨x,hx,rfl⟩ := Option.map_eq_some_iff.1 hu;obtain ⟨hj,rfl⟩ := List.getElem?_eq_some_iff.1 hx;rw [Addr.add_lit];exact h j hj
theorem one_ints {xs : List Int} : ∀ u ∈ xs.map (Value.int .i64),u.oneCell' = true := by
 intro u hu;obtain ⟨x,-,rfl⟩ := List.mem_map.1 hu
 rfl
section
variable {w w' : World} {base e size n : Nat} {v : Value} {xs : List Value}
theorem ownsRow_ext (h : w.ownsRow base e size v n xs) (hE : Ext w w') : w'.ownsRow base e size v n xs := by
 refine ⟨h.1,?_⟩
 rcases h.2 with hn | ⟨g,cap,cur,rfl,hb,hg,rest⟩
 ·exact .inl hn
 ·exact .inr ⟨g,cap,cur,rfl,hb,(Below.block hE g (Array.getElem?_eq_some_iff.1 hg).1).trans hg,rest⟩
theorem ownsRow_less {b2 : Nat} (h : w.ownsRow base e size v n xs) (hb : b2 ≤ base) : w.ownsRow b2 e size v n xs := by
 refine ⟨h.1,?_⟩
 rcases h.2 with hn | ⟨g,cap,cur,rfl,hb',hg,rest⟩
 ·exact .inl hn
 ·exact .inr ⟨g,cap,cur,rfl,Nat.le_trans hb hb',hg,rest⟩
theorem own_ne {b2 e2 s2 n2 : Nat} {v2 : Value} {xs2 : List Value} (h : w.ownsRow base e size v n xs) (h2 : w.ownsRow b2 e2 s2 v2 n2 xs2) (hne : e ≠ e2) : v.ownBlock = none ∨ v.ownBlock ≠ v2.ownBlock := by
 rcases h.2 with ⟨rfl,-⟩ | ⟨g,cap,cur,rfl,hb,hg,-⟩
 ·exact .inl rfl
 ·right
  rcases h2.2 with ⟨rfl,-⟩ | ⟨g2,cap2,cur2,rfl,hb2,hg2,-⟩
  ·simp [Value.ownBlock]
  ·intro he;simp only [Value.ownBlock,Option.some.injEq] at he;subst he;rw [hg] at hg2
   injection hg2 with hg2;injection hg2 with _ hg2
   exact hne hg2
theorem own_one (h : w.ownsRow base e size v n xs) : v.oneCell' = true := by
 rcases h.2 with ⟨rfl,-⟩ | ⟨g,cap,cur,rfl,-⟩ <;> rfl
end
theorem OwnI.ext {w w' : World} {base : Nat} {v : Value} {xs : List Int} (h : OwnI w base v xs) (hE : Ext w w') : OwnI w' base v xs := ownsRow_ext h hE
theorem OwnI.less {w : World} {base b2 : Nat} {v : Value} {xs : List Int} (h : OwnI w base v xs) (hb : b2 ≤ base) : OwnI w b2 v xs := ownsRow_less h hb
theorem OwnI.slice {w : World} {base : Nat} {v : Value} {xs : List Int} (h : OwnI w base v xs) : ∃ A c,v = .slice A xs.length c := by
 rcases h.2 with ⟨rfl,hn⟩ | ⟨g,cap,cur,rfl,-⟩
 ·exact ⟨none,0,by rw [hn]⟩
 ·exact ⟨_,_,rfl⟩
def OwnTab (w : World) (base : Nat) (v : Value) (t : List (List Int)) : Prop :=
 ∃ vs,w.ownsRow base 22 1 v t.length vs ∧ ∀ i (h : i < t.length),∃ u,vs[i]? = some u ∧ OwnI w base u t[i]
theorem OwnTab.ext {w w' : World} {base : Nat} {v : Value} {t : List (List Int)} (h : OwnTab w base v t) (hE : Ext w w') : OwnTab w' base v t := by
 obtain ⟨vs,h1,h2⟩ := h;exact ⟨vs,ownsRow_ext h1 hE,fun i hi => by obtain ⟨u,h3,h4⟩ := h2 i hi;exact ⟨u,h3,h4.ext hE⟩⟩
theorem OwnTab.less {w : World} {base b2 : Nat} {v : Value} {t : List (List Int)} (h : OwnTab w base v t) (hb : b2 ≤ base) : OwnTab w b2 v t := by
 obtain ⟨vs,h1,h2⟩ := h;exact ⟨vs,ownsRow_less h1 hb,fun i hi => by obtain ⟨u,h3,h4⟩ := h2 i hi;exact ⟨u,h3,h4.less hb⟩⟩
theorem news_one {w : World} {k : Nat} {u : Value} (h : w.cell? ⟨k,0,none⟩ = some u) : ∀ j x,[u][j]? = some x → w.cell? ((⟨k,0,none⟩ : Addr).add j) = some x := by
 intro j x hx
 cases j with
 | zero => simp at hx;subst hx;rw [Addr.add_lit];exact h
 | succ j => simp at hx
theorem one_one {u : Value} (h : u.oneCell' = true) : ∀ x ∈ [u],x.oneCell' = true := by
 intro x hx;rw [List.mem_singleton] at hx;subst hx;exact h
def encL (xs : List (Int × Int)) : List Value := xs.flatMap fun s => [.int .i64 s.1,.int .i64 s.2]
theorem encL_add (xs : List (Int × Int)) (s : Int × Int) : encL (xs ++ [s]) = encL xs ++ [.int .i64 s.1,.int .i64 s.2] := by simp [encL]
theorem ownsRow_shut {w w' : World} {m base e size n : Nat} {v : Value} {xs : List Value} (h : w.ownsRow base e size v n xs) (hS : Shut m w w') : w'.ownsRow base e size v n xs := by
 refine ⟨h.1,?_⟩
 rcases h.2 with hn | ⟨g,cap,cur,rfl,hb,hg,rest⟩
 ·exact .inl hn
 ·exact .inr ⟨g,cap,cur,rfl,hb,hS.heap hg,rest⟩
theorem ownsRow_adm {w w' : World} {m base e size n : Nat} {v : Value} {xs : List Value} (h : w.ownsRow base e size v n xs) (hS : Adm m w w') : w'.ownsRow base e size v n xs := by
 refine ⟨h.1,?_⟩
 rcases h.2 with hn | ⟨g,cap,cur,rfl,hb,hg,rest⟩
 ·exact .inl hn
 ·exact .inr ⟨g,cap,cur,rfl,hb,hS.heap hg,rest⟩
theorem OwnI.shut {w w' : World} {m base : Nat} {v : Value} {xs : List Int} (h : OwnI w base v xs) (hS : Shut m w w') : OwnI w' base v xs := ownsRow_shut h hS
theorem Boxed.adm {w w' : World} {m b : Nat} {t : TypeId} {v : Value} (h : Boxed w b t v) (hA : Adm m w w') : Boxed w' b t v := hA.heap h
theorem Boxed.shut {w w' : World} {m b : Nat} {t : TypeId} {v : Value} (h : Boxed w b t v) (hA : Shut m w w') : Boxed w' b t v := hA.heap h
theorem Boxed.ext {w w' : World} {b : Nat} {t : TypeId} {v : Value} (h : Boxed w b t v) (hE : Ext w w') : Boxed w' b t v := (hE.block b h.lt).trans h
theorem news_two {w : World} {k : Nat} {u v : Value} (h : w.cell? ⟨k,0,none⟩ = some u) (h2 : w.cell? ⟨k,1,none⟩ = some v) : ∀ j x,[u,v][j]? = some x → w.cell? ((⟨k,0,none⟩ : Addr).add j) = some x := by
 intro j x hx
 match j with
 | 0 => simp at hx;subst hx;rw [Addr.add_lit];exact h
 | 1 => simp at hx;subst hx;rw [Addr.add_lit];exact h2
 | j + 2 => simp at hx
end Go.Proofs.YtnklbepeoicgpaaGreat
namespace Go.Proofs.YtnklbepeoicgpaaGreat.St
def nextS (l : List (Int × Int)) (e day : Int) : Int :=
 match l.find? fun x => decide (day ≤ x.2) with
 | some x => if e < max x.1 day then 731 else max x.1 day
 | none => 731
def befS (l : List (Int × Int)) (b day : Int) : Int :=
 match l.reverse.find? fun x => decide (x.1 ≤ day) with
 | some x => if min x.2 day < b then -1 else min x.2 day
 | none => -1
def NextIs (p : Int → Prop) (e day r : Int) : Prop := (r ≠ 731 ∧ day ≤ r ∧ r ≤ e ∧ p r ∧ ∀ x,day ≤ x → x < r → ¬ p x) ∨ (r = 731 ∧ ∀ x,day ≤ x → x ≤ e → ¬ p x)
def BefIs (p : Int → Prop) (b day r : Int) : Prop := (r ≠ -1 ∧ b ≤ r ∧ r ≤ day ∧ p r ∧ ∀ x,r < x → x ≤ day → ¬ p x) ∨ (r = -1 ∧ ∀ x,b ≤ x → x ≤ day → ¬ p x)
theorem next_is : ∀ {l : List (Int × Int)} {hi e day : Int},SpansTo hi l → e ≤ 730 → NextIs (inside l) e day (nextS l e day)
 | [],hi,e,day,_,_ => .inr ⟨rfl,fun x _ _ ⟨y,hy,_⟩ => by cases hy⟩
 | s :: l,hi,e,day,h,he => by
   have hl : SpansTo hi l := ⟨fun x hx => h.1 x (List.mem_cons_of_mem _ hx),(List.pairwise_cons.1 h.2).2⟩;have ih := next_is (day := day) hl he;have hs := h.1 s List.mem_cons_self;have hb := (List.pairwise_cons.1 h.2).1;unfold nextS at ih ⊢
   by_cases hd : day ≤ s.2
   ·rw [List.find?_cons_of_pos (by simpa using hd)]
    dsimp only
    have hlo : ∀ x,day ≤ x → x < max s.1 day → ¬ inside (s :: l) x := by
     rintro x h1 h2 ⟨y,hy,h3,h4⟩
     rcases List.mem_cons.1 hy with rfl | hy
     ·omega
     ·have := hb y hy;omega
    split
    ·exact .inr ⟨rfl,fun x h1 h2 => hlo x h1 (by omega)⟩
    ·exact .inl ⟨by omega,by omega,by omega,⟨s,List.mem_cons_self,by omega,by omega⟩,hlo⟩
   ·rw [List.find?_cons_of_neg (by simpa using hd)]
    have key : ∀ x,day ≤ x → (inside (s :: l) x ↔ inside l x) := fun x hx => ⟨fun ⟨y,hy,h3⟩ => by
     rcases List.mem_cons.1 hy with rfl | hy
     ·omega
     ·exact ⟨y,hy,h3⟩,fun ⟨y,hy,h3⟩ => ⟨y,List.mem_cons_of_mem _ hy,h3⟩⟩
    rcases ih with ⟨h1,h2,h3,h4,h5⟩ | ⟨h1,h2⟩
    ·exact .inl ⟨h1,h2,h3,(key _ h2).2 h4,fun x a b hx => h5 x a b ((key x a).1 hx)⟩
    ·exact .inr ⟨h1,fun x a b hx => h2 x a b ((key x a).1 hx)⟩
theorem bef_is {l : List (Int × Int)} {hi b day : Int} (h : SpansTo hi l) (h0 : 0 ≤ b) : BefIs (inside l) b day (befS l b day) := by
 unfold befS;have hi' : ∀ x,inside l x ↔ ∃ y ∈ l.reverse,y.1 ≤ x ∧ x ≤ y.2 := fun x => by simp [inside]
 have hp : l.reverse.Pairwise fun x y => y.2 + 1 < x.1 := List.pairwise_reverse.2 h.2;have hq : ∀ x ∈ l.reverse,x.1 ≤ x.2 := fun x hx => (h.1 x (List.mem_reverse.1 hx)).1;unfold BefIs;simp only [hi']
 generalize l.reverse = q at hp hq
 clear hi' h
 induction q with
 | nil => exact .inr ⟨rfl,fun x _ _ ⟨y,hy,_⟩ => by cases hy⟩
 | cons s l ih =>
   have hs := hq s List.mem_cons_self;have hb := (List.pairwise_cons.1 hp).1
   by_cases hd : s.1 ≤ day
   ·rw [List.find?_cons_of_pos (by simpa using hd)]
    dsimp only
    have hlo : ∀ x,min s.2 day < x → x ≤ day → ¬ ∃ y ∈ s :: l,y.1 ≤ x ∧ x ≤ y.2 := by
     rintro x h1 h2 ⟨y,hy,h3,h4⟩
     rcases List.mem_cons.1 hy with rfl | hy
     ·omega
     ·have := hb y hy;omega
    split
    ·exact .inr ⟨rfl,fun x h1 h2 => hlo x (by omega) h2⟩
    ·exact .inl ⟨by omega,by omega,by omega,⟨s,List.mem_cons_self,by omega,by omega⟩,hlo⟩
   ·rw [List.find?_cons_of_neg (by simpa using hd)];have ih := ih (List.pairwise_cons.1 hp).2 fun x hx => hq x (List.mem_cons_of_mem _ hx)
    have key : ∀ x,x ≤ day → ((∃ y ∈ s :: l,y.1 ≤ x ∧ x ≤ y.2) ↔ ∃ y ∈ l,y.1 ≤ x ∧ x ≤ y.2) := fun x hx => ⟨fun ⟨y,hy,h3⟩ => by
     rcases List.mem_cons.1 hy with rfl | hy
     ·omega
     ·exact ⟨y,hy,h3⟩,fun ⟨y,hy,h3⟩ => ⟨y,List.mem_cons_of_mem _ hy,h3⟩⟩
    rcases ih with ⟨h1,h2,h3,h4,h5⟩ | ⟨h1,h2⟩
    ·exact .inl ⟨h1,h2,h3,(key _ h3).2 h4,fun x a b hx => h5 x a b ((key x b).1 hx)⟩
    ·exact .inr ⟨h1,fun x a b hx => h2 x a b ((key x b).1 hx)⟩
def fromD (b : Int) (p : Nat) (l : List Int) (i : Nat) : Int :=
 if p ≤ i then max (if 0 < i then max b (gI l (i - 1)) else b) (gI l (i - p) + 1) else (if 0 < i then max b (gI l (i - 1)) else b)
def firstGo (nx : Nat → Int → Int) (b : Int) (p : Nat) : Nat → List Int
 | 0 => []
 | k + 1 => if (firstGo nx b p k).getLast? = some 731 then firstGo nx b p k else firstGo nx b p k ++ [nx k (fromD b p (firstGo nx b p k) k)]
def toD (e : Int) (p : Nat) (l : List Int) : Int :=
 if p ≤ l.length then min (if 0 < l.length then min e (gI l 0) else e) (gI l (p - 1) - 1) else (if 0 < l.length then min e (gI l 0) else e)
def lastGo (bf : Nat → Int → Int) (e : Int) (p n : Nat) : Nat → List Int
 | 0 => []
 | k + 1 => bf (n - 1 - k) (toD e p (lastGo bf e p n k)) :: lastGo bf e p n k
def FitP (can : Nat → Int → Prop) (b e : Int) (p m : Nat) (ds : Nat → Int) : Prop :=
 ∀ i,i < m → b ≤ ds i ∧ ds i ≤ e ∧ can i (ds i) ∧ (0 < i → ds (i - 1) ≤ ds i) ∧ (p ≤ i → ds (i - p) < ds i)
theorem FitP.less {can : Nat → Int → Prop} {b e : Int} {p m k : Nat} {ds : Nat → Int} (h : FitP can b e p m ds) (hk : k ≤ m) : FitP can b e p k ds := fun i hi => h i (by omega)
theorem FitP.congr {can : Nat → Int → Prop} {b e : Int} {p m : Nat} {ds es : Nat → Int} (h : FitP can b e p m ds) (he : ∀ i,i < m → es i = ds i) : FitP can b e p m es := fun i hi => by
 obtain ⟨h1,h2,h3,h4,h5⟩ := h i hi;refine ⟨by rw [he i hi];exact h1,by rw [he i hi];exact h2,by rw [he i hi];exact h3,fun h0 => ?_,fun hp => ?_⟩
 ·rw [he i hi,he (i - 1) (by omega)];exact h4 h0
 ·by_cases h0 : p = 0
  ·subst h0;have := h5 hp;rw [Nat.sub_zero] at this;omega
  ·rw [he i hi,he (i - p) (by omega)];exact h5 hp
theorem fromD_le {can : Nat → Int → Prop} {b e : Int} {p m : Nat} {ds : Nat → Int} {l : List Int} (hp : 1 ≤ p) (h : FitP can b e p m ds) {i : Nat} (hi : i < m) (hl : ∀ j,j < i → gI l j ≤ ds j) : fromD b p l i ≤ ds i := by
 obtain ⟨h1,h2,h3,h4,h5⟩ := h i hi;unfold fromD
 split
 ·have a := h5 ‹_›;have b := hl (i - p) (by omega)
  split
  ·have c := h4 ‹_›;have d := hl (i - 1) (by omega);omega
  ·omega
 ·split
  ·have c := h4 ‹_›;have d := hl (i - 1) (by omega);omega
  ·omega
theorem fromD_ge {b : Int} {p i : Nat} {l : List Int} : b ≤ fromD b p l i ∧ (0 < i → gI l (i - 1) ≤ fromD b p l i) ∧ (p ≤ i → gI l (i - p) < fromD b p l i) := by
 unfold fromD;refine ⟨?_,fun h => ?_,fun h => ?_⟩
 ·split <;> split <;> omega
 ·rw [if_pos h];split <;> omega
 ·rw [if_pos h];omega
theorem gI_append {l : List Int} {x : Int} {i : Nat} (h : i < l.length) : gI (l ++ [x]) i = gI l i := by unfold gI;rw [List.getElem?_append_left h]
theorem gI_last {l : List Int} {x : Int} : gI (l ++ [x]) l.length = x := by unfold gI;simp
section
variable {can : Nat → Int → Prop} {nx bf : Nat → Int → Int} {b e : Int} {p : Nat}
theorem first_is (hp : 1 ≤ p) (he : e ≤ 730) : ∀ (n : Nat),(∀ i day,i < n → NextIs (can i) e day (nx i day)) →
  ((firstGo nx b p n).length = n ∧ (∀ x ∈ firstGo nx b p n,x ≠ 731) ∧ FitP can b e p n (gI (firstGo nx b p n)) ∧ ∀ ds,FitP can b e p n ds → ∀ i,i < n → gI (firstGo nx b p n) i ≤ ds i) ∨
  (∃ j,j < n ∧ firstGo nx b p n = firstGo nx b p j ++ [731] ∧ (firstGo nx b p j).length = j ∧ (∀ x ∈ firstGo nx b p j,x ≠ 731) ∧ ∀ ds,¬ FitP can b e p (j + 1) ds)
 | 0,_ => .inl ⟨rfl,by simp [firstGo],fun i hi => absurd hi (by omega),fun _ _ i hi => absurd hi (by omega)⟩
 | n + 1,hn => by
   have hnx := hn n
   rcases first_is hp he n (fun i day hi => hn i day (by omega)) with ⟨h1,h2,h3,h4⟩ | ⟨j,h1,h2,h3,h4,h5⟩
   ·have hne : (firstGo nx b p n).getLast? ≠ some 731 := fun h => h2 731 (List.mem_of_getLast? h) rfl;have hstep : firstGo nx b p (n + 1) = firstGo nx b p n ++ [nx n (fromD b p (firstGo nx b p n) n)] := by rw [firstGo,if_neg hne]
    have hg := fromD_ge (b := b) (p := p) (i := n) (l := firstGo nx b p n)
    rcases hnx (fromD b p (firstGo nx b p n) n) (by omega) with ⟨k1,k2,k3,k4,k5⟩ | ⟨k1,k2⟩
    ·refine .inl ⟨by rw [hstep,List.length_append,h1];rfl,fun x hx => ?_,fun i hi => ?_,fun ds hds i hi => ?_⟩
     ·rw [hstep] at hx
      rcases List.mem_append.1 hx with hx | hx
      ·exact h2 x hx
      ·rw [List.mem_singleton.1 hx];exact k1
     ·rw [hstep]
      by_cases h : i < n
      ·obtain ⟨q1,q2,q3,q4,q5⟩ := h3 i h;rw [gI_append (by omega)];refine ⟨q1,q2,q3,fun h0 => ?_,fun hpi => ?_⟩
       ·rw [gI_append (by omega)];exact q4 h0
       ·rw [gI_append (by omega)];exact q5 hpi
      ·obtain rfl : i = n := by omega
       have hl : gI (firstGo nx b p i ++ [nx i (fromD b p (firstGo nx b p i) i)]) i = nx i (fromD b p (firstGo nx b p i) i) := by
        have := gI_last (l := firstGo nx b p i) (x := nx i (fromD b p (firstGo nx b p i) i));rwa [h1] at this
       rw [hl];refine ⟨by omega,k3,k4,fun h0 => ?_,fun hpi => ?_⟩
       ·rw [gI_append (by omega)];have := hg.2.1 h0;omega
       ·rw [gI_append (by omega)];have := hg.2.2 hpi;omega
     ·rw [hstep]
      by_cases h : i < n
      ·rw [gI_append (by omega)];exact h4 ds (hds.less (by omega)) i h
      ·obtain rfl : i = n := by omega
       have hl : gI (firstGo nx b p i ++ [nx i (fromD b p (firstGo nx b p i) i)]) i = nx i (fromD b p (firstGo nx b p i) i) := by
        have := gI_last (l := firstGo nx b p i) (x := nx i (fromD b p (firstGo nx b p i) i));rwa [h1] at this
       rw [hl];have hle := fromD_le (l := firstGo nx b p i) hp hds hi fun j hj => h4 ds (hds.less (by omega)) j hj
       rcases Int.lt_or_le (ds i) (nx i (fromD b p (firstGo nx b p i) i)) with h | h
       ·exact absurd (hds i hi).2.2.1 (k5 _ hle h)
       ·exact h
    ·refine .inr ⟨n,by omega,by rw [hstep,k1],h1,h2,fun ds hds => ?_⟩;have hle := fromD_le (l := firstGo nx b p n) hp hds (Nat.lt_succ_self n) fun j hj => h4 ds (hds.less (by omega)) j hj;obtain ⟨q1,q2,q3,-⟩ := hds n (by omega);exact k2 _ hle q2 q3
   ·refine .inr ⟨j,by omega,?_,h3,h4,h5⟩;rw [firstGo,if_pos (by rw [h2];simp),h2]
theorem first_ok (hp : 1 ≤ p) (he : e ≤ 730) {n : Nat} (hnx : ∀ i day,i < n → NextIs (can i) e day (nx i day)) {ds : Nat → Int} (h : FitP can b e p n ds) :
  (firstGo nx b p n).length = n ∧ (∀ x ∈ firstGo nx b p n,x ≠ 731) ∧ FitP can b e p n (gI (firstGo nx b p n)) ∧ ∀ ds,FitP can b e p n ds → ∀ i,i < n → gI (firstGo nx b p n) i ≤ ds i := by
 rcases first_is hp he n hnx with h1 | ⟨j,h1,h2,h3,h4,h5⟩
 ·exact h1
 ·exact absurd (h.less (by omega)) (h5 ds)
theorem toD_ge {m n : Nat} {ds : Nat → Int} {l : List Int} (hp : 1 ≤ p) (h : FitP can b e p n ds) {i : Nat} (hi : i < n) (hm : l.length = n - 1 - i) (hl : ∀ j,j < l.length → ds (i + 1 + j) ≤ gI l j) : ds i ≤ toD e p l := by
 obtain ⟨h1,h2,h3,h4,h5⟩ := h i hi;unfold toD
 have a : p ≤ l.length → ds i < gI l (p - 1) := fun hpl => by
  have := (h (i + p) (by omega)).2.2.2.2 (by omega);rw [show i + p - p = i by omega] at this;have := hl (p - 1) (by omega);rw [show i + 1 + (p - 1) = i + p by omega] at this;omega
 have c : 0 < l.length → ds i ≤ gI l 0 := fun h0 => by
  have := (h (i + 1) (by omega)).2.2.2.1 (by omega);rw [show i + 1 - 1 = i by omega] at this;have := hl 0 h0;rw [Nat.add_zero] at this;omega
 split
 ·have := a ‹_›
  split
  ·have := c ‹_›;omega
  ·omega
 ·split
  ·have := c ‹_›;omega
  ·omega
theorem toD_le {l : List Int} : toD e p l ≤ e ∧ (0 < l.length → toD e p l ≤ gI l 0) ∧ (p ≤ l.length → toD e p l < gI l (p - 1)) := by
 unfold toD;refine ⟨?_,fun h => ?_,fun h => ?_⟩
 ·split <;> split <;> omega
 ·rw [if_pos h];split <;> omega
 ·rw [if_pos h];omega
theorem gI_cons {l : List Int} {x : Int} {i : Nat} : gI (x :: l) (i + 1) = gI l i := by unfold gI;rw [List.getElem?_cons_succ]
theorem last_is (hp : 1 ≤ p) (hb : 0 ≤ b) {n : Nat} (hbf : ∀ i day,i < n → BefIs (can i) b day (bf i day)) {ds0 : Nat → Int} (h0 : FitP can b e p n ds0) : ∀ k,k ≤ n →
  (lastGo bf e p n k).length = k ∧
  (∀ i,n - k ≤ i → i < n → b ≤ gI (lastGo bf e p n k) (i - (n - k)) ∧ gI (lastGo bf e p n k) (i - (n - k)) ≤ e ∧ can i (gI (lastGo bf e p n k) (i - (n - k))) ∧
   (n - k < i → gI (lastGo bf e p n k) (i - 1 - (n - k)) ≤ gI (lastGo bf e p n k) (i - (n - k))) ∧ (n - k + p ≤ i → gI (lastGo bf e p n k) (i - p - (n - k)) < gI (lastGo bf e p n k) (i - (n - k)))) ∧
  ∀ ds,FitP can b e p n ds → ∀ i,n - k ≤ i → i < n → ds i ≤ gI (lastGo bf e p n k) (i - (n - k))
 | 0,_ => ⟨rfl,fun i h1 h2 => absurd h1 (by omega),fun _ _ i h1 h2 => absurd h1 (by omega)⟩
 | k + 1,hk => by
   obtain ⟨h1,h2,h3⟩ := last_is hp hb hbf h0 k (by omega);have ht := toD_le (e := e) (p := p) (l := lastGo bf e p n k)
   have hge : ∀ ds,FitP can b e p n ds → ds (n - 1 - k) ≤ toD e p (lastGo bf e p n k) := fun ds hds => by
    refine toD_ge (m := 0) hp hds (i := n - 1 - k) (by omega) (by omega) fun j hj => ?_;have := h3 ds hds (n - k + j) (by omega) (by omega);rw [show n - k + j - (n - k) = j by omega] at this;rw [show n - 1 - k + 1 + j = n - k + j by omega];exact this
   have hx : ∃ x,lastGo bf e p n (k + 1) = x :: lastGo bf e p n k ∧ b ≤ x ∧ x ≤ toD e p (lastGo bf e p n k) ∧ can (n - 1 - k) x ∧ ∀ ds,FitP can b e p n ds → ds (n - 1 - k) ≤ x := by
    refine ⟨_,rfl,?_⟩
    rcases hbf (n - 1 - k) (toD e p (lastGo bf e p n k)) (by omega) with ⟨k1,k2,k3,k4,k5⟩ | ⟨k1,k2⟩
    ·refine ⟨k2,k3,k4,fun ds hds => ?_⟩
     rcases Int.lt_or_le (bf (n - 1 - k) (toD e p (lastGo bf e p n k))) (ds (n - 1 - k)) with h | h
     ·exact absurd (hds _ (by omega)).2.2.1 (k5 _ h (hge ds hds))
     ·exact h
    ·obtain ⟨q1,q2,q3,-⟩ := h0 (n - 1 - k) (by omega);exact absurd q3 (k2 _ q1 (hge ds0 h0))
   obtain ⟨x,hs,hx1,hx2,hx3,hx4⟩ := hx;rw [hs];have hsh : ∀ i,n - k ≤ i → i < n → i - (n - (k + 1)) = i - (n - k) + 1 := fun i a b => by omega
   refine ⟨by rw [List.length_cons,h1],fun i a c => ?_,fun ds hds i a c => ?_⟩
   ·by_cases hi : n - k ≤ i
    ·rw [hsh i hi c,gI_cons];obtain ⟨q1,q2,q3,q4,q5⟩ := h2 i hi c;refine ⟨q1,q2,q3,fun _ => ?_,fun _ => ?_⟩
     ·by_cases hj : n - k < i
      ·rw [show i - 1 - (n - (k + 1)) = i - 1 - (n - k) + 1 by omega,gI_cons];exact q4 hj
      ·obtain rfl : i = n - k := by omega
       rw [show n - k - 1 - (n - (k + 1)) = 0 by omega,show n - k - (n - k) = 0 by omega];have := ht.2.1 (by omega);have e0 : gI (x :: lastGo bf e p n k) 0 = x := rfl;rw [e0];omega
     ·by_cases hj : n - k + p ≤ i
      ·rw [show i - p - (n - (k + 1)) = i - p - (n - k) + 1 by omega,gI_cons];exact q5 hj
      ·have hip : i = n - (k + 1) + p := by omega
       rw [show i - p - (n - (k + 1)) = 0 by omega];have := ht.2.2 (by omega);have e0 : gI (x :: lastGo bf e p n k) 0 = x := rfl;rw [e0,show i - (n - k) = p - 1 by omega];omega
    ·obtain rfl : i = n - 1 - k := by omega
     rw [show n - 1 - k - (n - (k + 1)) = 0 by omega];have e0 : gI (x :: lastGo bf e p n k) 0 = x := rfl;rw [e0];exact ⟨hx1,by have := ht.1;omega,hx3,fun h => absurd h (by omega),fun h => absurd h (by omega)⟩
   ·by_cases hi : n - k ≤ i
    ·rw [hsh i hi c,gI_cons];exact h3 ds hds i hi c
    ·obtain rfl : i = n - 1 - k := by omega
     rw [show n - 1 - k - (n - (k + 1)) = 0 by omega];exact hx4 ds hds
theorem last_ok (hp : 1 ≤ p) (hb : 0 ≤ b) {n : Nat} (hbf : ∀ i day,i < n → BefIs (can i) b day (bf i day)) {ds0 : Nat → Int} (h0 : FitP can b e p n ds0) :
  (lastGo bf e p n n).length = n ∧ FitP can b e p n (gI (lastGo bf e p n n)) ∧ ∀ ds,FitP can b e p n ds → ∀ i,i < n → ds i ≤ gI (lastGo bf e p n n) i := by
 obtain ⟨h1,h2,h3⟩ := last_is hp hb hbf h0 n (Nat.le_refl n);simp only [Nat.sub_self,Nat.zero_le,Nat.sub_zero,true_implies,Nat.zero_add] at h2 h3;exact ⟨h1,fun i hi => h2 i hi,h3⟩
end
end Go.Proofs.YtnklbepeoicgpaaGreat.St
namespace Go.Proofs.YtnklbepeoicgpaaGreat
open Go.RowKit Go.Wk Go.Proofs
theorem app_run2 {P : Program} {t e : TypeId} {size : Nat} (T : ElemT P t e size) {w : World} {base : Nat} {v : Value} {n : Nat} {xs : List Value} (hown : w.ownsRow base e size v n xs)
  (a : Addr) (m c : Nat) (news : List Value) (ty : TypeId) (hl : news.length = m * size) (hnews : ∀ j u,news[j]? = some u → w.cell? (a.add j) = some u) (h1 : ∀ u ∈ news,u.oneCell' = true)
  (hn : n + m ≤ 10000000000) (hbase : base ≤ w.heap.size) :
  ∃ v' w',(Builtin.append_ #[t,t] ty #[v,.slice (some a) m c]).run P w = .ok v' w' ∧ w'.ownsRow base e size v' (n + m) (xs ++ news) ∧ w.grownBy w' v.ownBlock ∧
   (v'.ownBlock = v.ownBlock ∨ v'.ownBlock = some w.heap.size) := by
 obtain ⟨i,z,h1',h2,h3,h4,h5,h6,h7⟩ := T.ex;obtain ⟨v',w',hr,ho,hg,hnil⟩ := app_run T hown a m c news ty hl hnews h1 hn hbase;refine ⟨v',w',hr,ho,hg,?_⟩;have hb : (n + m) * i.bytes ≤ 140737488355328 := Nat.le_trans (Nat.mul_le_mul hn h7) (by decide)
 rcases hown.2 with ⟨rfl,rfl⟩ | ⟨g,cap,cur,rfl,hbg,hgc,hnc,hcm,hcs,htake⟩
 ·by_cases hm : m = 0
  ·subst hm;exact .inl (by rw [hnil.2 ⟨rfl,rfl⟩])
  ·have hx := run_append_nil (P := P) w t ty e i z h1' h2 h3 a m c news (by rw [h4];exact hl) hnews (by omega) (by omega) (by simp only [Nat.zero_add] at hb;omega);rw [hr] at hx
   injection hx with hx _
   right;rw [hx];rfl
 ·by_cases hroom : n + m ≤ cap
  ·have hfit : n * i.size + news.length ≤ cur.size := by rw [hl,hcs,h4,← Nat.add_mul];exact Nat.mul_le_mul_right _ hroom
   have hx := run_append_room (P := P) w t ty e i h1' h2 g n cap cur hgc a m c news (by rw [h4];exact hl) hnews h1 hroom hfit;rw [hr] at hx
   injection hx with hx _
   left;rw [hx];rfl
  ·have holds : ∀ j u,xs[j]? = some u → w.cell? ((⟨g,0,none⟩ : Addr).add j) = some u := hown.cells (g := g) rfl;have hx := run_append_grow (P := P) w t ty e i z h1' h2 h3 ⟨g,0,none⟩ n cap xs (by rw [h4];exact hown.1) holds a m c news (by rw [h4];exact hl) hnews (by omega) (by omega) (growslice_fits (by omega) hb);rw [hr] at hx
   injection hx with hx _
   right;rw [hx];rfl
structure OutG (w : World) (base g lo hi : Nat) (e : TypeId) (size : Nat) (v : Value) (n : Nat) (xs : List Value) : Prop where
 own : w.ownsRow base e size v n xs
 off : ∀ k,v.ownBlock = some k → k ≠ g ∧ (k < lo ∨ hi ≤ k)
theorem ownsRow_chg {w w' : World} {base e size n : Nat} {v : Value} {xs : List Value} {L : List Nat} (h : w.ownsRow base e size v n xs) (hC : Chg L w w') (hL : ∀ b,v.ownBlock = some b → b ∉ L) : w'.ownsRow base e size v n xs := by
 refine ⟨h.1,?_⟩
 rcases h.2 with hn | ⟨g,cap,cur,rfl,hb,hg,rest⟩
 ·exact .inl hn
 ·exact .inr ⟨g,cap,cur,rfl,hb,(hC.block g (Array.getElem?_eq_some_iff.1 hg).1 (hL g rfl)).trans hg,rest⟩
section
variable {w w' : World} {base g lo hi : Nat} {e : TypeId} {size n : Nat} {v : Value} {xs : List Value}
theorem OutG.lt (h : OutG w base g lo hi e size v n xs) : ∀ k,v.ownBlock = some k → base ≤ k ∧ k < w.heap.size ∧ k ≠ g ∧ (k < lo ∨ hi ≤ k) := fun k hk => ⟨(h.own.lt k hk).1,(h.own.lt k hk).2,h.off k hk⟩
theorem OutG.ext (h : OutG w base g lo hi e size v n xs) (hE : Ext w w') : OutG w' base g lo hi e size v n xs := ⟨ownsRow_ext h.own hE,h.off⟩
theorem OutG.adm {m : Nat} (h : OutG w base g lo hi e size v n xs) (hE : Adm m w w') : OutG w' base g lo hi e size v n xs := ⟨ownsRow_adm h.own hE,h.off⟩
theorem OutG.chg {L : List Nat} (h : OutG w base g lo hi e size v n xs) (hC : Chg L w w') (hL : ∀ b,base ≤ b ∧ b ≠ g ∧ (b < lo ∨ hi ≤ b) → b ∉ L) : OutG w' base g lo hi e size v n xs :=
 ⟨ownsRow_chg h.own hC fun b hb => hL b ⟨(h.own.lt b hb).1,h.off b hb⟩,h.off⟩
theorem OutG.put {b i : Nat} {vs : List Value} (h : OutG w base g lo hi e size v n xs) (p : Put w w' b i vs) (hb : b < base ∨ b = g ∨ lo ≤ b ∧ b < hi) : OutG w' base g lo hi e size v n xs :=
 h.chg p.chg fun k hk => by simp;omega
theorem OutG.free (h : OutG w base g lo hi e size v n xs) : OutG w base g 0 0 e size v n xs := ⟨h.own,fun k hk => ⟨(h.off k hk).1,.inr (Nat.zero_le _)⟩⟩
theorem OutG.below {l h' : Nat} (h : OutG w base g lo hi e size v n xs) (hl : w.heap.size ≤ l) : OutG w base g l h' e size v n xs := ⟨h.own,fun k hk => ⟨(h.off k hk).1,.inl (Nat.lt_of_lt_of_le (h.own.lt k hk).2 hl)⟩⟩
theorem OutG.lohi {a b l h' : Nat} (h : OutG w base g a b e size v n xs) (hl : ∀ k,v.ownBlock = some k → k < l) : OutG w base g l h' e size v n xs := ⟨h.own,fun k hk => ⟨(h.off k hk).1,.inl (hl k hk)⟩⟩
theorem OutG.nil (w : World) (base g lo hi : Nat) (e : TypeId) (size : Nat) : OutG w base g lo hi e size (.slice none 0 0) 0 [] := ⟨World.ownsRow_nil _ _ _ _,fun k hk => by cases hk⟩
theorem OutG.hi' {hi2 : Nat} (h : OutG w base g lo hi e size v n xs) (hw : w.heap.size ≤ lo) : OutG w base g lo hi2 e size v n xs := h.below hw
theorem OutG.app {P : Program} {t : TypeId} (T : ElemT P t e size) (h : OutG w base g lo hi e size v n xs)
  (a : Addr) (m c : Nat) (news : List Value) (ty : TypeId) (hl : news.length = m * size) (hnews : ∀ j u,news[j]? = some u → w.cell? (a.add j) = some u) (h1 : ∀ u ∈ news,u.oneCell' = true)
  (hn : n + m ≤ 10000000000) (hbase : base ≤ w.heap.size) (hg : g < w.heap.size) (hhi : hi ≤ w.heap.size) :
  ∃ v' w',(Builtin.append_ #[t,t] ty #[v,.slice (some a) m c]).run P w = .ok v' w' ∧ OutG w' base g lo hi e size v' (n + m) (xs ++ news) ∧ w.grownBy w' v.ownBlock := by
 obtain ⟨v',w',h1',h2,h3,h4⟩ := app_run2 T h.own a m c news ty hl hnews h1 hn hbase;refine ⟨v',w',h1',⟨h2,fun k hk => ?_⟩,h3⟩
 rcases h4 with h4 | h4
 ·exact h.off k (h4 ▸ hk)
 ·rw [h4] at hk;injection hk with hk;omega
end
theorem ownsRow_slice {w : World} {base e size n : Nat} {v : Value} {xs : List Value} (h : w.ownsRow base e size v n xs) : ∃ A c,v = .slice A n c := by
 rcases h.2 with ⟨rfl,rfl⟩ | ⟨g,cap,cur,rfl,-⟩
 ·exact ⟨none,0,rfl⟩
 ·exact ⟨_,_,rfl⟩
theorem q_off {row : Option Nat} {base T g lo hi b : Nat} (q : ∀ k,row = some k → base ≤ k ∧ k < T ∧ k ≠ g ∧ (k < lo ∨ hi ≤ k)) (h : b < base ∨ T ≤ b ∨ b = g ∨ lo ≤ b ∧ b < hi) : b ∉ row.toList := fun hm => by
 have := q b (by simpa using hm);omega
theorem q_ge {row : Option Nat} {base T g lo hi X : Nat} (q : ∀ k,row = some k → base ≤ k ∧ k < T ∧ k ≠ g ∧ (k < lo ∨ hi ≤ k)) (h : X ≤ base) : ∀ b ∈ row.toList,X ≤ b := fun b hm => by
 have := q b (by simpa using hm);omega
theorem q_gm {row : Option Nat} {base T g lo hi X : Nat} {L : List Nat} (q : ∀ k,row = some k → base ≤ k ∧ k < T ∧ k ≠ g ∧ (k < lo ∨ hi ≤ k)) (h : X ≤ base) : ∀ b ∈ row.toList,X ≤ b ∨ b ∈ L := fun b hm => .inl (q_ge q h b hm)
section
variable {A B C : World}
theorem keep_ext (h : KeepsOthers A B) (hE : Ext B C) : KeepsOthers A C := h.trans (KeepsOthers.of_ext hE)
theorem setL_others (b : Nat) : ∀ (vs : List Value) (w : World) (i k : Nat) (o : Obj),w.heap[k]? = some o → o.isCells = false → (setL w b i vs).heap[k]? = some o
 | [],_,_,_,_,h,_ => h
 | v :: vs,w,i,k,o,h,ho => by
   refine setL_others b vs _ (i + 1) k o ?_ ho;unfold World.setCell
   dsimp only
   rw [Array.getElem?_modify]
   split
   ·rename_i e
    rw [e,h]
    cases o <;> first | rfl | (simp [Obj.isCells] at ho)
   ·exact h
theorem keep_put {b i : Nat} {vs : List Value} (h : KeepsOthers A B) (p : Put B C b i vs) : KeepsOthers A C :=
 ⟨Nat.le_trans h.size p.chg.size,fun k o hk ho => by rw [p.eq];exact setL_others b vs B i k o (h.same k o hk ho) ho⟩
theorem keep_grown {base e size n : Nat} {v : Value} {xs : List Value} (h : KeepsOthers A B) (ho : B.ownsRow base e size v n xs) (hg : B.grownBy C v.ownBlock) : KeepsOthers A C :=
 ⟨Nat.le_trans h.size hg.size,fun k o hk hc => by
  have h1 := h.same k o hk hc;refine (hg.block k (Array.getElem?_eq_some_iff.1 h1).1 fun e => ?_).trans h1
  rcases ho.2 with ⟨rfl,-⟩ | ⟨g,cap,cur,rfl,-,hgc,-⟩
  ·cases e
  ·injection e with e
   replace e : g = k := e.symm;subst e
   rw [h1] at hgc;injection hgc with hgc;subst hgc;cases hc⟩
structure KeepR (A B : World) : Prop where
 k : KeepsOthers A B
theorem KeepR.ext (h : KeepR A B) (hE : Ext B C) : KeepR A C := ⟨keep_ext h.k hE⟩
theorem KeepR.put {b i : Nat} {vs : List Value} (h : KeepR A B) (p : Put B C b i vs) (_ : 0 = 0) : KeepR A C := ⟨keep_put h.k p⟩
theorem KeepR.grown {base e size n : Nat} {v : Value} {xs : List Value} (h : KeepR A B) (ho : B.ownsRow base e size v n xs) (hg : B.grownBy C v.ownBlock) : KeepR A C := ⟨keep_grown h.k ho hg⟩
end
theorem encI_add (xs : List Int) (x : Int) : (xs ++ [x]).map (Value.int .i64) = xs.map (Value.int .i64) ++ [.int .i64 x] := by simp
theorem take_one {α : Type} {l : List α} {k : Nat} {x : α} (h : l[k]? = some x) : l.take (k + 1) = l.take k ++ [x] := by rw [List.take_add_one,h];rfl
theorem OutG.ints {w : World} {base g lo hi : Nat} {v : Value} {l : List Int} (h : OutG w base g lo hi 3 1 v l.length (l.map (Value.int .i64))) : OwnI w base v l := h.own
theorem ownsRow_store {w V : World} {base e size n c b i : Nat} {xs vs : List Value} (h : w.ownsRow base e size (.slice (some ⟨b,0,none⟩) n c) n xs) (p : Put w V b i vs) (hl : i + vs.length ≤ n * size) :
  V.ownsRow base e size (.slice (some ⟨b,0,none⟩) n c) n (xs.take i ++ vs ++ xs.drop (i + vs.length)) := by
 obtain ⟨h1,h2⟩ := h;refine ⟨by simp;omega,?_⟩
 rcases h2 with ⟨h2,-⟩ | ⟨g,cap,cur,hv,hb,hg,hnc,hcm,hcs,htake⟩
 ·cases h2
 ·injection hv with e1 e2 e3
  injection e1 with e1;injection e1 with e1
  subst e1;subst e3;obtain ⟨cs',hV,hsz⟩ := p.row cur e hg;refine .inr ⟨b,c,cs',rfl,hb,hV,hnc,hcm,by rw [hsz,hcs],?_⟩;have cw : ∀ j,w.cell? ⟨b,j,none⟩ = cur[j]? := fun j => by simp [World.cell?,hg]
  have cV : ∀ j,V.cell? ⟨b,j,none⟩ = cs'[j]? := fun j => by simp [World.cell?,hV]
  have hx : ∀ j,j < n * size → xs[j]? = cur[j]? := fun j hj => by rw [← htake,List.getElem?_take,if_pos hj,Array.getElem?_toList]
  apply List.ext_getElem?;intro j;rw [List.getElem?_take]
  by_cases hj : j < n * size
  ·rw [if_pos hj,Array.getElem?_toList,← cV]
   by_cases ha : j < i
   ·rw [p.old j (.inl ha),cw,← hx j hj,List.append_assoc,List.getElem?_append_left (by simp;omega),List.getElem?_take,if_pos ha]
   ·by_cases hb2 : j < i + vs.length
    ·have := p.new (j - i) (vs[j - i]'(by omega)) (by rw [nthV_eq];exact List.getElem?_eq_getElem _);rw [show i + (j - i) = j by omega] at this;rw [this,List.append_assoc,List.getElem?_append_right (by simp;omega),List.getElem?_append_left (by simp;omega)];simp only [List.length_take];rw [show j - min i xs.length = j - i by omega,List.getElem?_eq_getElem]
    ·rw [p.old j (.inr (by omega)),cw,← hx j hj,List.getElem?_append_right (by simp;omega),List.getElem?_drop]
     congr 1
     simp;omega
  ·rw [if_neg hj,List.getElem?_eq_none];simp;omega
theorem OutG.store {w V : World} {base g lo hi e size n c b i : Nat} {xs vs : List Value} (h : OutG w base g lo hi e size (.slice (some ⟨b,0,none⟩) n c) n xs) (p : Put w V b i vs) (hl : i + vs.length ≤ n * size) :
  OutG V base g lo hi e size (.slice (some ⟨b,0,none⟩) n c) n (xs.take i ++ vs ++ xs.drop (i + vs.length)) := ⟨ownsRow_store h.own p hl,h.off⟩
theorem own_fz {w : World} {base e size n c b : Nat} {xs : List Value} (h : w.ownsRow base e size (.slice (some ⟨b,0,none⟩) n c) n xs) : ∀ j,w.frozen? ⟨b,j,none⟩ = false := by
 intro j
 rcases h.2 with ⟨h,-⟩ | ⟨g,cap,cur,hv,hb,hg,-⟩
 ·cases h
 ·injection hv with e1 e2 e3
  injection e1 with e1;injection e1 with e1
  subst e1;simp [World.frozen?,hg]
def RowI (W : World) (b : Nat) (xs : List Int) : Prop := ∃ t,W.heap[b]? = some (.cells (xs.map (Value.int .i64)).toArray t (0,0))
section
variable {W V : World} {b : Nat} {xs : List Int}
theorem RowI.lt (h : RowI W b xs) : b < W.heap.size := by obtain ⟨t,h⟩ := h;exact (Array.getElem?_eq_some_iff.1 h).1
theorem RowI.ext (h : RowI W b xs) (hE : Ext W V) : RowI V b xs := by obtain ⟨t,h⟩ := h;exact ⟨t,(Below.block hE b (Array.getElem?_eq_some_iff.1 h).1).trans h⟩
theorem RowI.adm {m : Nat} (h : RowI W b xs) (hE : Adm m W V) : RowI V b xs := by obtain ⟨t,h⟩ := h;exact ⟨t,hE.heap h⟩
theorem RowI.shut {m : Nat} (h : RowI W b xs) (hE : Shut m W V) : RowI V b xs := by obtain ⟨t,h⟩ := h;exact ⟨t,hE.heap h⟩
theorem RowI.chg {L : List Nat} (h : RowI W b xs) (hE : Chg L W V) (hL : b ∉ L) : RowI V b xs := by obtain ⟨t,h⟩ := h;exact ⟨t,(hE.block b (Array.getElem?_eq_some_iff.1 h).1 hL).trans h⟩
theorem RowI.put {k i : Nat} {vs : List Value} (h : RowI W b xs) (p : Put W V k i vs) (hb : b ≠ k) : RowI V b xs := h.chg p.chg (by simpa using hb)
theorem RowI.cell (h : RowI W b xs) {i : Nat} (hi : i < xs.length) : W.cell? ⟨b,i,none⟩ = some (.int .i64 xs[i]) := by
 obtain ⟨t,h⟩ := h;simp [World.cell?,h,hi]
theorem RowI.fz (h : RowI W b xs) : ∀ j,W.frozen? ⟨b,j,none⟩ = false := fun j => by
 obtain ⟨t,h⟩ := h;simp [World.frozen?,h]
theorem RowI.store {i : Nat} {x : Int} (h : RowI W b xs) (p : Put W V b i [.int .i64 x]) (hi : i < xs.length) : RowI V b (xs.set i x) := by
 obtain ⟨t,h⟩ := h;obtain ⟨cs',hV,hsz⟩ := p.row _ _ h;refine ⟨t,?_⟩;rw [hV]
 congr 2
 apply Array.ext_getElem?;intro j;have cV : V.cell? ⟨b,j,none⟩ = cs'[j]? := by simp [World.cell?,hV]
 have cW : W.cell? ⟨b,j,none⟩ = (xs.map (Value.int .i64))[j]? := by simp [World.cell?,h]
 rw [← cV]
 by_cases e : j = i
 ·subst e;have := p.new 0 _ rfl;rw [Nat.add_zero] at this;rw [this];simp [hi]
 ·rw [p.old j (by simp;omega),cW];simp only [List.getElem?_toArray,List.map_set];rw [List.getElem?_set_ne (by omega)]
theorem RowI.intsV (h : RowI W b xs) {n c : Nat} (hn : n ≤ xs.length) (hc : n ≤ c) : IntsV W W.heap.size (.slice (some ⟨b,0,none⟩) n c) (xs.take n) := by
 have hl : (xs.take n).length = n := by simp;omega
 refine ⟨_,c,by rw [hl],fun _ => ⟨b,0,rfl,h.lt,fun k hk => ?_⟩,by rw [hl];exact hc⟩;rw [hl] at hk;rw [Nat.zero_add,List.getElem_take];exact h.cell (by omega)
theorem RowI.all (h : RowI W b xs) {c : Nat} (hc : xs.length ≤ c) : IntsV W W.heap.size (.slice (some ⟨b,0,none⟩) xs.length c) xs := by
 have := h.intsV (n := xs.length) (Nat.le_refl _) hc
 rwa [List.take_length] at this
end
theorem make_one {P : Program} {t e : TypeId} {z : Value} (T : ElemT P t e 1) (hz : (P.info? e).bind (·.zero) = some z) (hc : z.cells = #[z]) (n : Nat) (hn : n ≤ 1000000000) (w : World) :
  (Instr.makeSlice t (.int .i64 (n : Int)) (.int .i64 (n : Int))).run P w = .ok (.slice (some ⟨w.heap.size,0,none⟩) n n) (w.alloc (.cells (List.replicate n z).toArray e)) := by
 obtain ⟨i,z',h1,h2,h3,h4,h5,h6,h7⟩ := T.ex;obtain rfl : z' = z := by rw [h2,Option.bind_some,h3] at hz;injection hz
 have hb : (i.bytes : Int) * (n : Int) ≤ 281474976710656 := by
  have : i.bytes * n ≤ 1000 * 1000000000 := Nat.mul_le_mul h7 hn;have h8 : ((i.bytes * n : Nat) : Int) ≤ ((1000 * 1000000000 : Nat) : Int) := Int.ofNat_le.2 this;rw [Int.natCast_mul] at h8;omega
 have h := run_make (P := P) w t e i z' h1 h2 h3 .i64 .i64 (n : Int) (n : Int) (by omega) (Int.le_refl _) hb (by omega);rw [h];simp only [Int.toNat_natCast,h4,Nat.mul_one,hc]
 congr 3
 apply Array.ext';rw [toList_madeCells_one]
@[go_sem] theorem makeI (n : Nat) (hn : n ≤ 1000000000) (w : World) : (Instr.makeSlice 22 (.int .i64 (n : Int)) (.int .i64 (n : Int))).run Tryz.prog w = .ok (.slice (some ⟨w.heap.size,0,none⟩) n n) (w.alloc (.cells (List.replicate n (.int .i64 0)).toArray 3)) :=
 make_one ints_T (by kernel_rfl) rfl n hn w
theorem RowI.made {W : World} {b n : Nat} (h : ∃ t,W.heap[b]? = some (.cells (List.replicate n (.int .i64 0)).toArray t (0,0))) : RowI W b (List.replicate n 0) := by
 obtain ⟨t,h⟩ := h;exact ⟨t,by rw [h,List.map_replicate]⟩
def IntsB (w : World) (base : Nat) (v : Value) (xs : List Int) : Prop :=
 ∃ (A : Option Addr) (c : Nat),v = .slice A xs.length c ∧ (xs ≠ [] → ∃ b o,A = some ⟨b,o,none⟩ ∧ base ≤ b ∧ b < w.heap.size ∧ ∀ k (h : k < xs.length),w.cell? ⟨b,o + k,none⟩ = some (.int .i64 xs[k])) ∧ xs.length ≤ c
section
variable {w w' : World} {base b2 : Nat} {v : Value} {xs : List Int}
theorem IntsB.chg {L : List Nat} (h : IntsB w base v xs) (hC : Chg L w w') (hL : ∀ b ∈ L,b < base) : IntsB w' base v xs := by
 obtain ⟨A,c,hv,hx,hcap⟩ := h
 exact ⟨A,c,hv,fun hne => by
  obtain ⟨b,o,hA,hb,hlt,hc⟩ := hx hne
  exact ⟨b,o,hA,hb,Nat.lt_of_lt_of_le hlt hC.size,fun k hk => Chg.cell hC (hc k hk) (fun hm => by have := hL b hm;omega)⟩,hcap⟩
theorem IntsB.ext (h : IntsB w base v xs) (hE : Ext w w') : IntsB w' base v xs := by
 obtain ⟨A,c,hv,hx,hcap⟩ := h
 exact ⟨A,c,hv,fun hne => by
  obtain ⟨b,o,hA,hb,hlt,hc⟩ := hx hne
  exact ⟨b,o,hA,hb,Nat.lt_of_lt_of_le hlt hE.size,fun k hk => hE.cell (hc k hk)⟩,hcap⟩
theorem IntsB.put {k i : Nat} {vs : List Value} (h : IntsB w base v xs) (p : Put w w' k i vs) (hb : k < base) : IntsB w' base v xs := h.chg p.chg (by simpa using hb)
theorem IntsB.less (h : IntsB w base v xs) (hb : b2 ≤ base) : IntsB w b2 v xs := by
 obtain ⟨A,c,hv,hx,hcap⟩ := h
 exact ⟨A,c,hv,fun hne => by
  obtain ⟨b,o,hA,hb,hlt,hc⟩ := hx hne
  exact ⟨b,o,hA,by omega,hlt,hc⟩,hcap⟩
theorem IntsB.ints (h : IntsB w base v xs) : IntsV w w.heap.size v xs := by
 obtain ⟨A,c,hv,hx,hcap⟩ := h
 exact ⟨A,c,hv,fun hne => by
  obtain ⟨b,o,hA,hb,hlt,hc⟩ := hx hne
  exact ⟨b,o,hA,hlt,hc⟩,hcap⟩
theorem IntsB.nil (w : World) (base : Nat) : IntsB w base (.slice none 0 0) [] := ⟨none,0,rfl,fun h => absurd rfl h,Nat.le_refl _⟩
theorem IntsB.slice (h : IntsB w base v xs) : ∃ A c,v = .slice A xs.length c := by obtain ⟨A,c,h,-⟩ := h;exact ⟨A,c,h⟩
theorem RowI.intsB {W : World} {b : Nat} (h : RowI W b xs) (hb : base ≤ b) {n c : Nat} (hn : n ≤ xs.length) (hc : n ≤ c) : IntsB W base (.slice (some ⟨b,0,none⟩) n c) (xs.take n) := by
 have hl : (xs.take n).length = n := by simp;omega
 refine ⟨_,c,by rw [hl],fun _ => ⟨b,0,rfl,hb,h.lt,fun k hk => ?_⟩,by rw [hl];exact hc⟩;rw [hl] at hk;rw [Nat.zero_add,List.getElem_take];exact h.cell (by omega)
theorem RowI.allB {W : World} {b n : Nat} (h : RowI W b xs) (hb : base ≤ b) (hn : xs.length = n) : IntsB W base (.slice (some ⟨b,0,none⟩) n n) xs := by
 have := h.intsB hb (n := n) (c := n) (by omega) (Nat.le_refl _)
 rwa [List.take_of_length_le (by omega)] at this
theorem OwnI.intsB (h : OwnI w base v xs) : IntsB w base v xs := by
 rcases h.2 with ⟨rfl,hn⟩ | ⟨g,cap,cur,rfl,hb,hg,hnc,hcm,hcs,htake⟩
 ·have : xs = [] := List.eq_nil_of_length_eq_zero hn;subst this;exact IntsB.nil _ _
 ·refine ⟨_,cap,rfl,fun _ => ⟨g,0,rfl,hb,(Array.getElem?_eq_some_iff.1 hg).1,fun k hk => ?_⟩,hnc⟩;have := World.ownsRow.cells h (g := g) rfl k (.int .i64 xs[k]) (by simp [hk]);rw [Addr.add_lit] at this;exact this
end
def updF (f : Nat → Int) (d : Nat) (x : Int) : Nat → Int := fun e => if e = d then x else f e
structure RowF (W : World) (b n : Nat) (f : Nat → Int) : Prop where
 c : ∀ d,d < n → W.cell? ⟨b,d,none⟩ = some (.int .i64 (f d))
 fz : ∀ j,W.frozen? ⟨b,j,none⟩ = false
 lt : b < W.heap.size
section
variable {W V : World} {b n : Nat} {f : Nat → Int}
theorem RowF.chg {L : List Nat} (h : RowF W b n f) (hC : Chg L W V) (hL : b ∉ L) : RowF V b n f :=
 ⟨fun d hd => Chg.cell hC (h.c d hd) hL,fun j => by rw [← h.fz j];simp only [World.frozen?,hC.block b h.lt hL],Nat.lt_of_lt_of_le h.lt hC.size⟩
theorem RowF.ext (h : RowF W b n f) (hE : Ext W V) : RowF V b n f := h.chg ((Chg.refl [] W).ext hE) (by simp)
theorem RowF.put {k i : Nat} {vs : List Value} (h : RowF W b n f) (p : Put W V k i vs) (hb : b ≠ k) : RowF V b n f := h.chg p.chg (by simpa using hb)
theorem RowF.store {d : Nat} {x : Int} (h : RowF W b n f) (p : Put W V b d [.int .i64 x]) : RowF V b n (updF f d x) := by
 refine ⟨fun e he => ?_,fun j => (p.fz _).trans (h.fz j),Nat.lt_of_lt_of_le h.lt p.same.2⟩;unfold updF
 by_cases e1 : e = d
 ·subst e1;rw [if_pos rfl];have := p.new 0 _ rfl;rwa [Nat.add_zero] at this
 ·rw [if_neg e1,p.old e (by simp;omega)];exact h.c e he
theorem RowF.congr {g : Nat → Int} (h : RowF W b n f) (hg : ∀ d,d < n → f d = g d) : RowF W b n g := ⟨fun d hd => by rw [h.c d hd,hg d hd],h.fz,h.lt⟩
theorem RowF.some {d : Nat} (h : RowF W b n f) (hd : d < n) {x : Value} : ∀ j,j < [x].length → (W.cell? ⟨b,d + j,none⟩).isSome = true := fun j hj => by
 obtain rfl : j = 0 := by simpa using hj
 rw [Nat.add_zero,h.c d hd];rfl
theorem RowI.rowF {xs : List Int} (h : RowI W b xs) : RowF W b xs.length (gI xs) := ⟨fun d hd => by rw [h.cell hd,gI_lt hd],h.fz,h.lt⟩
theorem RowI.rep {n : Nat} {x : Int} (h : RowI W b (List.replicate n x)) : RowF W b n (fun _ => x) := by
 have := h.rowF;rw [List.length_replicate] at this;exact this.congr fun d hd => by rw [gI_lt (by rw [List.length_replicate];exact hd)];exact List.getElem_replicate _
end
structure RowN (W : World) (b n : Nat) : Prop where
 c : ∀ j,j < n → (W.cell? ⟨b,j,none⟩).isSome = true
 fz : ∀ j,W.frozen? ⟨b,j,none⟩ = false
 lt : b < W.heap.size
section
variable {W V : World} {b n : Nat}
theorem RowN.chg {L : List Nat} (h : RowN W b n) (hC : Chg L W V) (hL : b ∉ L) : RowN V b n :=
 ⟨fun d hd => by obtain ⟨v,hv⟩ := Option.isSome_iff_exists.1 (h.c d hd);rw [Chg.cell hC hv hL];rfl,fun j => by rw [← h.fz j];simp only [World.frozen?,hC.block b h.lt hL],Nat.lt_of_lt_of_le h.lt hC.size⟩
theorem RowN.ext (h : RowN W b n) (hE : Ext W V) : RowN V b n := h.chg ((Chg.refl [] W).ext hE) (by simp)
theorem RowN.put {k i : Nat} {vs : List Value} (h : RowN W b n) (p : Put W V k i vs) (_ : 0 = 0) : RowN V b n := by
 refine ⟨fun d hd => ?_,fun j => (p.fz _).trans (h.fz j),Nat.lt_of_lt_of_le h.lt p.same.2⟩
 by_cases e : b = k
 ·subst e
  by_cases h1 : d < i ∨ i + vs.length ≤ d
  ·rw [p.old d h1];exact h.c d hd
  ·obtain ⟨q,rfl⟩ : ∃ q,d = i + q := ⟨d - i,by omega⟩;have hq : q < vs.length := by omega
   rw [p.new q _ (by rw [nthV_eq];exact List.getElem?_eq_getElem hq)];rfl
 ·obtain ⟨v,hv⟩ := Option.isSome_iff_exists.1 (h.c d hd);rw [Put.cell p hv e];rfl
theorem RowN.some (h : RowN W b n) {d : Nat} (hd : d < n) {x : Value} : ∀ j,j < [x].length → (W.cell? ⟨b,d + j,none⟩).isSome = true := fun j hj => by
 obtain rfl : j = 0 := by simpa using hj
 rw [Nat.add_zero];exact h.c d hd
theorem RowF.intsV {c : Nat} {f : Nat → Int} (h : RowF W b n f) (hc : n ≤ c) : IntsV W W.heap.size (.slice (Option.some ⟨b,0,none⟩) n c) ((List.range n).map f) := by
 refine ⟨_,c,by simp,fun _ => ⟨b,0,rfl,h.lt,fun k hk => ?_⟩,by simpa using hc⟩;rw [Nat.zero_add,h.c k (by simpa using hk)];simp
end
theorem IntsV.cells {w V : World} {B : Nat} {v : Value} {xs : List Int} (h : IntsV w B v xs) (hc : ∀ b i u,b < B → w.cell? ⟨b,i,none⟩ = some u → V.cell? ⟨b,i,none⟩ = some u) : IntsV V B v xs := by
 obtain ⟨A,c,hv,hx,hcap⟩ := h
 exact ⟨A,c,hv,fun hne => by
  obtain ⟨b,o,hA,hlt,h1⟩ := hx hne
  exact ⟨b,o,hA,hlt,fun k hk => hc _ _ _ hlt (h1 k hk)⟩,hcap⟩
theorem IntsV.get {w : World} {B : Nat} {v : Value} {xs : List Int} (h : IntsV w B v xs) {k : Nat} (hk : k < xs.length) : ∃ b o c,v = .slice (some ⟨b,o,none⟩) xs.length c ∧ b < B ∧ ∀ j,j < xs.length → w.cell? ⟨b,o + j,none⟩ = some (.int .i64 (gI xs j)) := by
 obtain ⟨A,c,hv,hx,-⟩ := h;obtain ⟨b,o,rfl,hb,hc⟩ := hx (by rintro rfl;exact absurd hk (Nat.not_lt_zero _));exact ⟨b,o,c,hv,hb,fun j hj => by rw [gI_lt hj];exact hc j hj⟩
def encF (f : Fl) : List Value := [.int .i64 f.id,.int .i64 f.lo,.int .i64 f.hi,.int .i64 f.m]
def encZ (s : Int × Int) : List Value := [.int .i64 s.1,.int .i64 s.2]
def RowsV {α : Type} (k : Nat) (enc : α → List Value) (w : World) (B : Nat) (v : Value) (xs : List α) : Prop :=
 ∃ (A : Option Addr) (c : Nat),v = .slice A xs.length c ∧ (xs ≠ [] → ∃ b o,A = some ⟨b,o,none⟩ ∧ b < B ∧ ∀ i (h : i < xs.length) r u,(enc xs[i])[r]? = some u → w.cell? ⟨b,o + i * k + r,none⟩ = some u) ∧ xs.length ≤ c
section
variable {α : Type} {k : Nat} {enc : α → List Value} {w w' : World} {B B' : Nat} {v : Value} {xs : List α}
theorem RowsV.cells (h : RowsV k enc w B v xs) (hc : ∀ b i u,b < B → w.cell? ⟨b,i,none⟩ = some u → w'.cell? ⟨b,i,none⟩ = some u) : RowsV k enc w' B v xs := by
 obtain ⟨A,c,hv,hx,hcap⟩ := h
 exact ⟨A,c,hv,fun hne => by
  obtain ⟨b,o,hA,hlt,h1⟩ := hx hne
  exact ⟨b,o,hA,hlt,fun i hi r u hu => hc _ _ _ hlt (h1 i hi r u hu)⟩,hcap⟩
theorem RowsV.more (h : RowsV k enc w B v xs) (hB : B ≤ B') : RowsV k enc w B' v xs := by
 obtain ⟨A,c,hv,hx,hcap⟩ := h
 exact ⟨A,c,hv,fun hne => by
  obtain ⟨b,o,hA,hlt,hc⟩ := hx hne
  exact ⟨b,o,hA,by omega,hc⟩,hcap⟩
theorem RowsV.ext (h : RowsV k enc w w.heap.size v xs) (hE : Ext w w') : RowsV k enc w' w'.heap.size v xs := (h.cells fun _ _ _ _ hc => hE.cell hc).more hE.size
end
abbrev FlawsV := RowsV 4 encF
abbrev SpansV := RowsV 2 encZ
theorem FlawsV.at {w : World} {B : Nat} {A : Option Addr} {n c : Nat} {fl : List Fl} (h : FlawsV w B (.slice A n c) fl) {k : Nat} (hk : k < fl.length) : ∃ b o,A = some ⟨b,o,none⟩ ∧ b < B ∧
  w.cell? ⟨b,o + k * 4,none⟩ = some (.int .i64 fl[k].id) ∧ w.cell? ⟨b,o + k * 4 + 1,none⟩ = some (.int .i64 fl[k].lo) ∧ w.cell? ⟨b,o + k * 4 + 2,none⟩ = some (.int .i64 fl[k].hi) ∧ w.cell? ⟨b,o + k * 4 + 3,none⟩ = some (.int .i64 fl[k].m) := by
 obtain ⟨A',c',hv,hx,-⟩ := h
 injection hv with h1 h2 h3;subst h1
 obtain ⟨b,o,hA,hb,hc⟩ := hx (by rintro rfl;exact absurd hk (Nat.not_lt_zero _));exact ⟨b,o,hA,hb,hc k hk 0 _ rfl,hc k hk 1 _ rfl,hc k hk 2 _ rfl,hc k hk 3 _ rfl⟩
def TourV (w : World) (B : Nat) (v : Value) (t : Tr) : Prop := ∃ cv fv,v = .agg #[.int .i64 t.n,cv,fv] ∧ IntsV w B cv t.cl ∧ FlawsV w B fv t.fl
section
variable {w V : World} {B : Nat} {v : Value} {t : Tr}
theorem TourV.ext (h : TourV w w.heap.size v t) (hE : Ext w V) : TourV V V.heap.size v t := by
 obtain ⟨cv,fv,h1,h2,h3⟩ := h;exact ⟨cv,fv,h1,h2.ext hE,h3.ext hE⟩
theorem TourV.more {B' : Nat} (h : TourV w B v t) (hB : B ≤ B') : TourV w B' v t := by
 obtain ⟨cv,fv,h1,h2,h3⟩ := h;exact ⟨cv,fv,h1,h2.more hB,h3.more hB⟩
theorem TourV.cells (h : TourV w B v t) (hc : ∀ b i u,b < B → w.cell? ⟨b,i,none⟩ = some u → V.cell? ⟨b,i,none⟩ = some u) : TourV V B v t := by
 obtain ⟨cv,fv,h1,h2,h3⟩ := h;exact ⟨cv,fv,h1,h2.cells hc,h3.cells hc⟩
theorem TourV.open' (h : TourV w B v t) : ∃ A c A2 c2,v = .agg #[.int .i64 t.n,.slice A t.cl.length c,.slice A2 t.fl.length c2] ∧ IntsV w B (.slice A t.cl.length c) t.cl ∧ FlawsV w B (.slice A2 t.fl.length c2) t.fl := by
 obtain ⟨cv,fv,h1,h2,h3⟩ := h;obtain ⟨A,c,rfl,-,-⟩ := id h2;obtain ⟨A2,c2,rfl,-,-⟩ := id h3;exact ⟨A,c,A2,c2,h1,h2,h3⟩
end
structure TourS (w : World) (S : Nat) (v : Value) (t : Tr) : Prop where
 v : TourV w S v t
section
variable {w V : World} {S : Nat} {v : Value} {t : Tr}
theorem TourS.ext (h : TourS w S v t) (hE : Ext w V) : TourS V S v t := ⟨h.v.cells fun _ _ _ _ hc => hE.cell hc⟩
theorem TourS.chg {L : List Nat} (h : TourS w S v t) (hC : Chg L w V) (hL : ∀ b ∈ L,S ≤ b) : TourS V S v t := ⟨h.v.cells fun b _ _ hb hc => Chg.cell hC hc fun hm => by have := hL b hm;omega⟩
theorem TourS.put {b i : Nat} {vs : List Value} (h : TourS w S v t) (p : Put w V b i vs) (hb : S ≤ b) : TourS V S v t := h.chg p.chg (by simpa using hb)
theorem TourS.adm {m : Nat} (h : TourS w S v t) (hA : Adm m w V) : TourS V S v t := ⟨h.v.cells fun _ _ _ _ hc => hA.cell hc⟩
end
structure IntsS (w : World) (S : Nat) (v : Value) (xs : List Int) : Prop where
 v : IntsV w S v xs
section
variable {w V : World} {S : Nat} {v : Value} {xs : List Int}
theorem IntsS.ext (h : IntsS w S v xs) (hE : Ext w V) : IntsS V S v xs := ⟨h.v.cells fun _ _ _ _ hc => hE.cell hc⟩
theorem IntsS.chg {L : List Nat} (h : IntsS w S v xs) (hC : Chg L w V) (hL : ∀ b ∈ L,S ≤ b) : IntsS V S v xs := ⟨h.v.cells fun b _ _ hb hc => Chg.cell hC hc fun hm => by have := hL b hm;omega⟩
theorem IntsS.put {b i : Nat} {vs : List Value} (h : IntsS w S v xs) (p : Put w V b i vs) (hb : S ≤ b) : IntsS V S v xs := h.chg p.chg (by simpa using hb)
theorem IntsS.adm {m : Nat} (h : IntsS w S v xs) (hA : Adm m w V) : IntsS V S v xs := ⟨h.v.cells fun _ _ _ _ hc => hA.cell hc⟩
theorem IntsS.all (h : IntsS w S v xs) (hS : S ≤ w.heap.size) : IntsV w w.heap.size v xs := h.v.more hS
end
structure RowT (W : World) (b n : Nat) (f : Nat → Bool) : Prop where
 c : ∀ d,d < n → W.cell? ⟨b,d,none⟩ = some (.bool (f d))
 fz : ∀ j,W.frozen? ⟨b,j,none⟩ = false
 lt : b < W.heap.size
section
variable {W V : World} {b n : Nat} {f : Nat → Bool}
theorem RowT.chg {L : List Nat} (h : RowT W b n f) (hC : Chg L W V) (hL : b ∉ L) : RowT V b n f :=
 ⟨fun d hd => Chg.cell hC (h.c d hd) hL,fun j => by rw [← h.fz j];simp only [World.frozen?,hC.block b h.lt hL],Nat.lt_of_lt_of_le h.lt hC.size⟩
theorem RowT.ext (h : RowT W b n f) (hE : Ext W V) : RowT V b n f := h.chg ((Chg.refl [] W).ext hE) (by simp)
theorem RowT.put {k i : Nat} {vs : List Value} (h : RowT W b n f) (p : Put W V k i vs) (hb : b ≠ k) : RowT V b n f := h.chg p.chg (by simpa using hb)
theorem RowT.mark {d : Nat} (h : RowT W b n f) (p : Put W V b d [.bool true]) : RowT V b n (markT f d) := by
 refine ⟨fun e he => ?_,fun j => (p.fz _).trans (h.fz j),Nat.lt_of_lt_of_le h.lt p.same.2⟩;unfold markT
 by_cases e1 : e = d
 ·subst e1;rw [if_pos rfl];have := p.new 0 _ rfl;rwa [Nat.add_zero] at this
 ·rw [if_neg e1,p.old e (by simp;omega)];exact h.c e he
theorem RowT.some {d : Nat} (h : RowT W b n f) (hd : d < n) {x : Value} : ∀ j,j < [x].length → (W.cell? ⟨b,d + j,none⟩).isSome = true := fun j hj => by
 obtain rfl : j = 0 := by simpa using hj
 rw [Nat.add_zero,h.c d hd];rfl
theorem RowT.adm {m : Nat} (h : RowT W b n f) (hn : 0 < n) (hA : Adm m W V) : RowT V b n f :=
 ⟨fun d hd => hA.cell (h.c d hd),fun j => by
  obtain ⟨o,ho,hcl⟩ := cells_of_cell (h.c 0 hn)
  rw [← h.fz j];exact World.frozen?_of_block ((hA.block _ o ho (.inr hcl)).trans ho.symm),Nat.lt_of_lt_of_le h.lt hA.size⟩
theorem RowF.adm {m : Nat} {f : Nat → Int} (h : RowF W b n f) (hn : 0 < n) (hA : Adm m W V) : RowF V b n f :=
 ⟨fun d hd => hA.cell (h.c d hd),fun j => by
  obtain ⟨o,ho,hcl⟩ := cells_of_cell (h.c 0 hn)
  rw [← h.fz j];exact World.frozen?_of_block ((hA.block _ o ho (.inr hcl)).trans ho.symm),Nat.lt_of_lt_of_le h.lt hA.size⟩
end
end Go.Proofs.YtnklbepeoicgpaaGreat
namespace Go.Proofs.YtnklbepeoicgpaaGreat.St
open Go.RowKit Go.Wk Go.Proofs
def encA (a : Alt) : List Value := [.int .i64 a.id,.int .i64 a.kind,.int .i64 a.day,.int .i64 a.frm,.int .i64 a.tu,.int .i64 a.word]
section
variable {α : Type} {k : Nat} {enc : α → List Value} {w w' : World} {B B' : Nat} {v : Value} {xs : List α}
theorem _root_.Go.Proofs.YtnklbepeoicgpaaGreat.RowsV.below (h : RowsV k enc w B v xs) (hb : Below B w w') : RowsV k enc w' B v xs := by
 obtain ⟨A,c,hv,hx,hcap⟩ := h
 exact ⟨A,c,hv,fun hne => by
  obtain ⟨b,o,hA,hlt,hc⟩ := hx hne
  exact ⟨b,o,hA,hlt,fun i hi r u hu => (hb.cell (p := ⟨b,o + i * k + r,none⟩) hlt).trans (hc i hi r u hu)⟩,hcap⟩
end
abbrev AltsV := RowsV 6 encA
structure Cp where
 words : List Int
 b : Int
 e : Int
 p : Int
def SheetV (w : World) (B : Nat) (v : Value) (s : Sh) : Prop := ∃ wv av,v = .agg #[wv,av] ∧ IntsV w B wv s.words ∧ AltsV w B av s.alts
def CopyV (w : World) (B : Nat) (v : Value) (c : Cp) : Prop := ∃ wv,v = .agg #[wv,.int .i64 c.b,.int .i64 c.e,.int .i64 c.p] ∧ IntsV w B wv c.words
theorem SheetV.ext {w w' : World} {v : Value} {s : Sh} (h : SheetV w w.heap.size v s) (hE : Ext w w') : SheetV w' w'.heap.size v s := by
 obtain ⟨wv,av,h1,h2,h3⟩ := h;exact ⟨wv,av,h1,h2.ext hE,h3.ext hE⟩
theorem CopyV.ext {w w' : World} {v : Value} {c : Cp} (h : CopyV w w.heap.size v c) (hE : Ext w w') : CopyV w' w'.heap.size v c := by
 obtain ⟨wv,h1,h2⟩ := h;exact ⟨wv,h1,h2.ext hE⟩
theorem AltsV.six {w : World} {B : Nat} {A : Option Addr} {n c : Nat} {al : List Alt} (h : AltsV w B (.slice A n c) al) {k : Nat} (hk : k < al.length) : ∃ b o,A = some ⟨b,o,none⟩ ∧ b < B ∧
  w.cell? ⟨b,o + k * 6,none⟩ = some (.int .i64 al[k].id) ∧ w.cell? ⟨b,o + k * 6 + 1,none⟩ = some (.int .i64 al[k].kind) ∧ w.cell? ⟨b,o + k * 6 + 2,none⟩ = some (.int .i64 al[k].day) ∧
  w.cell? ⟨b,o + k * 6 + 3,none⟩ = some (.int .i64 al[k].frm) ∧ w.cell? ⟨b,o + k * 6 + 4,none⟩ = some (.int .i64 al[k].tu) ∧ w.cell? ⟨b,o + k * 6 + 5,none⟩ = some (.int .i64 al[k].word) := by
 obtain ⟨A',c',hv,hx,-⟩ := h
 injection hv with h1 h2 h3;subst h1
 obtain ⟨b,o,hA,hb,hc⟩ := hx (by rintro rfl;exact absurd hk (Nat.not_lt_zero _));exact ⟨b,o,hA,hb,hc k hk 0 _ rfl,hc k hk 1 _ rfl,hc k hk 2 _ rfl,hc k hk 3 _ rfl,hc k hk 4 _ rfl,hc k hk 5 _ rfl⟩
theorem _root_.Go.Proofs.YtnklbepeoicgpaaGreat.SpansV.two {w : World} {B : Nat} {A : Option Addr} {n c : Nat} {l : List (Int × Int)} (h : SpansV w B (.slice A n c) l) {k : Nat} (hk : k < l.length) : ∃ b o,A = some ⟨b,o,none⟩ ∧ b < B ∧
  w.cell? ⟨b,o + k * 2,none⟩ = some (.int .i64 l[k].1) ∧ w.cell? ⟨b,o + k * 2 + 1,none⟩ = some (.int .i64 l[k].2) := by
 obtain ⟨A',c',hv,hx,-⟩ := h
 injection hv with h1 h2 h3;subst h1
 obtain ⟨b,o,hA,hb,hc⟩ := hx (by rintro rfl;exact absurd hk (Nat.not_lt_zero _));exact ⟨b,o,hA,hb,hc k hk 0 _ rfl,hc k hk 1 _ rfl⟩
def FitS (s : Sh) : Prop := s.words.length ≤ 1000000000000000 ∧ s.alts.length ≤ 1000000000000000
def FitC (c : Cp) : Prop := c.words.length ≤ 1000000000000000
def RightA (n : Nat) (a : Alt) (last : Int) : Prop :=
 (1 ≤ a.id ∧ a.id ≤ 1099511627776) ∧ (last ≤ a.day ∧ a.day ≤ 730) ∧ (0 ≤ a.frm ∧ a.frm ≤ (n : Int) - 1) ∧ (a.frm ≤ a.tu ∧ a.tu ≤ (n : Int) - 1) ∧
  ((a.kind = 1 ∨ a.kind = 2) ∧ a.word = 0 ∨ (a.kind = 3 ∨ a.kind = 4) ∧ a.tu = a.frm ∧ 1 ≤ a.word ∧ a.word ≤ 9999)
instance (n : Nat) (a : Alt) (last : Int) : Decidable (RightA n a last) := by unfold RightA;infer_instance
def lastD (l : List Alt) : Int := (l.getLast?.map Alt.day).getD 0
def chkA (n : Nat) (done : List Alt) : List Alt → Int
 | [] => 0
 | a :: l => if ¬ RightA n a (lastD done) then 1 else if done.any (fun x => decide (x.id = a.id)) = true then 6 else chkA n (done ++ [a]) l
def badW (x : Int) : Bool := !decide (1 ≤ x ∧ x ≤ 9999)
def checkS (s : Sh) : Int :=
 if ¬ (1 ≤ s.n ∧ s.n ≤ 40) ∨ s.words.any badW = true then 1 else if 40 < s.alts.length then 2 else chkA s.n [] s.alts
def badC (x : Int) : Bool := !decide (0 ≤ x ∧ x ≤ 9999)
def ValidC (s : Sh) (c : Cp) : Prop := c.words.length = s.n ∧ c.words.any badC = false ∧ (0 ≤ c.b ∧ c.b ≤ c.e) ∧ c.e ≤ 730 ∧ 1 ≤ c.p ∧ c.p ≤ 40
instance (s : Sh) (c : Cp) : Decidable (ValidC s c) := by unfold ValidC;infer_instance
def copyS (s : Sh) (c : Cp) : Int := if checkS s = 0 then (if ValidC s c then 0 else 1) else checkS s
theorem copyS_zero {s : Sh} {c : Cp} : copyS s c = 0 ↔ checkS s = 0 ∧ ValidC s c := by
 unfold copyS
 by_cases h : checkS s = 0
 ·by_cases hv : ValidC s c <;> simp [h,hv]
 ·simp [h]
structure Good (s : Sh) : Prop where
 n1 : 1 ≤ s.n
 n2 : s.n ≤ 40
 ws : ∀ x ∈ s.words,1 ≤ x ∧ x ≤ 9999
 m2 : s.alts.length ≤ 40
 rt : ∀ a ∈ s.alts,RightA s.n a 0
 sorted : SortA 0 s.alts
 ids : (s.alts.map Alt.id).Nodup
theorem lastD_snoc (l : List Alt) (a : Alt) : lastD (l ++ [a]) = a.day := by simp [lastD]
theorem RightA.mono {n : Nat} {a : Alt} {d e : Int} (h : RightA n a d) (he : e ≤ d) : RightA n a e := by
 obtain ⟨h1,h2,h3⟩ := h;exact ⟨h1,⟨by omega,h2.2⟩,h3⟩
theorem chkA_zero {n : Nat} : ∀ {l done : List Alt},0 ≤ lastD done → (chkA n done l = 0 ↔ SortA (lastD done) l ∧ (∀ a ∈ l,RightA n a 0) ∧ (l.map Alt.id).Nodup ∧ ∀ a ∈ l,∀ x ∈ done,x.id ≠ a.id)
 | [],done,_ => by simp [chkA,SortA]
 | a :: l,done,h0 => by
   unfold chkA
   by_cases h1 : RightA n a (lastD done)
   ·rw [if_neg (by simpa using h1)]
    by_cases h2 : done.any (fun x => decide (x.id = a.id)) = true
    ·rw [if_pos h2];rw [List.any_eq_true] at h2;obtain ⟨x,hx,he⟩ := h2
     constructor
     ·intro h;cases h
     ·rintro ⟨-,-,-,h⟩;exact absurd (of_decide_eq_true he) (h a List.mem_cons_self x hx)
    ·rw [if_neg h2];have hd : 0 ≤ a.day := by have := h1.2.1.1;omega
     rw [chkA_zero (done := done ++ [a]) (by rw [lastD_snoc];exact hd),lastD_snoc];have h2' : ∀ x ∈ done,x.id ≠ a.id := fun x hx e => h2 (List.any_eq_true.2 ⟨x,hx,decide_eq_true e⟩);simp only [SortA,List.mem_cons,forall_eq_or_imp,List.map_cons,List.nodup_cons,List.mem_append,List.not_mem_nil,or_false,List.mem_map]
     constructor
     ·rintro ⟨a1,a2,a3,a4⟩;refine ⟨⟨h1.2.1.1,h1.2.1.2,a1⟩,⟨h1.mono h0,a2⟩,⟨?_,a3⟩,h2',fun y hy x hx => a4 y hy x (.inl hx)⟩;rintro ⟨y,hy,he⟩;exact a4 y hy a (.inr rfl) he.symm
     ·rintro ⟨⟨-,-,a1⟩,⟨-,a2⟩,⟨a5,a3⟩,-,a4⟩;refine ⟨a1,a2,a3,fun y hy x hx => ?_⟩
      rcases hx with hx | rfl
      ·exact a4 y hy x hx
      ·exact fun e => a5 ⟨y,hy,e.symm⟩
   ·rw [if_pos (by simpa using h1)]
    constructor
    ·intro h;cases h
    ·rintro ⟨a1,a2,-,-⟩;obtain ⟨b1,b2,b3⟩ := a2 a List.mem_cons_self;exact absurd ⟨b1,⟨a1.1,a1.2.1⟩,b3⟩ h1
theorem checkS_zero {s : Sh} : checkS s = 0 ↔ Good s := by
 unfold checkS
 have hw : s.words.any badW = true ↔ ¬ ∀ x ∈ s.words,1 ≤ x ∧ x ≤ 9999 := by
  rw [List.any_eq_true]
  constructor
  ·rintro ⟨x,hx,h⟩ hall;simp [badW] at h;have := hall x hx;omega
  ·intro h;apply Classical.byContradiction;intro hn;apply h;intro x hx;apply Classical.byContradiction;intro hb;exact hn ⟨x,hx,by simp only [badW,Bool.not_eq_true',decide_eq_false_iff_not];exact hb⟩
 by_cases h1 : ¬ (1 ≤ s.n ∧ s.n ≤ 40) ∨ s.words.any badW = true
 ·rw [if_pos h1]
  constructor
  ·intro h;cases h
  ·intro h
   rcases h1 with h1 | h1
   ·exact absurd ⟨h.n1,h.n2⟩ h1
   ·exact absurd h.ws (hw.1 h1)
 ·rw [if_neg h1];have ha : 1 ≤ s.n ∧ s.n ≤ 40 := Classical.byContradiction fun h => h1 (.inl h);have hb : ∀ x ∈ s.words,1 ≤ x ∧ x ≤ 9999 := Classical.byContradiction fun h => h1 (.inr (hw.2 h))
  by_cases h2 : 40 < s.alts.length
  ·rw [if_pos h2]
   constructor
   ·intro h;cases h
   ·intro h;exact absurd h.m2 (by omega)
  ·rw [if_neg h2,chkA_zero (by simp [lastD])]
   constructor
   ·rintro ⟨a1,a2,a3,-⟩;exact ⟨ha.1,ha.2,hb,by omega,a2,by simpa [lastD] using a1,a3⟩
   ·intro h;exact ⟨by simpa [lastD] using h.sorted,h.rt,h.ids,fun _ _ _ h => by cases h⟩
end Go.Proofs.YtnklbepeoicgpaaGreat.St
namespace Go.Proofs.YtnklbepeoicgpaaGreat.St
def addW (out : List Int) (w : Int) : List Int := if w ≠ 0 ∧ w ∉ out then out ++ [w] else out
def readsF (day : Int) (l : List (Int × Int × Face)) (out : List Int) : List Int := l.foldl (fun out x => if x.1 ≤ day ∧ day ≤ x.2.1 then addW (addW out x.2.2.1) x.2.2.2.1 else out) out
def readsL (f : Face) : List Int := (if f.1 ≠ 0 then [f.1] else []) ++ (if f.2.1 ≠ 0 ∧ f.2.1 ≠ f.1 then [f.2.1] else [])
theorem addW_two (f : Face) : addW (addW [] f.1) f.2.1 = readsL f := by
 unfold addW readsL
 by_cases h1 : f.1 = 0
 ·by_cases h2 : f.2.1 = 0
  ·simp [h1,h2]
  ·simp [h1,h2]
 ·by_cases h2 : f.2.1 = 0
  ·simp [h1,h2]
  ·by_cases h3 : f.2.1 = f.1
   ·simp [h1,h3]
   ·simp [h1,h2,h3]
theorem readsF_cons (day : Int) (x : Int × Int × Face) (l : List (Int × Int × Face)) (out : List Int) : readsF day (x :: l) out = readsF day l (if x.1 ≤ day ∧ day ≤ x.2.1 then addW (addW out x.2.2.1) x.2.2.2.1 else out) := rfl
theorem readsF_skip {i day : Int} : ∀ {l : List Alt} {f : Face} {e : Int} {out : List Int},SortA e l → e ≤ 730 → day < e → readsF day (facesL i l f e) out = out := by
 intro l f e out hs he hd;have h := faces_le (i := i) (f := f) hs he
 generalize facesL i l f e = q at h
 induction q with
 | nil => rfl
 | cons x q ih =>
   rw [readsF_cons,if_neg (by have := h x List.mem_cons_self;omega)];exact ih fun y hy => h y (List.mem_cons_of_mem _ hy)
theorem readsF_on {i day : Int} (h7 : day ≤ 730) : ∀ {l : List Alt} {f : Face} {e : Int} {out : List Int},SortA e l → e ≤ day → readsF day (facesL i l f e) out = addW (addW out (onF i day l f).1) (onF i day l f).2.1
 | [],f,e,out,_,hd => by
   show readsF day [(e,730,f)] out = _
   rw [readsF_cons,if_pos ⟨hd,h7⟩];rfl
 | a :: l,f,e,out,hs,hd => by
   obtain ⟨h1,h2,h3⟩ := hs
   have hs' : SortA e l := by
    cases l with
    | nil => trivial
    | cons b l => exact ⟨by have := h3.1;omega,h3.2⟩
   by_cases ha : a.day ≤ day
   ·have key : onF i day (a :: l) f = onF i day l (nxt i f a) := by unfold onF;rw [List.foldl_cons,if_pos ha]
    rw [key];unfold facesL
    by_cases hn : nxt i f a = f
    ·rw [if_pos hn,readsF_on h7 hs' hd,hn]
    ·rw [if_neg hn]
     by_cases hd' : e < a.day
     ·rw [if_pos hd',readsF_cons,if_neg (by dsimp only;omega),readsF_on h7 h3 ha]
     ·rw [if_neg hd',readsF_on h7 h3 ha]
   ·have key : onF i day (a :: l) f = f := by unfold onF;rw [List.foldl_cons,if_neg ha];exact onF_before h3 (by omega)
    have key2 : onF i day l f = f := onF_before h3 (by omega);rw [key];unfold facesL
    by_cases hn : nxt i f a = f
    ·rw [if_pos hn,readsF_on h7 hs' hd,key2]
    ·rw [if_neg hn,if_pos (by omega),readsF_cons,if_pos ⟨hd,by dsimp only;omega⟩,readsF_skip h3 h2 (by omega)]
theorem reads_on {s : Sh} (hs : SortA 0 s.alts) (i : Nat) {day : Int} (h0 : 0 ≤ day) (h7 : day ≤ 730) : readsF day (s.faces i) [] = readsL (s.on i day) := by
 unfold Sh.faces Sh.on;rw [readsF_on h7 hs h0,addW_two]
end Go.Proofs.YtnklbepeoicgpaaGreat.St
namespace Go.Proofs.YtnklbepeoicgpaaGreat
open Go.RowKit Go.Wk Go.Proofs
attribute [local irreducible] Go.Wk.Wops Go.Wk.Wp Go.Wk.Mtree Go.Wk.Mops
set_option maxHeartbeats 8000000
set_option maxRecDepth 20000
theorem isNaN_c (x : Int) (w : World) : CallsV Tryz.prog 222 #[.int .i64 x] w fun v w' => v = .bool false ∧ Ext w w' := by
 refine Wp.fn Tryz.func222 rfl Tryz.ntmps222 (by simp) ?_;have xw := Ext.refl w;refine Wp.keep [0] ?_;rintro r1 ⟨a,-⟩;simp [go_sem] at a;refine sRg fun K' gd hK => ?_;go_simp;apply hK;clear hK K' gd;refine Wp.keep [0] ?_;rintro r2 ⟨b,-⟩;simp [go_sem,a] at b;clear a;refine sRg fun K' gd hK => ?_;go_simp;apply hK;clear hK K' gd;refine Wp.keep [2] ?_;rintro r3 ⟨c,-⟩;simp [go_sem,b] at c;clear b;refine Wp.ret ?_;refine endK_tmp Tryz.results222 (by decide) ?_;rw [c];exact ⟨rfl,xw⟩
theorem less_c (x y : Int) (w : World) : CallsV Tryz.prog 204 #[.int .i64 x,.int .i64 y] w fun v w' => v = .bool (decide (x < y)) ∧ Ext w w' := by
 refine Wp.fn Tryz.func204 rfl Tryz.ntmps204 (by simp) ?_;have xw := Ext.refl w;refine Wp.keep [0,1] ?_;rintro r1 ⟨a,c,-⟩;simp [go_sem] at a c;refine sRg fun K' gd hK => ?_;go_simp;apply hK;clear hK K' gd;refine Wp.keep [0,1] ?_;rintro r2 ⟨b,d,-⟩;simp [go_sem,a,c] at b d;clear a c;refine sRh fun K' gd hK hg => ?_;have g2 : gd 2 = some 7 := hg 2;have g7 : gd 7 = some 12 := hg 7;clear hg;refine cu2 fun K1 hK1 => ?_;go_simp;refine Wcall (.inl rfl) (isNaN_c x _) ?_;rintro v w2 ⟨rfl,hE⟩;go_simp;apply hK1;clear hK1 K1;replace xw := xw.trans hE;clear hE;refine cu3 fun K1 hK1 => ?_;go_simp;apply hK1;clear hK1 K1;go_simp;apply hK;clear hK K' gd g2 g7;refine Wp.keep [4] ?_;rintro r4 ⟨e,-⟩;simp [go_sem,b,d] at e;clear b d;refine Wp.ret ?_;refine endK_tmp Tryz.results204 (by decide) ?_;rw [e];exact ⟨by first | rfl | go_simp,xw⟩
theorem len64_c (n : Nat) (h : n ≤ 12) (w : World) : CallsV Tryz.prog 208 #[.int .u64 (n : Int)] w fun v w' => (∃ r,v = .int .i64 r) ∧ Ext w w' := by
 have h1 : ¬ (4294967296 : Int) ≤ (n : Int) := by omega
 have h2 : ¬ (65536 : Int) ≤ (n : Int) := by omega
 have h3 : ¬ (256 : Int) ≤ (n : Int) := by omega
 have hw8 : IntKind.u8.wrap (n : Int) = (n : Int) := by unfold IntKind.wrap;simp [IntKind.signed,IntKind.bits];omega
 have hsz : (n : Int) < (Lib.len8tab.size : Int) := by rw [Lib.len8tab_size];omega
 have hsn : n < Lib.len8tab.size := by rw [Lib.len8tab_size];omega
 refine Wp.fn Tryz.func208 rfl Tryz.ntmps208 (by simp) ?_;have xw := Ext.refl w;refine Wp.keep [0] ?_;rintro r1 ⟨a,-⟩;simp [go_sem] at a;refine sRg fun K' gd hK => ?_;go_simp;apply hK;clear hK K' gd;refine Wp.keep [0,2] ?_;rintro r2 ⟨b,g,-⟩;simp [go_sem,a] at b g;clear a;refine Wp.seq ?_;refine sRg fun K' gd hK => ?_;go_simp;apply hK;clear hK K' gd;refine Wp.keep [0,2,4] ?_;rintro r3 ⟨c,i,l,-⟩;simp [go_sem,b,g] at c i l;clear b g;refine cFf ?_;refine skN ?_;refine Wp.seq ?_;refine sRg fun K' gd hK => ?_;go_simp;apply hK;clear hK K' gd;refine Wp.keep [0,2,8] ?_;rintro r4 ⟨d,j,m,-⟩;simp [go_sem,c,i,l] at d j m;clear c i l;refine cFf ?_;refine skN ?_;refine Wp.seq ?_;refine sRg fun K' gd hK => ?_;go_simp;apply hK;clear hK K' gd;refine Wp.keep [0,2,14] ?_;rintro r5 ⟨e,k,f,-⟩;simp [go_sem,d,j,m] at e k f;clear d j m;refine cFf ?_;refine Wp.skip ?_
 refine tNo ?_;refine sRg fun K' gd hK => ?_;go_simp;apply hK;clear hK K' gd;refine Wp.keep [2] ?_;rintro r6 ⟨o,-⟩;simp [go_sem,e,k,f] at o;clear e k f;refine Wp.ret ?_;refine endK_tmp Tryz.results208 (by decide) ?_;rw [o];exact ⟨⟨_,rfl⟩,xw⟩
theorem len_c (n : Nat) (h : n ≤ 12) (w : World) : CallsV Tryz.prog 169 #[.int .u64 (n : Int)] w fun v w' => (∃ r,v = .int .i64 r) ∧ Ext w w' := by
 refine Wp.fn Tryz.func169 rfl Tryz.ntmps169 (by simp) ?_;have xw := Ext.refl w;refine Wp.keep [0] ?_;rintro r1 ⟨a,-⟩;simp [go_sem] at a;refine sRg fun K' gd hK => ?_;go_simp;apply hK;clear hK K' gd;refine Wp.keep [0] ?_;rintro r2 ⟨b,-⟩;simp [go_sem,a] at b;clear a;refine Wp.seq ?_;refine cFf ?_;refine skN ?_;refine sRg fun K' gd hK => ?_;refine cu2 fun K1 hK1 => ?_;go_simp;refine Wcall (.inl rfl) (len64_c n h _) ?_;rintro v w2 ⟨⟨r,rfl⟩,hE⟩;go_simp;apply hK1;clear hK1 K1;replace xw := xw.trans hE;clear hE;go_simp;apply hK;clear hK K' gd;refine Wp.keep [2] ?_;rintro r4 ⟨c,-⟩;simp [go_sem,b] at c;clear b;refine Wp.ret ?_;refine endK_tmp Tryz.results169 (by decide) ?_;rw [c];exact ⟨⟨_,rfl⟩,xw⟩
def insPos (l : List Int) (x : Int) : Nat → Nat
 | 0 => 0
 | k + 1 => if x < gI l k then insPos l x k else k + 1
def insI (l : List Int) (x : Int) : List Int := l.take (insPos l x l.length) ++ x :: l.drop (insPos l x l.length)
def sortI (l : List Int) : List Int := l.foldl insI []
theorem insPos_le (l : List Int) (x : Int) : ∀ k,insPos l x k ≤ k
 | 0 => Nat.le_refl _
 | k + 1 => by unfold insPos;split;exact Nat.le_succ_of_le (insPos_le l x k);exact Nat.le_refl _
theorem insI_len (l : List Int) (x : Int) : (insI l x).length = l.length + 1 := by
 have := insPos_le l x l.length;unfold insI;simp;omega
theorem insI_mem (l : List Int) (x y : Int) : y ∈ insI l x ↔ y = x ∨ y ∈ l := by
 unfold insI;rw [List.mem_append,List.mem_cons]
 constructor
 ·rintro (h | rfl | h)
  ·exact .inr (List.mem_of_mem_take h)
  ·exact .inl rfl
  ·exact .inr (List.mem_of_mem_drop h)
 ·rintro (rfl | h)
  ·exact .inr (.inl rfl)
  ·rw [← List.take_append_drop (insPos l x l.length) l,List.mem_append] at h
   rcases h with h | h
   ·exact .inl h
   ·exact .inr (.inr h)
theorem sortI_snoc (l : List Int) (x : Int) : sortI (l ++ [x]) = insI (sortI l) x := by unfold sortI;rw [List.foldl_append];rfl
theorem sortI_mem2 (y : Int) : ∀ (l a : List Int),y ∈ l.foldl insI a ↔ y ∈ a ∨ y ∈ l
 | [],a => by simp
 | x :: l,a => by
   rw [List.foldl_cons,sortI_mem2 y l,insI_mem,List.mem_cons]
   constructor
   ·intro h
    rcases h with (h | h) | h
    ·exact .inr (.inl h)
    ·exact .inl h
    ·exact .inr (.inr h)
   ·intro h
    rcases h with h | h | h
    ·exact .inl (.inr h)
    ·exact .inl (.inl h)
    ·exact .inr h
theorem sortI_mem (y : Int) (l : List Int) : y ∈ sortI l ↔ y ∈ l := by unfold sortI;rw [sortI_mem2];simp
theorem sortI_len (l : List Int) : (sortI l).length = l.length := by
 have key : ∀ (l a : List Int),(l.foldl insI a).length = a.length + l.length := by
  intro l
  induction l with
  | nil => intro a;rfl
  | cons x l ih => intro a;rw [List.foldl_cons,ih,insI_len,List.length_cons];omega
 unfold sortI;rw [key];simp
theorem gI_mid (P S : List Int) (y : Int) : gI (P ++ y :: S) P.length = y := by unfold gI;simp
theorem insPos_step {P S : List Int} {x y : Int} (h : x < y) : insPos (P ++ y :: S) x (P.length + 1) = insPos (P ++ y :: S) x P.length := by
 rw [insPos,gI_mid,if_pos h]
theorem insPos_stop {P S : List Int} {x y : Int} (h : ¬ x < y) : insPos (P ++ y :: S) x (P.length + 1) = P.length + 1 := by
 rw [insPos,gI_mid,if_neg h]
theorem insI_at {P S : List Int} {x : Int} (h : insPos (P ++ S) x (P ++ S).length = P.length) : insI (P ++ S) x = P ++ x :: S := by
 unfold insI;rw [h,List.take_left,List.drop_left]
structure RowJ (W : World) (b : Nat) (xs : List Int) : Prop where
 c : ∀ i,i < xs.length → W.cell? ⟨b,i,none⟩ = some (.int .i64 (gI xs i))
 fz : ∀ j,W.frozen? ⟨b,j,none⟩ = false
 ne : xs ≠ []
section
variable {W V : World} {b : Nat} {xs : List Int}
theorem RowJ.ext (h : RowJ W b xs) (hE : Ext W V) : RowJ V b xs := ⟨fun i hi => hE.cell (h.c i hi),hE.fz (h.c 0 (List.length_pos_iff.2 h.ne)) h.fz,h.ne⟩
theorem gI_set {l : List Int} {i j : Nat} {x : Int} (hi : i < l.length) : gI (l.set i x) j = if j = i then x else gI l j := by
 unfold gI;rw [List.getElem?_set]
 by_cases e : i = j
 ·subst e;simp [hi]
 ·rw [if_neg e,if_neg (by omega)]
theorem RowJ.store {i : Nat} {x : Int} (h : RowJ W b xs) (p : Put W V b i [.int .i64 x]) (hi : i < xs.length) : RowJ V b (xs.set i x) := by
 refine ⟨fun j hj => ?_,fun j => (p.fz _).trans (h.fz j),fun e => by have := congrArg List.length e;simp at this;exact h.ne this⟩;rw [List.length_set] at hj;rw [gI_set hi]
 by_cases e : j = i
 ·subst e;rw [if_pos rfl];have := p.new 0 _ rfl;rwa [Nat.add_zero] at this
 ·rw [if_neg e,p.old j (by simp;omega)];exact h.c j hj
theorem RowJ.intsB {base c : Nat} (h : RowJ W b xs) (hb : base ≤ b) (hc : xs.length ≤ c) : IntsB W base (.slice (some ⟨b,0,none⟩) xs.length c) xs :=
 ⟨_,c,rfl,fun _ => ⟨b,0,rfl,hb,cell_lt (h.c 0 (List.length_pos_iff.2 h.ne)),fun k hk => by rw [Nat.zero_add,← gI_lt hk];exact h.c k hk⟩,hc⟩
end
theorem swapJ {W : World} {b j q : Nat} {P T : List Int} {x y : Int} (h : RowJ W b (P ++ y :: x :: T)) (hq : q = P.length) (hj : j = q + 1) :
  RowJ ((W.drew.setCell ⟨b,j,none⟩ (.int .i64 y)).setCell ⟨b,q,none⟩ (.int .i64 x)) b (P ++ x :: y :: T) ∧
  Chg [b] W ((W.drew.setCell ⟨b,j,none⟩ (.int .i64 y)).setCell ⟨b,q,none⟩ (.int .i64 x)) := by
 subst hj;subst hq;have h0 := h.ext (Ext.refl W).drew;have p1 := setL_put (w := W.drew) (b := b) (i := P.length + 1) (vs := [.int .i64 y]) (some1 (h0.c (P.length + 1) (by simp)));have h1 := h0.store p1 (by simp);have p2 := setL_put (b := b) (i := P.length) (vs := [.int .i64 x]) (some1 (h1.c P.length (by simp)));have h2 := h1.store p2 (by simp)
 have e : ((P ++ y :: x :: T).set (P.length + 1) y).set P.length x = P ++ x :: y :: T := by
  rw [List.set_append_right _ _ (by omega)];simp
 rw [e] at h2;exact ⟨h2,((Chg.refl [b] W).drew.setC (by simp)).setC (by simp)⟩
theorem ins_done {L P S R : List Int} {x : Int} {j : Nat} (hPj : P.length = j) (hLS : L = P ++ S) (hps : insPos L x L.length = insPos L x j) (h : insPos L x j = j) : insI L x ++ R = P ++ x :: (S ++ R) := by
 subst hLS;rw [insI_at (by rw [hps,h,hPj])];simp
theorem sort_one {xs : List Int} (h : xs ≠ []) : sortI (xs.take 1) ++ xs.drop 1 = xs := by
 cases xs with
 | nil => exact absurd rfl h
 | cons a t => rfl
theorem insertion_c (b n c : Nat) (xs : List Int) (w : World) (h : RowJ w b xs) (hn : xs.length = n) (hn2 : n ≤ 12) :
  CallsV Tryz.prog 198 #[.slice (some ⟨b,0,none⟩) n c,.int .i64 0,.int .i64 (n : Int)] w fun _ w' => RowJ w' b (sortI xs) ∧ Chg [b] w w' := by
 have hn1 : 1 ≤ n := by have := List.length_pos_iff.2 h.ne;omega
 refine Wp.fn Tryz.func198 rfl Tryz.ntmps198 (by simp) ?_;have xw := Ext.refl w;refine Wp.keep [0,1,2] ?_;rintro r1 ⟨A,H,O,-⟩;simp [go_sem] at A H O;have xq := Chg.refl [b] w;refine sRg fun K' gd hK => ?_;go_simp;apply hK;clear hK K' gd;refine Wp.keep [0,1,2,6] ?_;rintro r2 ⟨r,s,t,aq,-⟩;simp [go_sem,A,H,O] at r s t aq;clear A H O;refine Wp.block ?_;refine Wp.loop (fun u ρ ds wu => AllEq [0,1,2] ρ r2 ∧ ds = [] ∧ (Chg [b] w wu) ∧ (ρ 6 = .int .i64 ((u : Int) + 1) ∧ RowJ wu b (sortI (xs.take (u + 1)) ++ xs.drop (u + 1)))) (n - 1) ?_ ?_
 ·refine ⟨AllEq.refl _ _,rfl,Chg.refl _ _,?_⟩;exact ⟨by rw [aq];rfl,by rw [sort_one h.ne];exact h⟩
 ·rintro u r3 _ wu hu ⟨hA,rfl,xo,⟨e6,hR⟩⟩;obtain ⟨C,J,T,-⟩ := hA;rw [r] at C;rw [s] at J;rw [t] at T;clear xw;replace xq := Chg.more xq xo (by intro b hm;simp only [List.mem_cons,List.not_mem_nil,or_false] at hm;first | (left;omega) | (right;simp [hm];done) | (rcases hm with hm | hm <;> first | (left;omega) | (right;simp [hm])));refine Wp.seq ?_;refine sRg fun K' gd hK => ?_;go_simp;apply hK;clear hK K' gd;refine Wp.keep [0,1,2,6,12] ?_;rintro r4 ⟨D,K,U,aa,G,-⟩;simp [go_sem,C,J,T,e6] at D K U aa G;clear C J T e6
  by_cases hu2 : (u : Int) + 1 < (n : Int)
  ·refine cTt ?_;obtain ⟨L,hL⟩ : ∃ L,∃ _u : Unit,sortI (xs.take (u + 1)) = L := ⟨_,(),rfl⟩;have hLl : ∃ _u : Unit,L.length = u + 1 := ⟨(),by rw [← hL.choose_spec,sortI_len,List.length_take];omega⟩;obtain ⟨x,R,hx,hR9⟩ : ∃ x R,xs.drop (u + 1) = x :: R ∧ ∃ _u : Unit,sortI (xs.take (u + 2)) ++ xs.drop (u + 2) = insI L x ++ R := ⟨xs[u + 1],xs.drop (u + 2),drop_cons (by omega),(),by rw [take_snoc (show u + 1 < xs.length by omega),sortI_snoc,hL.choose_spec]⟩;rw [hL.choose_spec,hx] at hR;clear hx;have hRl : R.length + L.length + 1 = n := by have h1 := congrArg List.length hR9.choose_spec;have h2 := insI_len L x;simp only [List.length_append,sortI_len,List.length_take,List.length_drop] at h1;omega
   refine skN ?_;refine sBk ?_;refine sRg fun K' gd hK => ?_;go_simp;apply hK;clear hK K' gd;refine Wp.keep [0,1,2,6,7] ?_;rintro r5 ⟨E,M,V,ab,av,-⟩;simp [go_sem,D,K,U,aa,G] at E M V ab av;clear D K U aa G;refine Wp.block ?_;refine Wp.loop (fun k ρ ds wk => AllEq [0,1,2,6] ρ r5 ∧ ds = [] ∧ (Chg [b] wu wk) ∧ (∃ (j : Nat) (P S : List Int),ρ 7 = .int .i64 (j : Int) ∧ (∃ _u : Unit,j + k = u + 1 ∧ P.length = j ∧ L = P ++ S ∧ insPos L x L.length = insPos L x j) ∧ RowJ wk b (P ++ x :: (S ++ R)))) (u + 1) ?_ ?_
   ·refine ⟨AllEq.refl _ _,rfl,Chg.refl _ _,?_⟩;exact ⟨u + 1,L,[],by rw [av];rfl,⟨(),by omega,hLl.choose_spec,by simp,by rw [hLl.choose_spec]⟩,hR⟩
   ·rintro k r6 _ wk hk ⟨hA,rfl,xi,⟨j,P,S,e7,hI,hR⟩⟩;obtain ⟨d,g,l,o,-⟩ := hA;rw [E] at d;rw [M] at g;rw [V] at l;rw [ab] at o;replace xq := Chg.more xq xi (by intro b hm;simp only [List.mem_cons,List.not_mem_nil,or_false] at hm;first | (left;omega) | (right;simp [hm];done) | (rcases hm with hm | hm <;> first | (left;omega) | (right;simp [hm])));replace xo := Chg.more xo xi (by intro b hm;simp only [List.mem_cons,List.not_mem_nil,or_false] at hm;first | (left;omega) | (right;simp [hm];done) | (rcases hm with hm | hm <;> first | (left;omega) | (right;simp [hm])))
    by_cases hj0 : j = 0
    ·skip;have hfin : ∃ _u : Unit,insI L x ++ R = P ++ x :: (S ++ R) := ⟨(),by obtain ⟨-,h2,h3,h4⟩ := hI.choose_spec;exact ins_done h2 h3 h4 (by rw [hj0];rfl)⟩;refine Wp.seq ?_;refine Wp.seqDraw (.inl rfl) mixed [([0,1,2,3],none),([4,5,6,7,8],none),([9,10,11,12],some (13,false)),([14],none)] (by kernel_rfl) fun K' gd hK hg => ?_;have g3 : gd 3 = some 19 := hg 3;clear hg;simp only [pick,nth,List.map_cons,List.map_nil,Option.map_none,Option.map_some];refine Mops.absD fun D4 hD4 zD4 => ?_;replace hR := hR.ext hD4;replace xq := Chg.ext xq hD4;replace xo := Chg.ext xo hD4;replace xi := Chg.ext xi hD4;clear hD4;apply Mops.none
     ·intro w' hE';go_simp;with_reducible rfl
     apply Mops.none
     ·intro w' hE';go_simp;with_reducible rfl
     apply Mops.act
     ·intro w' hE';go_simp;with_reducible rfl
     intro K1 hK1;go_simp;refine hK1 _ _ (Ext.refl _) ?_;clear hK1 K1;apply Mops.none
     ·intro w' hE';go_simp;with_reducible rfl
     refine Mops.done ?_;apply hK;clear hK K' gd g3;refine Wp.keep [0,1,2,6,7,30] ?_;rintro r7 ⟨F,N,X,ac,ae,Y,-⟩;simp [go_sem,d,g,l,o,e7] at F N X ac ae Y;clear d g l o e7;refine cFf ?_;refine Wp.exit ?_;refine tEx ?_;refine tEx ?_;refine blockK_here ?_;refine bNo ?_;refine tNo ?_;refine lRg fun K' gd hK => ?_;go_simp;apply hK;clear hK K' gd;refine Ends.keep [0,1,2,6] ?_;rintro r8 ⟨ah,ak,an,ar,-⟩;simp [go_sem,F,N,X,ac,ae,Y] at ah ak an ar;clear F N X ac ae Y;refine Ends.mk ?_;refine thenK_normal ⟨by omega,⟨by rw [ah,r],by rw [ak,s],by rw [an,t],trivial⟩,rfl,xo,?_⟩;exact ⟨by rw [ar,IntWalk.i64_in _ (by omega)];rfl,by rw [hR9.choose_spec,hfin.choose_spec];exact hR⟩
    ·skip;obtain ⟨q,P2,y,hq,hP2⟩ : ∃ q P2 y,(∃ _u : Unit,j = q + 1 ∧ P2.length = q) ∧ P = P2 ++ [y] := by obtain ⟨h1,h2,h3,h4⟩ := hI.choose_spec;rcases List.eq_nil_or_concat P with e | ⟨P2,y,e⟩;(rw [e] at h2;exact absurd h2.symm hj0);(exact ⟨P2.length,P2,y,⟨(),by rw [← h2,e];simp,rfl⟩,by rw [e,List.concat_eq_append]⟩)
     subst hP2;rw [List.append_assoc,List.singleton_append] at hR;obtain ⟨hq1,hq2⟩ := hq.choose_spec;obtain ⟨hjk,hPj,hLS,hps⟩ := hI.choose_spec;have hlen := congrArg List.length hLS;simp only [List.length_append,List.length_cons,List.length_nil] at hlen;have d1 := hR.c q (by simp;omega);have d0 := hR.c j (by simp;omega);rw [show gI (P2 ++ y :: x :: (S ++ R)) q = y by rw [← hq2];exact gI_mid _ _ _] at d1;rw [show gI (P2 ++ y :: x :: (S ++ R)) j = x by rw [hq1,← hq2];unfold gI;simp] at d0;have fb := hR.fz;have hw1 : IntKind.i64.wrap ((j : Int) - 1) = (q : Int) := by rw [IntWalk.i64_in _ (by omega)];omega
     have hjp : 0 < j := by omega
     have hjn : j < n := by omega
     have hqn : q < n := by omega
     have hstep : ∃ _u : Unit,x < y → insPos L x j = insPos L x q := ⟨(),fun h => by rw [hq1,hLS,List.append_assoc,List.singleton_append,← hq2];exact insPos_step h⟩;have hstop : ∃ _u : Unit,¬ x < y → insPos L x j = j := ⟨(),fun h => by rw [hq1,hLS,List.append_assoc,List.singleton_append,← hq2];exact insPos_stop h⟩;have hL2 : ∃ _u : Unit,L = P2 ++ y :: S := ⟨(),by rw [hLS];simp⟩;clear hjk hPj hLS hps hlen hq1 hq2;refine Wp.seq ?_;refine Wp.seqDraw (.inl rfl) mixed [([0,1,2,3],none),([4,5,6,7,8],none),([9,10,11,12],some (13,false)),([14],none)] (by kernel_rfl) fun K' gd hK hg => ?_;have g3 : gd 3 = some 19 := hg 3;clear hg;simp only [pick,nth,List.map_cons,List.map_nil,Option.map_none,Option.map_some];refine Mops.absD fun D5 hD5 zD5 => ?_;replace fb := hD5.fz d0 fb;replace hR := hR.ext hD5;replace xq := Chg.ext xq hD5;replace xo := Chg.ext xo hD5;replace xi := Chg.ext xi hD5;replace d1 := hD5.cell d1;replace d0 := hD5.cell d0;clear hD5;apply Mops.none
     ·intro w' hE';go_simp;with_reducible rfl
     refine mNo ?_
     refine mAc ?_
     intro K1 hK1;go_simp;refine Wcall (.inl rfl) (less_c x y _) ?_;rintro v w2 ⟨rfl,hE⟩;go_simp;refine hK1 _ _ (by assumption) ?_;clear hK1 K1;replace fb := hE.fz d0 fb;replace hR := hR.ext hE;replace xq := Chg.ext xq hE;replace xo := Chg.ext xo hE;replace xi := Chg.ext xi hE;replace d1 := hE.cell d1;replace d0 := hE.cell d0;clear hE;apply Mops.none
     ·intro w' hE';go_simp;with_reducible rfl
     refine Mops.done ?_;apply hK;clear hK K' gd g3;refine Wp.keep [0,1,2,6,7,30] ?_;rintro r10 ⟨a,f,i,m,p,z,-⟩;simp [go_sem,d,g,l,o,e7] at a f i m p z;clear d g l o e7
     by_cases hlt : x < y
     ·skip;obtain ⟨hS1,hS2⟩ := swapJ hR hq.choose_spec.2.symm hq.choose_spec.1;refine cTt ?_;refine skN ?_;refine sBk ?_;refine Wp.loneDrawT (.inl rfl) mixed (.rd [0,1,5,6,7,8,9,10,11,12,13,14] (.both (.act 2 false (.both (.act 3 false (.both (.act 4 false (.act 15 true (.act 16 true (.act 17 true .done)))) (.act 15 true (.act 4 false (.act 16 true (.act 17 true .done)))))) (.act 15 true (.act 3 false (.act 4 false (.act 16 true (.act 17 true .done))))))) (.both (.act 3 false (.both (.act 2 false (.both (.act 4 false (.act 15 true (.act 16 true (.act 17 true .done)))) (.act 15 true (.act 4 false (.act 16 true (.act 17 true .done)))))) (.both (.act 4 false (.both (.act 2 false (.act 15 true (.act 16 true (.act 17 true .done)))) (.act 15 true (.act 2 false (.act 16 true (.act 17 true .done)))))) (.act 15 true (.both (.act 2 false (.act 4 false (.act 16 true (.act 17 true .done)))) (.act 4 false (.act 2 false (.act 16 true (.act 17 true .done))))))))) (.act 15 true (.both (.act 2 false (.act 3 false (.act 4 false (.act 16 true (.act 17 true .done))))) (.act 3 false (.both (.act 2 false (.act 4 false (.act 16 true (.act 17 true .done)))) (.act 4 false (.act 2 false (.act 16 true (.act 17 true .done))))))))))) (by kernel_rfl) (fun ρ W => AllEq [0,1,2,6,7] ρ r10 ∧ (RowJ W b (P2 ++ x :: y :: (S ++ R)) ∧ Chg [b] wu W ∧ Chg [b] w W ∧ Chg [b] w W)) (fun K' gd hK hg => ?_) ?_
      ·skip;clear hg;simp only [pickT,nth,List.map_cons,List.map_nil];apply Mtree.reads
       ·intro w' hE';have hC' := hE'.cellsS;go_simp;with_reducible rfl
       repeat' first
        | refine Mtree.two ?_ ?_
        | (refine Mtree.fin ?_;refine hK _ _ ⟨by simp [AllEq,go_sem],?_⟩;exact ⟨hS1,xi.more hS2 (by simp),xo.more hS2 (by simp),xq.more hS2 (by simp)⟩)
        | (refine Mtree.stepT fun K1 hK1 => ?_;go_simp;apply hK1;clear hK1 K1)
        | (refine Mtree.step fun K1 hK1 => ?_;go_simp;refine hK1 _ _ XA ?_;clear hK1 K1)
      ·rintro r11 W ⟨hA,hR2,xi,xo,xq⟩;obtain ⟨B,I,Q,Z,ad,-⟩ := hA;rw [a] at B;rw [f] at I;rw [i] at Q;rw [m] at Z;rw [p] at ad;clear a f i m p z;refine Ends.mk ?_;refine bNo ?_;refine tNo ?_;refine lRg fun K' gd hK => ?_;go_simp;apply hK;clear hK K' gd;refine Ends.keep [0,1,2,6,7] ?_;rintro r12 ⟨af,ai,al,ao,au,-⟩;simp [go_sem,B,I,Q,Z,ad] at af ai al ao au;clear B I Q Z ad;refine Ends.mk ?_;refine thenK_normal ⟨by omega,⟨by rw [af,E],by rw [ai,M],by rw [al,V],by rw [ao,ab],trivial⟩,rfl,xi,?_⟩;exact ⟨q,P2,y :: S,by rw [au],⟨(),by have := hq.choose_spec;have := hI.choose_spec;omega,hq.choose_spec.2,hL2.choose_spec,by rw [hI.choose_spec.2.2.2,hstep.choose_spec hlt]⟩,by simpa using hR2⟩
     ·skip;have hfin : ∃ _u : Unit,insI L x ++ R = (P2 ++ [y]) ++ x :: (S ++ R) := ⟨(),by obtain ⟨-,h2,h3,h4⟩ := hI.choose_spec;exact ins_done h2 h3 h4 (hstop.choose_spec hlt)⟩;refine cFf ?_;refine Wp.exit ?_;refine tEx ?_;refine tEx ?_;refine blockK_here ?_;refine bNo ?_;refine tNo ?_;refine lRg fun K' gd hK => ?_;go_simp;apply hK;clear hK K' gd;refine Ends.keep [0,1,2,6] ?_;rintro r13 ⟨ag,aj,am,ap,-⟩;simp [go_sem,a,f,i,m,p,z] at ag aj am ap;clear a f i m p z;refine Ends.mk ?_;refine thenK_normal ⟨by omega,⟨by rw [ag,r],by rw [aj,s],by rw [am,t],trivial⟩,rfl,xo,?_⟩;exact ⟨by rw [ap,IntWalk.i64_in _ (by omega)];rfl,by rw [hR9.choose_spec,hfin.choose_spec];simpa using hR⟩
  ·refine cFf ?_;have hun : u + 1 = n := by omega
   refine Wp.exit ?_;refine tEx ?_;refine tEx ?_;refine blockK_here ?_;refine endN_none Tryz.results198 ?_;exact ⟨by rw [hun,List.take_of_length_le (by omega),List.drop_of_length_le (by omega),List.append_nil] at hR;exact hR,xq⟩
theorem insertion0_c (A : Option Addr) (c : Nat) (w : World) : CallsV Tryz.prog 198 #[.slice A 0 c,.int .i64 0,.int .i64 ((0 : Nat) : Int)] w fun _ w' => True ∧ Ext w w' := by
 refine Wp.fn Tryz.func198 rfl Tryz.ntmps198 (by simp) ?_;have xw := Ext.refl w;refine Wp.keep [0,1,2] ?_;rintro r1 ⟨a,d,f,-⟩;simp [go_sem] at a d f;refine sRg fun K' gd hK => ?_;go_simp;apply hK;clear hK K' gd;refine Wp.keep [0,1,2,6] ?_;rintro r2 ⟨h,i,j,l,-⟩;simp [go_sem,a,d,f] at h i j l;clear a d f;refine Wp.block ?_;refine Wp.loop (fun k ρ ds wk => AllEq [0,1,2] ρ r2 ∧ ds = [] ∧ (Ext w wk) ∧ (ρ 6 = .int .i64 1)) (0) ?_ ?_
 ·refine ⟨AllEq.refl _ _,rfl,Ext.refl _,?_⟩;rw [l];rfl
 ·rintro k r3 _ wk hk ⟨hA,rfl,xl1,e6⟩;obtain ⟨b,e,g,-⟩ := hA;rw [h] at b;rw [i] at e;rw [j] at g;replace xw := Ext.trans xw xl1;refine Wp.seq ?_;refine sRg fun K' gd hK => ?_;go_simp;apply hK;clear hK K' gd;refine Wp.keep [0,1,2,6,12] ?_;rintro r4 ⟨m,o,p,q,n,-⟩;simp [go_sem,b,e,g,e6] at m o p q n;clear b e g e6;refine cFf ?_;refine Wp.exit ?_;refine tEx ?_;refine tEx ?_;refine blockK_here ?_;refine endN_none Tryz.results198 ?_;exact ⟨trivial,xw⟩
theorem pdq_c (b n c : Nat) (r : Int) (xs : List Int) (w : World) (h : RowJ w b xs) (hn : xs.length = n) (hn2 : n ≤ 12) :
  CallsV Tryz.prog 168 #[.slice (some ⟨b,0,none⟩) n c,.int .i64 0,.int .i64 (n : Int),.int .i64 r] w fun _ w' => RowJ w' b (sortI xs) ∧ Chg [b] w w' := by
 have hw1 : IntKind.i64.wrap (n : Int) = (n : Int) := IntWalk.i64_in _ (by omega);have hn12 : (n : Int) ≤ 12 := by omega
 refine Wp.fn Tryz.func168 rfl Tryz.ntmps168 (by simp) ?_;have xw := Ext.refl w;refine Wp.keep [0,1,2,3] ?_;rintro r1 ⟨a,i,m,q,-⟩;simp [go_sem] at a i m q;have xq := Chg.refl [b] w;refine sRg fun K' gd hK => ?_;go_simp;apply hK;clear hK K' gd;refine Wp.keep [0,1,2,3,8] ?_;rintro r2 ⟨d,j,o,s,u,-⟩;simp [go_sem,a,i,m,q] at d j o s u;clear a i m q;refine sRg fun K' gd hK => ?_;go_simp;apply hK;clear hK K' gd;refine Wp.keep [0,1,2,3,8,9] ?_;rintro r3 ⟨z,C,F,K,L,M,-⟩;simp [go_sem,d,j,o,s,u] at z C F K L M;clear d j o s u;refine Wp.block ?_;refine Wp.loop (fun k ρ ds wk => AllEq [0] ρ r3 ∧ ds = [] ∧ (Ext w wk) ∧ (∃ z3 z8 z9,k = 0 ∧ ρ 1 = .int .i64 0 ∧ ρ 2 = .int .i64 (n : Int) ∧ ρ 3 = z3 ∧ ρ 8 = z8 ∧ ρ 9 = z9 ∧ RowJ wk b xs)) (1) ?_ ?_
 ·refine ⟨AllEq.refl _ _,rfl,Ext.refl _,?_⟩;exact ⟨_,_,_,rfl,C,F,rfl,rfl,rfl,h⟩
 ·rintro k r4 _ wk hk ⟨hA,rfl,xl2,⟨z3,z8,z9,hk0,e1,e2,e3,e8,e9,hR⟩⟩;obtain ⟨e,-⟩ := hA;rw [z] at e;replace xw := Ext.trans xw xl2;replace xq := Chg.ext xq xl2;refine Wp.block ?_;refine sRg fun K' gd hK => ?_;go_simp;apply hK;clear hK K' gd;refine Wp.keep [0,1,2,3,8,9,10] ?_;rintro r5 ⟨f,l,p,t,x,y,g,-⟩;simp [go_sem,e,e1,e2,e3,e8,e9] at f l p t x y g;clear e e1 e2 e3 e8 e9;refine Wp.seq ?_;refine sRg fun K' gd hK => ?_;go_simp;apply hK;clear hK K' gd;refine Wp.keep [0,1,2,3,8,9,10,23] ?_;rintro r6 ⟨A,D,G,H,I,J,B,E,-⟩;simp [go_sem,f,l,p,t,x,y,g] at A D G H I J B E;clear f l p t x y g;refine cTt ?_;refine sRg fun K' gd hK => ?_;refine cu4 fun K1 hK1 => ?_;go_simp;refine Wcall (.inl rfl) (insertion_c b n c xs _ hR hn hn2) ?_;rintro v w2 ⟨hS,hE⟩;go_simp;apply hK1;clear hK1 K1;clear xw;replace xq := Chg.more xq hE (by intro b hm;simp only [List.mem_cons,List.not_mem_nil,or_false] at hm;first | (left;omega) | (right;simp [hm];done) | (rcases hm with hm | hm <;> first | (left;omega) | (right;simp [hm])))
  clear xl2;try simp only [Wops_nil,updO_some,updO_none]
  apply hK;clear hK K' gd;refine Wp.keep [] fun r8 hkeep => ?_;clear hkeep;clear A D G H I J B E;refine Wp.ret ?_;refine tRe ?_;refine bRe ?_;refine tRe ?_;refine bRe ?_;refine endK_none Tryz.results168 ?_;exact ⟨hS,xq⟩
theorem pdq0_c (A : Option Addr) (c : Nat) (r : Int) (w : World) :
  CallsV Tryz.prog 168 #[.slice A 0 c,.int .i64 0,.int .i64 ((0 : Nat) : Int),.int .i64 r] w fun _ w' => True ∧ Ext w w' := by
 have hw0 : IntKind.i64.wrap 0 = 0 := rfl;refine Wp.fn Tryz.func168 rfl Tryz.ntmps168 (by simp) ?_;have xw := Ext.refl w;refine Wp.keep [0,1,2,3] ?_;rintro r1 ⟨a,g,j,n,-⟩;simp [go_sem] at a g j n;refine sRg fun K' gd hK => ?_;go_simp;apply hK;clear hK K' gd;refine Wp.keep [0,1,2,3,8] ?_;rintro r2 ⟨b,h,l,o,q,-⟩;simp [go_sem,a,g,j,n] at b h l o q;clear a g j n;refine sRg fun K' gd hK => ?_;go_simp;apply hK;clear hK K' gd;refine Wp.keep [0,1,2,3,8,9] ?_;rintro r3 ⟨u,z,D,I,J,K,-⟩;simp [go_sem,b,h,l,o,q] at u z D I J K;clear b h l o q;refine Wp.block ?_;refine Wp.loop (fun k ρ ds wk => AllEq [0] ρ r3 ∧ ds = [] ∧ (Ext w wk) ∧ (∃ z3 z8 z9,k = 0 ∧ ρ 1 = .int .i64 0 ∧ ρ 2 = .int .i64 0 ∧ ρ 3 = z3 ∧ ρ 8 = z8 ∧ ρ 9 = z9)) (1) ?_ ?_
 ·refine ⟨AllEq.refl _ _,rfl,Ext.refl _,?_⟩;exact ⟨_,_,_,rfl,z,D,rfl,rfl,rfl⟩
 ·rintro k r4 _ wk hk ⟨hA,rfl,xl1,⟨z3,z8,z9,hk0,e1,e2,e3,e8,e9⟩⟩;obtain ⟨d,-⟩ := hA;rw [u] at d;replace xw := Ext.trans xw xl1;refine Wp.block ?_;refine sRg fun K' gd hK => ?_;go_simp;apply hK;clear hK K' gd;refine Wp.keep [0,1,2,3,8,9,10] ?_;rintro r5 ⟨e,i,m,p,s,t,f,-⟩;simp [go_sem,d,e1,e2,e3,e8,e9] at e i m p s t f;clear d e1 e2 e3 e8 e9;refine Wp.seq ?_;refine sRg fun K' gd hK => ?_;go_simp;apply hK;clear hK K' gd;refine Wp.keep [0,1,2,3,8,9,10,23] ?_;rintro r6 ⟨x,B,E,F,G,H,y,C,-⟩;simp [go_sem,e,i,m,p,s,t,f] at x B E F G H y C;clear e i m p s t f;refine cTt ?_;refine sRg fun K' gd hK => ?_;refine cu4 fun K1 hK1 => ?_;go_simp;refine Wcall (.inl rfl) (insertion0_c A c _) ?_;rintro v w2 ⟨-,hE⟩;go_simp;apply hK1;clear hK1 K1;replace xw := xw.trans hE;replace xl1 := xl1.trans hE;clear hE;try simp only [Wops_nil,updO_some,updO_none]
  apply hK;clear hK K' gd;refine Wp.keep [] fun r8 hkeep => ?_;clear hkeep;clear x B E F G H y C;refine Wp.ret ?_;refine tRe ?_;refine bRe ?_;refine tRe ?_;refine bRe ?_;refine endK_none Tryz.results168 ?_;exact ⟨trivial,xw⟩
theorem sort_c (b n c : Nat) (xs : List Int) (w : World) (h : RowJ w b xs) (hn : xs.length = n) (hn2 : n ≤ 12) :
  CallsV Tryz.prog 105 #[.slice (some ⟨b,0,none⟩) n c] w fun _ w' => RowJ w' b (sortI xs) ∧ Chg [b] w w' := by
 have hw1 : IntKind.u64.wrap (n : Int) = (n : Int) := by unfold IntKind.wrap;simp [IntKind.signed,IntKind.bits];omega
 refine Wp.fn Tryz.func105 rfl Tryz.ntmps105 (by simp) ?_;have xw := Ext.refl w;refine Wp.keep [0] ?_;rintro r1 ⟨a,-⟩;simp [go_sem] at a;have xq := Chg.refl [b] w;refine sRg fun K' gd hK => ?_;go_simp;apply hK;clear hK K' gd;refine Wp.keep [0,2] ?_;rintro r2 ⟨d,e,-⟩;simp [go_sem,a] at d e;clear a;refine lRg fun K' gd hK => ?_;refine cu5 fun K1 hK1 => ?_;go_simp;refine Wcall (.inl rfl) (len_c n hn2 _) ?_;rintro v w2 ⟨⟨r,rfl⟩,hE⟩;go_simp;apply hK1;clear hK1 K1;replace xw := xw.trans hE;replace xq := Chg.ext xq hE;clear hE;refine cu1 fun K1 hK1 => ?_;go_simp;refine Wcall (.inl rfl) (pdq_c b n c r xs _ (h.ext xw) hn hn2) ?_;rintro v w3 ⟨hS,hE⟩;go_simp;apply hK1;clear hK1 K1;clear xw;replace xq := Chg.more xq hE (by intro b hm;simp only [List.mem_cons,List.not_mem_nil,or_false] at hm;first | (left;omega) | (right;simp [hm];done) | (rcases hm with hm | hm <;> first | (left;omega) | (right;simp [hm])));try simp only [Wops_nil,updO_some,updO_none]
 apply hK;clear hK K' gd;refine Ends.keep [] fun r5 hkeep => ?_;clear hkeep;clear d e;refine Ends.mk ?_;refine endN_none Tryz.results105 ?_;exact ⟨hS,xq⟩
theorem sort0_c (A : Option Addr) (c : Nat) (w : World) : CallsV Tryz.prog 105 #[.slice A 0 c] w fun _ w' => True ∧ Ext w w' := by
 refine Wp.fn Tryz.func105 rfl Tryz.ntmps105 (by simp) ?_;have xw := Ext.refl w;refine Wp.keep [0] ?_;rintro r1 ⟨a,-⟩;simp [go_sem] at a;refine sRg fun K' gd hK => ?_;go_simp;apply hK;clear hK K' gd;refine Wp.keep [0,2] ?_;rintro r2 ⟨b,d,-⟩;simp [go_sem,a] at b d;clear a;refine lRg fun K' gd hK => ?_;refine cu5 fun K1 hK1 => ?_;go_simp;refine Wcall (.inl rfl) (len_c 0 (by omega) _) ?_;rintro v w2 ⟨⟨r,rfl⟩,hE⟩;go_simp;apply hK1;clear hK1 K1;replace xw := xw.trans hE;clear hE;refine cu1 fun K1 hK1 => ?_;go_simp;refine Wcall (.inl rfl) (pdq0_c A c r _) ?_;rintro v w3 ⟨-,hE⟩;go_simp;apply hK1;clear hK1 K1;replace xw := xw.trans hE;clear hE;try simp only [Wops_nil,updO_some,updO_none]
 apply hK;clear hK K' gd;refine Ends.keep [] fun r5 hkeep => ?_;clear hkeep;clear b d;refine Ends.mk ?_;refine endN_none Tryz.results105 ?_;exact ⟨trivial,xw⟩
def posQ (lt : Int → Int → Bool) (l : List Int) (x : Int) : Nat → Nat
 | 0 => 0
 | k + 1 => if lt x (gI l k) = true then posQ lt l x k else k + 1
def insQ (lt : Int → Int → Bool) (l : List Int) (x : Int) : List Int := l.take (posQ lt l x l.length) ++ x :: l.drop (posQ lt l x l.length)
def sortQ (lt : Int → Int → Bool) (l : List Int) : List Int := l.foldl (insQ lt) []
theorem posQ_le (lt : Int → Int → Bool) (l : List Int) (x : Int) : ∀ k,posQ lt l x k ≤ k
 | 0 => Nat.le_refl _
 | k + 1 => by unfold posQ;split;exact Nat.le_succ_of_le (posQ_le lt l x k);exact Nat.le_refl _
theorem insQ_len (lt : Int → Int → Bool) (l : List Int) (x : Int) : (insQ lt l x).length = l.length + 1 := by
 have := posQ_le lt l x l.length;unfold insQ;simp;omega
theorem insQ_mem (lt : Int → Int → Bool) (l : List Int) (x y : Int) : y ∈ insQ lt l x ↔ y = x ∨ y ∈ l := by
 unfold insQ;rw [List.mem_append,List.mem_cons]
 constructor
 ·rintro (h | rfl | h)
  ·exact .inr (List.mem_of_mem_take h)
  ·exact .inl rfl
  ·exact .inr (List.mem_of_mem_drop h)
 ·rintro (rfl | h)
  ·exact .inr (.inl rfl)
  ·rw [← List.take_append_drop (posQ lt l x l.length) l,List.mem_append] at h
   rcases h with h | h
   ·exact .inl h
   ·exact .inr (.inr h)
theorem sortQ_snoc (lt : Int → Int → Bool) (l : List Int) (x : Int) : sortQ lt (l ++ [x]) = insQ lt (sortQ lt l) x := by unfold sortQ;rw [List.foldl_append];rfl
theorem sortQ_mem2 (lt : Int → Int → Bool) (y : Int) : ∀ (l a : List Int),y ∈ l.foldl (insQ lt) a ↔ y ∈ a ∨ y ∈ l
 | [],a => by simp
 | x :: l,a => by
   rw [List.foldl_cons,sortQ_mem2 lt y l,insQ_mem,List.mem_cons]
   constructor
   ·intro h
    rcases h with (h | h) | h
    ·exact .inr (.inl h)
    ·exact .inl h
    ·exact .inr (.inr h)
   ·intro h
    rcases h with h | h | h
    ·exact .inl (.inr h)
    ·exact .inl (.inl h)
    ·exact .inr h
theorem sortQ_mem (lt : Int → Int → Bool) (y : Int) (l : List Int) : y ∈ sortQ lt l ↔ y ∈ l := by unfold sortQ;rw [sortQ_mem2];simp
theorem sortQ_len (lt : Int → Int → Bool) (l : List Int) : (sortQ lt l).length = l.length := by
 have key : ∀ (l a : List Int),(l.foldl (insQ lt) a).length = a.length + l.length := by
  intro l
  induction l with
  | nil => intro a;rfl
  | cons x l ih => intro a;rw [List.foldl_cons,ih,insQ_len,List.length_cons];omega
 unfold sortQ;rw [key];simp
theorem posQ_step {lt : Int → Int → Bool} {P S : List Int} {x y : Int} (h : lt x y = true) : posQ lt (P ++ y :: S) x (P.length + 1) = posQ lt (P ++ y :: S) x P.length := by
 rw [posQ,gI_mid,if_pos h]
theorem posQ_stop {lt : Int → Int → Bool} {P S : List Int} {x y : Int} (h : ¬ lt x y = true) : posQ lt (P ++ y :: S) x (P.length + 1) = P.length + 1 := by
 rw [posQ,gI_mid,if_neg h]
theorem insQ_at {lt : Int → Int → Bool} {P S : List Int} {x : Int} (h : posQ lt (P ++ S) x (P ++ S).length = P.length) : insQ lt (P ++ S) x = P ++ x :: S := by
 unfold insQ;rw [h,List.take_left,List.drop_left]
theorem insQ_done {lt : Int → Int → Bool} {L P S R : List Int} {x : Int} {j : Nat} (hPj : P.length = j) (hLS : L = P ++ S) (hps : posQ lt L x L.length = posQ lt L x j) (h : posQ lt L x j = j) : insQ lt L x ++ R = P ++ x :: (S ++ R) := by
 subst hLS;rw [insQ_at (by rw [hps,h,hPj])];simp
theorem sortQ_one {lt : Int → Int → Bool} {xs : List Int} (h : xs ≠ []) : sortQ lt (xs.take 1) ++ xs.drop 1 = xs := by
 cases xs with
 | nil => exact absurd rfl h
 | cons a t => rfl
theorem insertionQ_c (lt : Int → Int → Bool) (Q : Int → Prop) (D : World → Prop) (gf : Nat) (en1 en2 : Value) (b n c : Nat) (xs : List Int) (w : World) (h : RowJ w b xs) (hn : xs.length = n) (hn2 : n ≤ 12) (hQ : ∀ x ∈ xs,Q x)
  (heg : ∀ args w,(callFunc gf args).run Tryz.prog w = .ok (.enter gf args) w) (hD0 : D w) (hDc : ∀ W W',D W → Chg [b] W W' → D W')
  (hp : ∀ x y,Q x → Q y → ∀ W,D W → CallsV Tryz.prog gf #[.int .i64 x,.int .i64 y,en1,en2] W fun v W' => (∃ r : Int,v = .int .i64 r ∧ decide (r < 0) = lt x y) ∧ Ext W W') :
  CallsV Tryz.prog 224 #[.slice (some ⟨b,0,none⟩) n c,.int .i64 0,.int .i64 (n : Int),.func (.func gf) #[] #[en1,en2]] w fun _ w' => RowJ w' b (sortQ lt xs) ∧ Chg [b] w w' := by
 have hn1 : 1 ≤ n := by have := List.length_pos_iff.2 h.ne;omega
 refine Wp.fn Tryz.func224 rfl Tryz.ntmps224 (by simp) ?_;have xw := Ext.refl w;refine Wp.keep [0,1,2,3] ?_;rintro r1 ⟨F,N,Y,af,-⟩;simp [go_sem] at F N Y af;have xq := Chg.refl [b] w;refine sRg fun K' gd hK => ?_;go_simp;apply hK;clear hK K' gd;refine Wp.keep [0,1,2,3,8] ?_;rintro r2 ⟨z,A,B,E,aH,-⟩;simp [go_sem,F,N,Y,af] at z A B E aH;clear F N Y af;refine Wp.block ?_;refine Wp.loop (fun u ρ ds wu => AllEq [0,1,2,3] ρ r2 ∧ ds = [] ∧ (Chg [b] w wu) ∧ (ρ 8 = .int .i64 ((u : Int) + 1) ∧ RowJ wu b (sortQ lt (xs.take (u + 1)) ++ xs.drop (u + 1)))) (n - 1) ?_ ?_
 ·refine ⟨AllEq.refl _ _,rfl,Chg.refl _ _,?_⟩;exact ⟨by rw [aH];rfl,by rw [sortQ_one h.ne];exact h⟩
 ·rintro u r3 _ wu hu ⟨hA,rfl,xo,⟨e8,hR⟩⟩;obtain ⟨H,T,aa,ah,-⟩ := hA;rw [z] at H;rw [A] at T;rw [B] at aa;rw [E] at ah;clear xw;replace xq := Chg.more xq xo (by intro b hm;simp only [List.mem_cons,List.not_mem_nil,or_false] at hm;first | (left;omega) | (right;simp [hm];done) | (rcases hm with hm | hm <;> first | (left;omega) | (right;simp [hm])));refine Wp.seq ?_;refine sRg fun K' gd hK => ?_;go_simp;apply hK;clear hK K' gd;refine Wp.keep [0,1,2,3,8,14] ?_;rintro r4 ⟨I,U,ab,ai,am,M,-⟩;simp [go_sem,H,T,aa,ah,e8] at I U ab ai am M;clear H T aa ah e8
  by_cases hu2 : (u : Int) + 1 < (n : Int)
  ·refine cTt ?_;obtain ⟨L,hL⟩ : ∃ L,∃ _u : Unit,sortQ lt (xs.take (u + 1)) = L := ⟨_,(),rfl⟩;have hLl : ∃ _u : Unit,L.length = u + 1 := ⟨(),by rw [← hL.choose_spec,sortQ_len,List.length_take];omega⟩;obtain ⟨x,R,hx,hR9⟩ : ∃ x R,xs.drop (u + 1) = x :: R ∧ ∃ _u : Unit,sortQ lt (xs.take (u + 2)) ++ xs.drop (u + 2) = insQ lt L x ++ R := ⟨xs[u + 1],xs.drop (u + 2),drop_cons (by omega),(),by rw [take_snoc (show u + 1 < xs.length by omega),sortQ_snoc,hL.choose_spec]⟩;have hq9 : ∃ _u : Unit,Q x ∧ ∀ y ∈ L,Q y := ⟨(),hQ x (List.mem_of_mem_drop (by rw [hx];exact List.mem_cons_self)),fun y hy => hQ y (by rw [← hL.choose_spec,sortQ_mem] at hy;exact List.mem_of_mem_take hy)⟩;rw [hL.choose_spec,hx] at hR;clear hx;have hRl : R.length + L.length + 1 = n := by have h1 := congrArg List.length hR9.choose_spec;have h2 := insQ_len lt L x;simp only [List.length_append,sortQ_len,List.length_take,List.length_drop] at h1;omega
   refine skN ?_;refine sBk ?_;refine sRg fun K' gd hK => ?_;go_simp;apply hK;clear hK K' gd;refine Wp.keep [0,1,2,3,8,9] ?_;rintro r5 ⟨J,V,ac,aj,an,aK,-⟩;simp [go_sem,I,U,ab,ai,am,M] at J V ac aj an aK;clear I U ab ai am M;refine Wp.block ?_;refine Wp.loop (fun k ρ ds wk => AllEq [0,1,2,3,8] ρ r5 ∧ ds = [] ∧ (Chg [b] wu wk) ∧ (∃ (j : Nat) (P S : List Int),ρ 9 = .int .i64 (j : Int) ∧ (∃ _u : Unit,j + k = u + 1 ∧ P.length = j ∧ L = P ++ S ∧ posQ lt L x L.length = posQ lt L x j) ∧ RowJ wk b (P ++ x :: (S ++ R)))) (u + 1) ?_ ?_
   ·refine ⟨AllEq.refl _ _,rfl,Chg.refl _ _,?_⟩;exact ⟨u + 1,L,[],by rw [aK];rfl,⟨(),by omega,hLl.choose_spec,by simp,by rw [hLl.choose_spec]⟩,hR⟩
   ·rintro k r6 _ wk hk ⟨hA,rfl,xi,⟨j,P,S,e9,hI,hR⟩⟩;obtain ⟨d,g,l,o,s,-⟩ := hA;rw [J] at d;rw [V] at g;rw [ac] at l;rw [aj] at o;rw [an] at s;replace xq := Chg.more xq xi (by intro b hm;simp only [List.mem_cons,List.not_mem_nil,or_false] at hm;first | (left;omega) | (right;simp [hm];done) | (rcases hm with hm | hm <;> first | (left;omega) | (right;simp [hm])));replace xo := Chg.more xo xi (by intro b hm;simp only [List.mem_cons,List.not_mem_nil,or_false] at hm;first | (left;omega) | (right;simp [hm];done) | (rcases hm with hm | hm <;> first | (left;omega) | (right;simp [hm])))
    by_cases hj0 : j = 0
    ·skip;have hfin : ∃ _u : Unit,insQ lt L x ++ R = P ++ x :: (S ++ R) := ⟨(),by obtain ⟨-,h2,h3,h4⟩ := hI.choose_spec;exact insQ_done h2 h3 h4 (by rw [hj0];rfl)⟩;refine Wp.seq ?_;refine Wp.seqDraw (.inl rfl) mixed [([0,1,2,3],none),([4,5,6,7,8],none),([9,10,11,12,13],some (14,false)),([15,16],none)] (by kernel_rfl) fun K' gd hK hg => ?_;have g3 : gd 3 = some 21 := hg 3;clear hg;simp only [pick,nth,List.map_cons,List.map_nil,Option.map_none,Option.map_some];refine Mops.absD fun D4 hD4 zD4 => ?_;replace hR := hR.ext hD4;replace xq := Chg.ext xq hD4;replace xo := Chg.ext xo hD4;replace xi := Chg.ext xi hD4;clear hD4;apply Mops.none
     ·intro w' hE';go_simp;with_reducible rfl
     apply Mops.none
     ·intro w' hE';go_simp;with_reducible rfl
     apply Mops.act
     ·intro w' hE';go_simp;with_reducible rfl
     intro K1 hK1;go_simp;refine hK1 _ _ (Ext.refl _) ?_;clear hK1 K1;apply Mops.none
     ·intro w' hE';go_simp;with_reducible rfl
     refine Mops.done ?_;apply hK;clear hK K' gd g3;refine Wp.keep [0,1,2,3,8,9,34] ?_;rintro r7 ⟨K,X,ad,ak,ao,aq,ae,-⟩;simp [go_sem,d,g,l,o,s,e9] at K X ad ak ao aq ae;clear d g l o s e9;refine cFf ?_;refine Wp.exit ?_;refine tEx ?_;refine tEx ?_;refine blockK_here ?_;refine bNo ?_;refine tNo ?_;refine lRg fun K' gd hK => ?_;go_simp;apply hK;clear hK K' gd;refine Ends.keep [0,1,2,3,8] ?_;rintro r8 ⟨av,ay,aB,aE,aI,-⟩;simp [go_sem,K,X,ad,ak,ao,aq,ae] at av ay aB aE aI;clear K X ad ak ao aq ae;refine Ends.mk ?_;refine thenK_normal ⟨by omega,⟨by rw [av,z],by rw [ay,A],by rw [aB,B],by rw [aE,E],trivial⟩,rfl,xo,?_⟩;exact ⟨by rw [aI,IntWalk.i64_in _ (by omega)];rfl,by rw [hR9.choose_spec,hfin.choose_spec];exact hR⟩
    ·skip;obtain ⟨q,P2,y,hq,hP2⟩ : ∃ q P2 y,(∃ _u : Unit,j = q + 1 ∧ P2.length = q) ∧ P = P2 ++ [y] := by obtain ⟨h1,h2,h3,h4⟩ := hI.choose_spec;rcases List.eq_nil_or_concat P with e | ⟨P2,y,e⟩;(rw [e] at h2;exact absurd h2.symm hj0);(exact ⟨P2.length,P2,y,⟨(),by rw [← h2,e];simp,rfl⟩,by rw [e,List.concat_eq_append]⟩)
     subst hP2;rw [List.append_assoc,List.singleton_append] at hR;obtain ⟨hq1,hq2⟩ := hq.choose_spec;obtain ⟨hjk,hPj,hLS,hps⟩ := hI.choose_spec;have hlen := congrArg List.length hLS;simp only [List.length_append,List.length_cons,List.length_nil] at hlen;have d1 := hR.c q (by simp;omega);have d0 := hR.c j (by simp;omega);rw [show gI (P2 ++ y :: x :: (S ++ R)) q = y by rw [← hq2];exact gI_mid _ _ _] at d1;rw [show gI (P2 ++ y :: x :: (S ++ R)) j = x by rw [hq1,← hq2];unfold gI;simp] at d0;have fb := hR.fz;have hw1 : IntKind.i64.wrap ((j : Int) - 1) = (q : Int) := by rw [IntWalk.i64_in _ (by omega)];omega
     have hjp : 0 < j := by omega
     have hjn : j < n := by omega
     have hqn : q < n := by omega
     have hstep : ∃ _u : Unit,lt x y = true → posQ lt L x j = posQ lt L x q := ⟨(),fun h => by rw [hq1,hLS,List.append_assoc,List.singleton_append,← hq2];exact posQ_step h⟩;have hstop : ∃ _u : Unit,¬ lt x y = true → posQ lt L x j = j := ⟨(),fun h => by rw [hq1,hLS,List.append_assoc,List.singleton_append,← hq2];exact posQ_stop h⟩;have hL2 : ∃ _u : Unit,L = P2 ++ y :: S := ⟨(),by rw [hLS];simp⟩;clear hjk hPj hLS hps hlen hq1 hq2;have hQx : Q x := hq9.choose_spec.1;have hQy : Q y := hq9.choose_spec.2 y (by rw [hL2.choose_spec];simp);refine Wp.seq ?_;refine Wp.seqDraw (.inl rfl) mixed [([0,1,2,3],none),([4,5,6,7,8],none),([9,10,11,12,13],some (14,false)),([15,16],none)] (by kernel_rfl) fun K' gd hK hg => ?_;have g3 : gd 3 = some 21 := hg 3;clear hg;simp only [pick,nth,List.map_cons,List.map_nil,Option.map_none,Option.map_some];refine Mops.absD fun D5 hD5 zD5 => ?_;replace fb := hD5.fz d0 fb;replace hR := hR.ext hD5;replace xq := Chg.ext xq hD5;replace xo := Chg.ext xo hD5;replace xi := Chg.ext xi hD5;replace d1 := hD5.cell d1;replace d0 := hD5.cell d0;clear hD5;apply Mops.none
     ·intro w' hE';go_simp;with_reducible rfl
     refine mNo ?_
     refine mAc ?_
     intro K1 hK1;go_simp;refine Wcall (.inl rfl) (hp x y hQx hQy _ (hDc _ _ hD0 xq)) ?_;rintro v w2 ⟨⟨r,rfl,hr⟩,hE⟩;go_simp;refine hK1 _ _ (by assumption) ?_;clear hK1 K1;replace fb := hE.fz d0 fb;replace hR := hR.ext hE;replace xq := Chg.ext xq hE;replace xo := Chg.ext xo hE;replace xi := Chg.ext xi hE;replace d1 := hE.cell d1;replace d0 := hE.cell d0;clear hE;apply Mops.none
     ·intro w' hE';go_simp;with_reducible rfl
     refine Mops.done ?_;apply hK;clear hK K' gd g3;refine Wp.keep [0,1,2,3,8,9,34] ?_;rintro r10 ⟨a,f,i,m,p,t,C,-⟩;simp [go_sem,d,g,l,o,s,e9] at a f i m p t C;clear d g l o s e9
     by_cases hlt : lt x y = true
     ·skip;obtain ⟨hS1,hS2⟩ := swapJ hR hq.choose_spec.2.symm hq.choose_spec.1;refine cTt ?_;refine skN ?_;refine sBk ?_;refine Wp.loneDrawT (.inl rfl) mixed (.rd [0,1,5,6,7,8,9,10,11,12,13,14] (.both (.act 2 false (.both (.act 3 false (.both (.act 4 false (.act 15 true (.act 16 true (.act 17 true .done)))) (.act 15 true (.act 4 false (.act 16 true (.act 17 true .done)))))) (.act 15 true (.act 3 false (.act 4 false (.act 16 true (.act 17 true .done))))))) (.both (.act 3 false (.both (.act 2 false (.both (.act 4 false (.act 15 true (.act 16 true (.act 17 true .done)))) (.act 15 true (.act 4 false (.act 16 true (.act 17 true .done)))))) (.both (.act 4 false (.both (.act 2 false (.act 15 true (.act 16 true (.act 17 true .done)))) (.act 15 true (.act 2 false (.act 16 true (.act 17 true .done)))))) (.act 15 true (.both (.act 2 false (.act 4 false (.act 16 true (.act 17 true .done)))) (.act 4 false (.act 2 false (.act 16 true (.act 17 true .done))))))))) (.act 15 true (.both (.act 2 false (.act 3 false (.act 4 false (.act 16 true (.act 17 true .done))))) (.act 3 false (.both (.act 2 false (.act 4 false (.act 16 true (.act 17 true .done)))) (.act 4 false (.act 2 false (.act 16 true (.act 17 true .done))))))))))) (by kernel_rfl) (fun ρ W => AllEq [0,1,2,3,8,9] ρ r10 ∧ (RowJ W b (P2 ++ x :: y :: (S ++ R)) ∧ Chg [b] wu W ∧ Chg [b] w W ∧ Chg [b] w W)) (fun K' gd hK hg => ?_) ?_
      ·skip;clear hg;simp only [pickT,nth,List.map_cons,List.map_nil];apply Mtree.reads
       ·intro w' hE';have hC' := hE'.cellsS;go_simp;with_reducible rfl
       repeat' first
        | refine Mtree.two ?_ ?_
        | (refine Mtree.fin ?_;refine hK _ _ ⟨by simp [AllEq,go_sem],?_⟩;exact ⟨hS1,xi.more hS2 (by simp),xo.more hS2 (by simp),xq.more hS2 (by simp)⟩)
        | (refine Mtree.stepT fun K1 hK1 => ?_;go_simp;apply hK1;clear hK1 K1)
        | (refine Mtree.step fun K1 hK1 => ?_;go_simp;refine hK1 _ _ XA ?_;clear hK1 K1)
      ·rintro r11 W ⟨hA,hR2,xi,xo,xq⟩;obtain ⟨G,O,Z,ag,al,ap,-⟩ := hA;rw [a] at G;rw [f] at O;rw [i] at Z;rw [m] at ag;rw [p] at al;rw [t] at ap;clear a f i m p t C;refine Ends.mk ?_;refine bNo ?_;refine tNo ?_;refine lRg fun K' gd hK => ?_;go_simp;apply hK;clear hK K' gd;refine Ends.keep [0,1,2,3,8,9] ?_;rintro r12 ⟨ar,aw,az,aC,aF,aJ,-⟩;simp [go_sem,G,O,Z,ag,al,ap] at ar aw az aC aF aJ;clear G O Z ag al ap;refine Ends.mk ?_;refine thenK_normal ⟨by omega,⟨by rw [ar,J],by rw [aw,V],by rw [az,ac],by rw [aC,aj],by rw [aF,an],trivial⟩,rfl,xi,?_⟩;exact ⟨q,P2,y :: S,by rw [aJ],⟨(),by have := hq.choose_spec;have := hI.choose_spec;omega,hq.choose_spec.2,hL2.choose_spec,by rw [hI.choose_spec.2.2.2,hstep.choose_spec hlt]⟩,by simpa using hR2⟩
     ·skip;have hfin : ∃ _u : Unit,insQ lt L x ++ R = (P2 ++ [y]) ++ x :: (S ++ R) := ⟨(),by obtain ⟨-,h2,h3,h4⟩ := hI.choose_spec;exact insQ_done h2 h3 h4 (hstop.choose_spec hlt)⟩;refine cFf ?_;refine Wp.exit ?_;refine tEx ?_;refine tEx ?_;refine blockK_here ?_;refine bNo ?_;refine tNo ?_;refine lRg fun K' gd hK => ?_;go_simp;apply hK;clear hK K' gd;refine Ends.keep [0,1,2,3,8] ?_;rintro r13 ⟨au,ax,aA,aD,aG,-⟩;simp [go_sem,a,f,i,m,p,t,C] at au ax aA aD aG;clear a f i m p t C;refine Ends.mk ?_;refine thenK_normal ⟨by omega,⟨by rw [au,z],by rw [ax,A],by rw [aA,B],by rw [aD,E],trivial⟩,rfl,xo,?_⟩;exact ⟨by rw [aG,IntWalk.i64_in _ (by omega)];rfl,by rw [hR9.choose_spec,hfin.choose_spec];simpa using hR⟩
  ·refine cFf ?_;have hun : u + 1 = n := by omega
   refine Wp.exit ?_;refine tEx ?_;refine tEx ?_;refine blockK_here ?_;refine endN_none Tryz.results224 ?_;exact ⟨by rw [hun,List.take_of_length_le (by omega),List.drop_of_length_le (by omega),List.append_nil] at hR;exact hR,xq⟩
theorem insertionQ0_c (A : Option Addr) (c : Nat) (cv : Value) (w : World) : CallsV Tryz.prog 224 #[.slice A 0 c,.int .i64 0,.int .i64 ((0 : Nat) : Int),cv] w fun _ w' => True ∧ Ext w w' := by
 refine Wp.fn Tryz.func224 rfl Tryz.ntmps224 (by simp) ?_;have xw := Ext.refl w;refine Wp.keep [0,1,2,3] ?_;rintro r1 ⟨a,d,f,h,-⟩;simp [go_sem] at a d f h;refine sRg fun K' gd hK => ?_;go_simp;apply hK;clear hK K' gd;refine Wp.keep [0,1,2,3,8] ?_;rintro r2 ⟨j,l,m,n,o,-⟩;simp [go_sem,a,d,f,h] at j l m n o;clear a d f h;refine Wp.block ?_;refine Wp.loop (fun k ρ ds wk => AllEq [0,1,2,3] ρ r2 ∧ ds = [] ∧ (Ext w wk) ∧ (ρ 8 = .int .i64 1)) (0) ?_ ?_
 ·refine ⟨AllEq.refl _ _,rfl,Ext.refl _,?_⟩;rw [o];rfl
 ·rintro k r3 _ wk hk ⟨hA,rfl,xl1,e8⟩;obtain ⟨b,e,g,i,-⟩ := hA;rw [j] at b;rw [l] at e;rw [m] at g;rw [n] at i;replace xw := Ext.trans xw xl1;refine Wp.seq ?_;refine sRg fun K' gd hK => ?_;go_simp;apply hK;clear hK K' gd;refine Wp.keep [0,1,2,3,8,14] ?_;rintro r4 ⟨p,r,s,t,u,q,-⟩;simp [go_sem,b,e,g,i,e8] at p r s t u q;clear b e g i e8;refine cFf ?_;refine Wp.exit ?_;refine tEx ?_;refine tEx ?_;refine blockK_here ?_;refine endN_none Tryz.results224 ?_;exact ⟨trivial,xw⟩
theorem stableQ_c (lt : Int → Int → Bool) (Q : Int → Prop) (D : World → Prop) (gf : Nat) (en1 en2 : Value) (b n c : Nat) (xs : List Int) (w : World) (h : RowJ w b xs) (hn : xs.length = n) (hn2 : n ≤ 12) (hQ : ∀ x ∈ xs,Q x)
  (heg : ∀ args w,(callFunc gf args).run Tryz.prog w = .ok (.enter gf args) w) (hD0 : D w) (hDc : ∀ W W',D W → Chg [b] W W' → D W')
  (hp : ∀ x y,Q x → Q y → ∀ W,D W → CallsV Tryz.prog gf #[.int .i64 x,.int .i64 y,en1,en2] W fun v W' => (∃ r : Int,v = .int .i64 r ∧ decide (r < 0) = lt x y) ∧ Ext W W') :
  CallsV Tryz.prog 214 #[.slice (some ⟨b,0,none⟩) n c,.int .i64 (n : Int),.func (.func gf) #[] #[en1,en2]] w fun _ w' => RowJ w' b (sortQ lt xs) ∧ Chg [b] w w' := by
 have h20 : ¬ (20 : Int) ≤ (n : Int) := by omega
 have h20b : ¬ (20 : Int) < (n : Int) := by omega
 refine Wp.fn Tryz.func214 rfl Tryz.ntmps214 (by simp) ?_;have xw := Ext.refl w;refine Wp.keep [0,1,2] ?_;rintro r1 ⟨a,j,q,-⟩;simp [go_sem] at a j q;have xq := Chg.refl [b] w;refine sRg fun K' gd hK => ?_;go_simp;apply hK;clear hK K' gd;refine Wp.keep [0,1,2,6] ?_;rintro r2 ⟨d,l,s,B,-⟩;simp [go_sem,a,j,q] at d l s B;clear a j q;refine sRg fun K' gd hK => ?_;go_simp;apply hK;clear hK K' gd;refine Wp.keep [0,1,2,6,7,8] ?_;rintro r3 ⟨H,J,L,N,P,R,-⟩;simp [go_sem,d,l,s,B] at H J L N P R;clear d l s B;refine sBk ?_;refine Wp.loop (fun k ρ ds wk => AllEq [0,1,2,6] ρ r3 ∧ ds = [] ∧ (Ext w wk) ∧ (ρ 7 = .int .i64 0 ∧ ρ 8 = .int .i64 20)) (0) ?_ ?_
 ·refine ⟨AllEq.refl _ _,rfl,Ext.refl _,?_⟩;exact ⟨by rw [P],by rw [R]⟩
 ·rintro k r4 _ wk hk ⟨hA,rfl,xl2,⟨e7,e8⟩⟩;obtain ⟨e,m,t,C,-⟩ := hA;rw [H] at e;rw [J] at m;rw [L] at t;rw [N] at C;replace xw := Ext.trans xw xl2;replace xq := Chg.ext xq xl2;refine Wp.seq ?_;refine sRg fun K' gd hK => ?_;go_simp;apply hK;clear hK K' gd;refine Wp.keep [0,1,2,6,7,8,13] ?_;rintro r5 ⟨f,o,z,E,F,G,i,-⟩;simp [go_sem,e,m,t,C,e7,e8] at f o z E F G i;clear e m t C e7 e8;refine cFf ?_;refine Wp.exit ?_;refine tEx ?_;refine tEx ?_;refine blockK_here ?_;refine tNo ?_;refine sRg fun K' gd hK => ?_;refine cu5 fun K1 hK1 => ?_;go_simp;refine Wcall (.inl rfl) (insertionQ_c lt Q D gf en1 en2 b n c xs _ (h.ext xw) hn hn2 hQ heg (hDc _ _ hD0 xq) hDc hp) ?_;rintro v w2 ⟨hS,hE⟩;go_simp;apply hK1;clear hK1 K1;clear xw;replace xq := Chg.more xq hE (by intro b hm;simp only [List.mem_cons,List.not_mem_nil,or_false] at hm;first | (left;omega) | (right;simp [hm];done) | (rcases hm with hm | hm <;> first | (left;omega) | (right;simp [hm])));clear xl2;try simp only [Wops_nil,updO_some,updO_none]
  apply hK;clear hK K' gd;refine Wp.keep [0,1,2,6] ?_;rintro r7 ⟨I,K,M,O,-⟩;simp [go_sem,f,o,z,E,F,G,i] at I K M O;clear f o z E F G i;have x9 := Ext.refl w2;refine Wp.block ?_;refine Wp.loop (fun u ρ ds wu => AllEq [0,1,2] ρ r7 ∧ ds = [] ∧ (Ext w2 wu) ∧ (∃ z7 z8,ρ 6 = .int .i64 20 ∧ ρ 7 = z7 ∧ ρ 8 = z8)) (0) ?_ ?_
  ·refine ⟨AllEq.refl _ _,rfl,Ext.refl _,?_⟩;exact ⟨_,_,O,rfl,rfl⟩
  ·rintro u r8 _ wu hu ⟨hA,rfl,xl4,⟨z7,z8,e6,e7,e8⟩⟩;obtain ⟨g,p,A,-⟩ := hA;rw [I] at g;rw [K] at p;rw [M] at A;replace xq := Chg.ext xq xl4;replace x9 := Ext.trans x9 xl4;refine Wp.seq ?_;refine sRg fun K' gd hK => ?_;go_simp;apply hK;clear hK K' gd;refine Wp.keep [0,1,2,6,30] ?_;rintro r9 ⟨S,T,U,X,V,-⟩;simp [go_sem,g,p,A,e6] at S T U X V;clear g p A e6;refine cFf ?_;have hS2 := hS.ext x9;refine Wp.exit ?_;refine tEx ?_;refine tEx ?_;refine blockK_here ?_;refine endN_none Tryz.results214 ?_;exact ⟨hS2,xq⟩
theorem stableQ0_c (A : Option Addr) (c : Nat) (cv : Value) (w : World) : CallsV Tryz.prog 214 #[.slice A 0 c,.int .i64 ((0 : Nat) : Int),cv] w fun _ w' => True ∧ Ext w w' := by
 refine Wp.fn Tryz.func214 rfl Tryz.ntmps214 (by simp) ?_;have xw := Ext.refl w;refine Wp.keep [0,1,2] ?_;rintro r1 ⟨a,h,n,-⟩;simp [go_sem] at a h n;refine sRg fun K' gd hK => ?_;go_simp;apply hK;clear hK K' gd;refine Wp.keep [0,1,2,6] ?_;rintro r2 ⟨b,i,o,s,-⟩;simp [go_sem,a,h,n] at b i o s;clear a h n;refine sRg fun K' gd hK => ?_;go_simp;apply hK;clear hK K' gd;refine Wp.keep [0,1,2,6,7,8] ?_;rintro r3 ⟨B,D,F,H,J,K,-⟩;simp [go_sem,b,i,o,s] at B D F H J K;clear b i o s;refine sBk ?_;refine Wp.loop (fun k ρ ds wk => AllEq [0,1,2,6] ρ r3 ∧ ds = [] ∧ (Ext w wk) ∧ (ρ 7 = .int .i64 0 ∧ ρ 8 = .int .i64 20)) (0) ?_ ?_
 ·refine ⟨AllEq.refl _ _,rfl,Ext.refl _,?_⟩;exact ⟨by rw [J],by rw [K]⟩
 ·rintro k r4 _ wk hk ⟨hA,rfl,xl1,⟨e7,e8⟩⟩;obtain ⟨d,j,p,t,-⟩ := hA;rw [B] at d;rw [D] at j;rw [F] at p;rw [H] at t;replace xw := Ext.trans xw xl1;refine Wp.seq ?_;refine sRg fun K' gd hK => ?_;go_simp;apply hK;clear hK K' gd;refine Wp.keep [0,1,2,6,7,8,13] ?_;rintro r5 ⟨e,l,q,x,y,z,g,-⟩;simp [go_sem,d,j,p,t,e7,e8] at e l q x y z g;clear d j p t e7 e8;refine cFf ?_;refine Wp.exit ?_;refine tEx ?_;refine tEx ?_;refine blockK_here ?_;refine tNo ?_;refine sRg fun K' gd hK => ?_;refine cu5 fun K1 hK1 => ?_;go_simp;refine Wcall (.inl rfl) (insertionQ0_c A c cv _) ?_;rintro v w2 ⟨-,hE⟩;go_simp;apply hK1;clear hK1 K1;replace xw := xw.trans hE;replace xl1 := xl1.trans hE;clear hE;try simp only [Wops_nil,updO_some,updO_none]
  apply hK;clear hK K' gd;refine Wp.keep [0,1,2,6] ?_;rintro r7 ⟨C,E,G,I,-⟩;simp [go_sem,e,l,q,x,y,z,g] at C E G I;clear e l q x y z g;refine Wp.block ?_;refine Wp.loop (fun u ρ ds wu => AllEq [0,1,2] ρ r7 ∧ ds = [] ∧ (Ext w2 wu) ∧ (∃ z7 z8,ρ 6 = .int .i64 20 ∧ ρ 7 = z7 ∧ ρ 8 = z8)) (0) ?_ ?_
  ·refine ⟨AllEq.refl _ _,rfl,Ext.refl _,?_⟩;exact ⟨_,_,I,rfl,rfl⟩
  ·rintro u r8 _ wu hu ⟨hA,rfl,xl2,⟨z7,z8,e6,e7,e8⟩⟩;obtain ⟨f,m,r,-⟩ := hA;rw [C] at f;rw [E] at m;rw [G] at r;replace xw := Ext.trans xw xl2;replace xl1 := Ext.trans xl1 xl2;refine Wp.seq ?_;refine sRg fun K' gd hK => ?_;go_simp;apply hK;clear hK K' gd;refine Wp.keep [0,1,2,6,30] ?_;rintro r9 ⟨L,M,N,P,O,-⟩;simp [go_sem,f,m,r,e6] at L M N P O;clear f m r e6;refine cFf ?_;refine Wp.exit ?_;refine tEx ?_;refine tEx ?_;refine blockK_here ?_;refine endN_none Tryz.results214 ?_;exact ⟨trivial,xw⟩
theorem sortQ_c (lt : Int → Int → Bool) (Q : Int → Prop) (D : World → Prop) (gf : Nat) (en1 en2 : Value) (b n c : Nat) (xs : List Int) (w : World) (h : RowJ w b xs) (hn : xs.length = n) (hn2 : n ≤ 12) (hQ : ∀ x ∈ xs,Q x)
  (heg : ∀ args w,(callFunc gf args).run Tryz.prog w = .ok (.enter gf args) w) (hD0 : D w) (hDc : ∀ W W',D W → Chg [b] W W' → D W')
  (hp : ∀ x y,Q x → Q y → ∀ W,D W → CallsV Tryz.prog gf #[.int .i64 x,.int .i64 y,en1,en2] W fun v W' => (∃ r : Int,v = .int .i64 r ∧ decide (r < 0) = lt x y) ∧ Ext W W') :
  CallsV Tryz.prog 184 #[.slice (some ⟨b,0,none⟩) n c,.func (.func gf) #[] #[en1,en2]] w fun _ w' => RowJ w' b (sortQ lt xs) ∧ Chg [b] w w' := by
 refine Wp.fn Tryz.func184 rfl Tryz.ntmps184 (by simp) ?_;have xw := Ext.refl w;refine Wp.keep [0,1] ?_;rintro r1 ⟨a,d,-⟩;simp [go_sem] at a d;have xq := Chg.refl [b] w;refine lRg fun K' gd hK => ?_;refine cu5 fun K1 hK1 => ?_;go_simp;refine Wcall (.inl rfl) (stableQ_c lt Q D gf en1 en2 b n c xs _ h hn hn2 hQ heg hD0 hDc hp) ?_;rintro v w2 ⟨hS,hE⟩;go_simp;apply hK1;clear hK1 K1;clear xw;replace xq := Chg.more xq hE (by intro b hm;simp only [List.mem_cons,List.not_mem_nil,or_false] at hm;first | (left;omega) | (right;simp [hm];done) | (rcases hm with hm | hm <;> first | (left;omega) | (right;simp [hm])));try simp only [Wops_nil,updO_some,updO_none]
 apply hK;clear hK K' gd;refine Ends.keep [] fun r3 hkeep => ?_;clear hkeep;clear a d;refine Ends.mk ?_;refine endN_none Tryz.results184 ?_;exact ⟨hS,xq⟩
theorem sortQ0_c (A : Option Addr) (c : Nat) (cv : Value) (w : World) : CallsV Tryz.prog 184 #[.slice A 0 c,cv] w fun _ w' => True ∧ Ext w w' := by
 refine Wp.fn Tryz.func184 rfl Tryz.ntmps184 (by simp) ?_;have xw := Ext.refl w;refine Wp.keep [0,1] ?_;rintro r1 ⟨a,b,-⟩;simp [go_sem] at a b;refine lRg fun K' gd hK => ?_;refine cu5 fun K1 hK1 => ?_;go_simp;refine Wcall (.inl rfl) (stableQ0_c A c cv _) ?_;rintro v w2 ⟨-,hE⟩;go_simp;apply hK1;clear hK1 K1;replace xw := xw.trans hE;clear hE;try simp only [Wops_nil,updO_some,updO_none]
 apply hK;clear hK K' gd;refine Ends.keep [] fun r3 hkeep => ?_;clear hkeep;clear a b;refine Ends.mk ?_;refine endN_none Tryz.results184 ?_;exact ⟨trivial,xw⟩
theorem index_c (v : Value) (xs : List Int) (x : Int) (w : World) (hx : IntsV w w.heap.size v xs) (hl : xs.length ≤ 1000000000000000) :
  CallsV Tryz.prog 189 #[v,.int .i64 x] w fun v w' => (∃ r : Int,v = .int .i64 r ∧ decide (0 ≤ r) = decide (x ∈ xs)) ∧ Ext w w' := by
 obtain ⟨A1,e1,rfl,-⟩ := id hx;refine Wp.fn Tryz.func189 rfl Tryz.ntmps189 (by simp) ?_;have xw := Ext.refl w;refine Wp.keep [0,1] ?_;rintro r1 ⟨i,z,-⟩;simp [go_sem] at i z;refine sRg fun K' gd hK => ?_;go_simp;apply hK;clear hK K' gd;refine Wp.keep [0,1] ?_;rintro r2 ⟨l,B,-⟩;simp [go_sem,i,z] at l B;clear i z;refine Wp.seq ?_;refine sRg fun K' gd hK => ?_;go_simp;apply hK;clear hK K' gd;refine Wp.keep [0,1,7,8] ?_;rintro r3 ⟨m,C,M,ab,-⟩;simp [go_sem,l,B] at m C M ab;clear l B;refine Wp.block ?_;refine Wp.loop (fun k ρ ds wk => AllEq [0,1,7] ρ r3 ∧ ds = [] ∧ (Ext w wk) ∧ (ρ 8 = .int .i64 (k : Int) ∧ (∃ _u : Unit,x ∉ xs.take k))) (xs.length) ?_ ?_
 ·refine ⟨AllEq.refl _ _,rfl,Ext.refl _,?_⟩;exact ⟨by rw [ab];rfl,(),by simp⟩
 ·rintro k r4 _ wk hk ⟨hA,rfl,xl1,⟨e8,hq⟩⟩;obtain ⟨n,D,N,-⟩ := hA;rw [m] at n;rw [C] at D;rw [M] at N;replace xw := Ext.trans xw xl1;refine sRg fun K' gd hK => ?_;go_simp;apply hK;clear hK K' gd;refine Wp.keep [0,1,7,8,9] ?_;rintro r5 ⟨a,d,e,f,g,-⟩;simp [go_sem,n,D,N,e8] at a d e f g;clear n D N e8;refine Wp.seq ?_
  by_cases h : k < xs.length
  ·refine cTt ?_;obtain ⟨b,o,c,ev,hb,hc⟩ := hx.get h
   injection ev with ev1 _ ev2
   subst ev1;subst ev2;have d1 := xw.cell (hc k h);have hkl : (k : Int) < (xs.length : Int) := by omega
   by_cases he : x = gI xs k
   ·skip;refine skN ?_;refine sBk ?_;refine sRg fun K' gd hK => ?_;go_simp;apply hK;clear hK K' gd;refine Wp.keep [0,1,5,7,8] ?_;rintro r6 ⟨p,E,I,O,S,-⟩;simp [go_sem,a,d,e,f,g] at p E I O S;clear a d e f g;refine sRg fun K' gd hK => ?_;go_simp;apply hK;clear hK K' gd;refine Wp.keep [0,1,5,7,8,16] ?_;rintro r7 ⟨s,F,J,P,T,y,-⟩;simp [go_sem,p,E,I,O,S] at s F J P T y;clear p E I O S;refine cTt ?_;have hh : ∃ _u : Unit,x ∈ xs := ⟨(),by rw [he];exact gI_mem h⟩;refine sRg fun K' gd hK => ?_;go_simp;apply hK;clear hK K' gd;refine Wp.keep [4] ?_;rintro r8 ⟨Y,-⟩;simp [go_sem,s,F,J,P,T,y] at Y;clear s F J P T y;refine Wp.ret ?_;refine bRe ?_;refine tRe ?_;refine tRe ?_;refine bRe ?_;refine tRe ?_;refine endK_tmp Tryz.results189 (by decide) ?_;rw [Y];exact ⟨⟨k,rfl,by rw [decide_eq_true hh.choose_spec];exact decide_eq_true (by omega)⟩,xw⟩
   ·skip;refine skN ?_;refine sBk ?_;refine sRg fun K' gd hK => ?_;go_simp;apply hK;clear hK K' gd;refine Wp.keep [0,1,5,7,8] ?_;rintro r9 ⟨t,G,K,Q,U,-⟩;simp [go_sem,a,d,e,f,g] at t G K Q U;clear a d e f g;refine sRg fun K' gd hK => ?_;go_simp;apply hK;clear hK K' gd;refine Wp.keep [0,1,5,7,8,16] ?_;rintro r10 ⟨j,A,H,L,R,u,-⟩;simp [go_sem,t,G,K,Q,U] at j A H L R u;clear t G K Q U;refine cFf ?_;refine Wp.skip ?_;refine bNo ?_;refine tNo ?_;refine lRg fun K' gd hK => ?_;go_simp;apply hK;clear hK K' gd;refine Ends.keep [0,1,7,8] ?_;rintro r11 ⟨V,W,Z,aa,-⟩;simp [go_sem,j,A,H,L,R,u] at V W Z aa;clear j A H L R u;refine Ends.mk ?_;refine thenK_normal ⟨by omega,⟨by rw [V,m],by rw [W,C],by rw [Z,M],trivial⟩,rfl,xl1,?_⟩;exact ⟨by rw [aa,IntWalk.i64_in _ (by omega)];rfl,(),by rw [take_snoc h,List.mem_append,List.mem_singleton,← gI_lt h];exact fun q => q.elim hq.choose_spec he⟩
  ·refine cFf ?_;have hkx : k = xs.length := by omega
   refine Wp.exit ?_;refine tEx ?_;refine tEx ?_;refine blockK_here ?_;refine tNo ?_;refine sRg fun K' gd hK => ?_;go_simp;apply hK;clear hK K' gd;refine Wp.keep [4] ?_;rintro r12 ⟨X,-⟩;simp [go_sem,a,d,e,f,g] at X;clear a d e f g;refine Wp.ret ?_;refine endK_tmp Tryz.results189 (by decide) ?_;rw [X];have q := hq.choose_spec;rw [hkx,List.take_length] at q;exact ⟨⟨-1,rfl,by rw [decide_eq_false q];rfl⟩,xw⟩
theorem contains_c (v : Value) (xs : List Int) (x : Int) (w : World) (hx : IntsV w w.heap.size v xs) (hl : xs.length ≤ 1000000000000000) :
  CallsV Tryz.prog 153 #[v,.int .i64 x] w fun v w' => v = .bool (decide (x ∈ xs)) ∧ Ext w w' := by
 obtain ⟨A1,e1,rfl,-⟩ := id hx;refine Wp.fn Tryz.func153 rfl Tryz.ntmps153 (by simp) ?_;have xw := Ext.refl w;refine Wp.keep [0,1] ?_;rintro r1 ⟨a,c,-⟩;simp [go_sem] at a c;refine sRg fun K' gd hK => ?_;go_simp;apply hK;clear hK K' gd;refine Wp.keep [0,1] ?_;rintro r2 ⟨b,d,-⟩;simp [go_sem,a,c] at b d;clear a c;refine sRg fun K' gd hK => ?_;refine cu3 fun K1 hK1 => ?_;go_simp;refine Wcall (.inl rfl) (index_c _ xs x _ (hx.ext xw) hl) ?_;rintro v w2 ⟨⟨r,rfl,hr⟩,hE⟩;go_simp;apply hK1;clear hK1 K1;replace xw := xw.trans hE;clear hE;go_simp;apply hK;clear hK K' gd;refine Wp.keep [4] ?_;rintro r4 ⟨e,-⟩;simp [go_sem,b,d] at e;clear b d;refine Wp.ret ?_;refine endK_tmp Tryz.results153 (by decide) ?_;rw [e];exact ⟨by first | (rw [hr];done) | rw [← hr],xw⟩
def cntO (cl : List Int) (lo k : Nat) : Nat := ((List.range' lo k).filter fun d : Nat => !decide ((d : Int) ∈ cl)).length
theorem range'_snoc (lo k : Nat) : List.range' lo (k + 1) = List.range' lo k ++ [lo + k] := by
 have := List.range'_concat (s := lo) (n := k) (step := 1);simpa using this
theorem cntO_T {cl : List Int} {lo k : Nat} (h : ((lo + k : Nat) : Int) ∉ cl) : cntO cl lo (k + 1) = cntO cl lo k + 1 := by
 unfold cntO;rw [range'_snoc,List.filter_append,List.length_append,List.filter_cons_of_pos (by rw [decide_eq_false h];rfl)];rfl
theorem cntO_F {cl : List Int} {lo k : Nat} (h : ((lo + k : Nat) : Int) ∈ cl) : cntO cl lo (k + 1) = cntO cl lo k := by
 unfold cntO;rw [range'_snoc,List.filter_append,List.length_append,List.filter_cons_of_neg (by rw [decide_eq_true h];decide)];rfl
theorem openN_get {cl : List Int} {lo k : Nat} {hi : Int} (hk : k < (hi + 1 - (lo : Int)).toNat) (h : ((lo + k : Nat) : Int) ∉ cl) : (openN cl lo hi)[cntO cl lo k]? = some (lo + k) := by
 obtain ⟨m,hm⟩ : ∃ m,(hi + 1 - (lo : Int)).toNat = k + 1 + m := ⟨(hi + 1 - (lo : Int)).toNat - k - 1,by omega⟩;unfold openN cntO;rw [Int.toNat_natCast,hm,← List.range'_append_1 (s := lo) (m := k + 1) (n := m),range'_snoc,List.filter_append,List.filter_append,List.append_assoc,List.getElem?_append_right (Nat.le_refl _),Nat.sub_self,List.filter_cons_of_pos (by rw [decide_eq_false h];rfl)]
 rfl
theorem openN_len {cl : List Int} {lo : Nat} {hi : Int} : (openN cl lo hi).length = cntO cl lo (hi + 1 - (lo : Int)).toNat := by unfold openN cntO;rw [Int.toNat_natCast]
theorem openN_mem {cl : List Int} {lo hi : Int} {d : Nat} (h0 : 0 ≤ lo) : d ∈ openN cl lo hi ↔ lo ≤ (d : Int) ∧ (d : Int) ≤ hi ∧ (d : Int) ∉ cl := by
 unfold openN;rw [List.mem_filter,List.mem_range'_1];simp only [Bool.not_eq_true',decide_eq_false_iff_not]
 constructor
 ·rintro ⟨h1,h2⟩;exact ⟨by omega,by omega,h2⟩
 ·rintro ⟨h1,h2,h3⟩;exact ⟨by omega,h3⟩
def encD (d : Nat) : Array Value := #[.int .i64 (d : Int)]
structure OpenD (W : World) (bs bt S lo : Nat) (hi : Int) (cv : Value) (cl : List Int) : Prop where
 c0 : W.cell? ⟨bs,0,none⟩ = some (.int .i64 (lo : Int))
 c1 : W.cell? ⟨bs,1,none⟩ = some (.int .i64 hi)
 ct : W.cell? ⟨bt,1,none⟩ = some cv
 cl : IntsS W S cv cl
 sz : S ≤ W.heap.size
section
variable {W V : World} {bs bt S lo : Nat} {hi : Int} {cv : Value} {cl : List Int}
theorem OpenD.ext (h : OpenD W bs bt S lo hi cv cl) (hE : Ext W V) : OpenD V bs bt S lo hi cv cl := ⟨hE.cell h.c0,hE.cell h.c1,hE.cell h.ct,h.cl.ext hE,Nat.le_trans h.sz hE.size⟩
theorem OpenD.chg {L : List Nat} (h : OpenD W bs bt S lo hi cv cl) (hC : Chg L W V) (h1 : bs ∉ L) (h2 : bt ∉ L) (hL : ∀ b ∈ L,S ≤ b) : OpenD V bs bt S lo hi cv cl := ⟨Chg.cell hC h.c0 h1,Chg.cell hC h.c1 h1,Chg.cell hC h.ct h2,h.cl.chg hC hL,Nat.le_trans h.sz hC.size⟩
theorem OpenD.adm {m : Nat} (h : OpenD W bs bt S lo hi cv cl) (hA : Adm m W V) : OpenD V bs bt S lo hi cv cl := ⟨hA.cell h.c0,hA.cell h.c1,hA.cell h.ct,h.cl.adm hA,Nat.le_trans h.sz hA.size⟩
end
theorem open_it (bs bt S lo : Nat) (hi : Int) (A : Option Addr) (c : Nat) (cl : List Int) (hl : cl.length ≤ 1000000000000000) (hhi : hi ≤ 1000000) :
  Iter Tryz.prog 173 #[.pointer (some ⟨bs,0,none⟩),.pointer (some ⟨bt,0,none⟩)] encD (fun W => OpenD W bs bt S lo hi (.slice A cl.length c) cl) (openN cl lo hi) := by
 intro l J Jx w hD hJE hJxE hY h0
 show CallsV _ _ #[.func (.yield l) #[] #[],.pointer (some ⟨bs,0,none⟩),.pointer (some ⟨bt,0,none⟩)] _ _
 have d00 := hD _ _ h0;have y0 := d00.c0;clear d00;refine Wp.fn Tryz.func173 rfl Tryz.ntmps173 (by simp) ?_;have xw := Ext.refl w;refine Wp.keep [0,1,2] ?_;rintro r1 ⟨q,t,B,-⟩;simp [go_sem] at q t B;refine sRg fun K' gd hK => ?_;go_simp;apply hK;clear hK K' gd;refine Wp.keep [0,1,2,4] ?_;rintro r2 ⟨n,o,p,O,-⟩;simp [go_sem,q,t,B] at n o p O;clear q t B;refine Wp.block ?_;refine Wp.loop (fun k ρ ds wk => AllEq [0,1,2] ρ r2 ∧ ds = [] ∧ True ∧ (∃ dd : Nat,ρ 4 = .int .i64 (dd : Int) ∧ J (cntO cl lo k) wk ∧ (∃ _u : Unit,dd = lo + k))) ((hi + 1 - (lo : Int)).toNat) ?_ ?_
 ·refine ⟨AllEq.refl _ _,rfl,trivial,?_⟩;exact ⟨lo,O,hJE _ _ _ xw h0,(),rfl⟩
 ·skip;try clear y0
  try clear xw
  rintro k r3 _ wk hk ⟨hA,rfl,-,⟨dd,e4,hJ,hdd⟩⟩;obtain ⟨i,j,m,-⟩ := hA;rw [n] at i;rw [o] at j;rw [p] at m;have xo := Ext.refl wk;have d1 := hD _ _ hJ;have y1 := d1.c1;have yt := d1.ct;have hI := d1.cl.all d1.sz;clear d1
  by_cases h : (dd : Int) ≤ hi
  ·skip;have hkm : k < (hi + 1 - (lo : Int)).toNat := by have := hdd.choose_spec;omega
   refine Wp.seq ?_;refine sRg fun K' gd hK => ?_;go_simp;apply hK;clear hK K' gd;refine Wp.keep [0,1,2,4,10] ?_;rintro r4 ⟨a,d,f,g,b,-⟩;simp [go_sem,i,j,m,e4] at a d f g b;clear i j m e4;refine cTt ?_
   by_cases hc : (dd : Int) ∈ cl
   ·skip;refine skN ?_;refine sBk ?_;refine sRh fun K' gd hK hg => ?_;have g5 : gd 5 = some 18 := hg 5;clear hg;refine cu4 fun K1 hK1 => ?_;go_simp;refine Wcall (.inl rfl) (contains_c _ cl (dd : Int) _ (hI.ext xo) hl) ?_;rintro v w2 ⟨rfl,hE⟩;go_simp;apply hK1;clear hK1 K1;replace xo := xo.trans hE;clear hE;refine cu5 fun K1 hK1 => ?_;go_simp;apply hK1;clear hK1 K1;go_simp;apply hK;clear hK K' gd g5;refine Wp.keep [0,1,2,4,23] ?_;rintro r6 ⟨r,u,C,E,y,-⟩;simp [go_sem,a,d,f,g,b] at r u C E y;clear a d f g b;refine cFf ?_;refine Wp.skip ?_;refine bNo ?_;refine tNo ?_;refine lRg fun K' gd hK => ?_;go_simp;apply hK;clear hK K' gd;refine Ends.keep [0,1,2,4] ?_;rintro r7 ⟨H,K,M,P,-⟩;simp [go_sem,r,u,C,E,y] at H K M P;clear r u C E y;refine Ends.mk ?_;refine thenK_normal ⟨by omega,⟨by rw [H,n],by rw [K,o],by rw [M,p],trivial⟩,rfl,trivial,?_⟩
    exact ⟨dd + 1,by rw [P,IntWalk.i64_in _ (by omega)];rfl,by rw [cntO_F (by rw [← hdd.choose_spec];exact hc)];exact hJE _ _ _ xo hJ,(),by have := hdd.choose_spec;omega⟩
   ·skip;refine skN ?_;refine sBk ?_;refine sRh fun K' gd hK hg => ?_;have g5 : gd 5 = some 18 := hg 5;clear hg;refine cu4 fun K1 hK1 => ?_;go_simp;refine Wcall (.inl rfl) (contains_c _ cl (dd : Int) _ (hI.ext xo) hl) ?_;rintro v w2 ⟨rfl,hE⟩;go_simp;apply hK1;clear hK1 K1;replace xo := xo.trans hE;clear hE;refine cu5 fun K1 hK1 => ?_;go_simp;obtain ⟨fn,tmps,as_,bo,hy,hR⟩ := hY _ dd w2 (by have := hdd.choose_spec;rw [this] at hc ⊢;exact openN_get hkm hc) (hJE _ _ _ xo hJ);simp only [encD] at hy;simp only [hy];refine Wyield (hR) ?_;rintro e w1 (⟨rfl,hJ1⟩ | ⟨rfl,hJx⟩)
    ·refine ⟨_,rfl,?_⟩;clear xo;skip;clear y1;clear yt;go_simp;apply hK1;clear hK1 K1;go_simp;apply hK;clear hK K' gd g5;refine Wp.keep [0,1,2,4,23] ?_;rintro r9 ⟨s,x,D,F,z,-⟩;simp [go_sem,a,d,f,g,b] at s x D F z;clear a d f g b;refine cFf ?_;refine Wp.skip ?_;refine bNo ?_;refine tNo ?_;refine lRg fun K' gd hK => ?_;go_simp;apply hK;clear hK K' gd;refine Ends.keep [0,1,2,4] ?_;rintro r10 ⟨G,I,L,N,-⟩;simp [go_sem,s,x,D,F,z] at G I L N;clear s x D F z;refine Ends.mk ?_;refine thenK_normal ⟨by omega,⟨by rw [G,n],by rw [I,o],by rw [L,p],trivial⟩,rfl,trivial,?_⟩;exact ⟨dd + 1,by rw [N,IntWalk.i64_in _ (by omega)];rfl,by rw [cntO_T (by rw [← hdd.choose_spec];exact hc)];exact hJ1,(),by have := hdd.choose_spec;omega⟩
    ·refine ⟨_,rfl,?_⟩;clear xo;skip;clear y1;clear yt;go_simp;apply hK1;clear hK1 K1;go_simp;apply hK;clear hK K' gd g5;refine Wp.keep [0,1,2,4,23] ?_;rintro r11 ⟨Q,U,Y,aa,X,-⟩;simp [go_sem,a,d,f,g,b] at Q U Y aa X;clear a d f g b;refine cTt ?_;refine Wp.ret ?_;refine bRe ?_;refine tRe ?_;refine tRe ?_;refine bRe ?_;refine endK_none Tryz.results173 ?_;exact .inr hJx
  ·skip;have hkm : k = (hi + 1 - (lo : Int)).toNat := by have := hdd.choose_spec;omega
   refine Wp.seq ?_;refine sRg fun K' gd hK => ?_;go_simp;apply hK;clear hK K' gd;refine Wp.keep [0,1,2,4,10] ?_;rintro r12 ⟨R,V,Z,ab,T,-⟩;simp [go_sem,i,j,m,e4] at R V Z ab T;clear i j m e4;refine cFf ?_;refine Wp.exit ?_;refine tEx ?_;refine tEx ?_;refine blockK_here ?_;refine endN_none Tryz.results173 ?_;rw [openN_len,← hkm];exact .inl (hJE _ _ _ xo hJ)
theorem open_c (cv fv : Value) (n lo hi : Int) (w : World) :
  CallsV Tryz.prog 113 #[.agg #[.int .i64 n,cv,fv],.agg #[.int .i64 lo,.int .i64 hi]] w fun v w' => ∃ bs bt,v = .func (.func 173) #[] #[.pointer (some ⟨bs,0,none⟩),.pointer (some ⟨bt,0,none⟩)] ∧
   Ext w w' ∧ w'.cell? ⟨bs,0,none⟩ = some (.int .i64 lo) ∧ w'.cell? ⟨bs,1,none⟩ = some (.int .i64 hi) ∧ w'.cell? ⟨bt,1,none⟩ = some cv ∧ w.heap.size ≤ bs ∧ w.heap.size ≤ bt := by
 refine Wp.fn Tryz.func113 rfl Tryz.ntmps113 (by simp) ?_;have xw := Ext.refl w;refine Wp.keep [0,1] ?_;rintro r1 ⟨e,f,-⟩;simp [go_sem] at e f;refine sRg fun K' gd hK => ?_;refine cu1 fun K1 hK1 => ?_;go_simp;apply hK1;clear hK1 K1;refine Wops.absA fun m n2 b => ?_;obtain ⟨q2,b,s2,i,f2,r2⟩ := b;try simp only [q2] at i f2 r2 ⊢
 replace xw := xw.trans b;have d := i 1 _ rfl;clear i b;clear r2;refine cu1 fun K1 hK1 => ?_;go_simp;apply hK1;clear hK1 K1;refine Wops.absA fun o n3 a => ?_;obtain ⟨q3,a,s3,c,f3,r3⟩ := a;try simp only [q3] at c f3 r3 ⊢
 replace xw := xw.trans a;replace d := a.cell d;have k := c 0 _ rfl;have l := c 1 _ rfl;clear c a;clear r3;go_simp;apply hK;clear hK K' gd;refine Wp.keep [2,3] ?_;rintro r2 ⟨g,h,-⟩;simp [go_sem,e,f] at g h;clear e f;refine sRg fun K' gd hK => ?_;go_simp;apply hK;clear hK K' gd;refine Wp.keep [4] ?_;rintro r3 ⟨j,-⟩;simp [go_sem,g,h] at j;clear g h;refine Wp.ret ?_;refine endK_tmp Tryz.results113 (by decide) ?_;rw [j];exact ⟨_,_,by first | rfl | go_simp,xw,k,l,d,by omega,by omega⟩
structure HasF (W : World) (hb n : Nat) (h : Nat → Int) : Prop where
 r : RowF W hb n h
 p : 0 < n
section
variable {W V : World} {hb n m : Nat} {h : Nat → Int}
theorem HasF.ext (a : HasF W hb n h) (hE : Ext W V) : HasF V hb n h := ⟨a.r.ext hE,a.p⟩
theorem HasF.chg {L : List Nat} (a : HasF W hb n h) (hC : Chg L W V) (hL : hb ∉ L) : HasF V hb n h := ⟨a.r.chg hC hL,a.p⟩
theorem HasF.put {k i : Nat} {vs : List Value} (a : HasF W hb n h) (p : Put W V k i vs) (hb2 : hb ≠ k) : HasF V hb n h := ⟨a.r.put p hb2,a.p⟩
theorem HasF.adm (a : HasF W hb n h) (hA : Adm m W V) : HasF V hb n h := ⟨a.r.adm a.p hA,a.p⟩
theorem HasF.shut (a : HasF W hb n h) (hS : Shut m W V) : HasF V hb n h :=
 ⟨⟨fun d hd => hS.cell (a.r.c d hd),fun j => by
   rw [← a.r.fz j];exact World.frozen?_of_block (show V.heap[hb]? = W.heap[hb]? from hS.same (a.r.c 0 a.p)),by rw [hS.size];exact a.r.lt⟩,a.p⟩
end
structure TriedF (W : World) (tb : Nat) (t : Nat → Bool) : Prop where
 r : RowT W tb 60 t
section
variable {W V : World} {tb m : Nat} {t : Nat → Bool}
theorem TriedF.ext (a : TriedF W tb t) (hE : Ext W V) : TriedF V tb t := ⟨a.r.ext hE⟩
theorem TriedF.chg {L : List Nat} (a : TriedF W tb t) (hC : Chg L W V) (hL : tb ∉ L) : TriedF V tb t := ⟨a.r.chg hC hL⟩
theorem TriedF.put {k i : Nat} {vs : List Value} (a : TriedF W tb t) (p : Put W V k i vs) (hb2 : tb ≠ k) : TriedF V tb t := ⟨a.r.put p hb2⟩
theorem TriedF.adm (a : TriedF W tb t) (hA : Adm m W V) : TriedF V tb t := ⟨a.r.adm (by omega) hA⟩
theorem TriedF.shut (a : TriedF W tb t) (hS : Shut m W V) : TriedF V tb t :=
 ⟨⟨fun d hd => hS.cell (a.r.c d hd),fun j => by
   rw [← a.r.fz j];exact World.frozen?_of_block (show V.heap[tb]? = W.heap[tb]? from hS.same (a.r.c 0 (by omega))),by rw [hS.size];exact a.r.lt⟩⟩
end
structure GiveD (W : World) (S pp pb tb hx gx hb n : Nat) (A : Option Addr) (c : Nat) (A2 : Option Addr) (c2 : Nat) (t : Tr) : Prop where
 p : W.cell? ⟨pp,0,none⟩ = some (.pointer (some ⟨pb,0,none⟩))
 k0 : W.cell? ⟨pb,0,none⟩ = some (.int .i64 t.n)
 k1 : W.cell? ⟨pb,1,none⟩ = some (.slice A t.cl.length c)
 k2 : W.cell? ⟨pb,2,none⟩ = some (.slice A2 t.fl.length c2)
 fx : W.cell? ⟨hx,0,none⟩ = some (.slice (some ⟨hb,0,none⟩) n n)
 fg : W.cell? ⟨gx,0,none⟩ = some (.func (.func 177) #[] #[.pointer (some ⟨pp,0,none⟩),.pointer (some ⟨tb,0,none⟩),.pointer (some ⟨hx,0,none⟩),.pointer (some ⟨gx,0,none⟩)])
 tour : TourS W S (.agg #[.int .i64 t.n,.slice A t.cl.length c,.slice A2 t.fl.length c2]) t
 s : S ≤ hb ∧ S ≤ tb ∧ S ≤ W.heap.size
 ne : (pp ≠ hb ∧ pp ≠ tb) ∧ (pb ≠ hb ∧ pb ≠ tb) ∧ (hx ≠ hb ∧ hx ≠ tb) ∧ (gx ≠ hb ∧ gx ≠ tb) ∧ hb ≠ tb
section
variable {W V : World} {S pp pb tb hx gx hb n : Nat} {A : Option Addr} {c : Nat} {A2 : Option Addr} {c2 : Nat} {t : Tr}
theorem GiveD.chg {L : List Nat} (h : GiveD W S pp pb tb hx gx hb n A c A2 c2 t) (hC : Chg L W V) (hL : ∀ b,b ≠ hb ∧ b ≠ tb → b ∉ L) : GiveD V S pp pb tb hx gx hb n A c A2 c2 t := by
 obtain ⟨⟨n1,n2⟩,⟨n3,n4⟩,⟨n5,n6⟩,⟨n7,n8⟩,n9⟩ := h.ne;have q : ∀ {b : Nat},b ≠ hb → b ≠ tb → b ∉ L := fun h1 h2 => hL _ ⟨h1,h2⟩
 exact ⟨Chg.cell hC h.p (q n1 n2),Chg.cell hC h.k0 (q n3 n4),Chg.cell hC h.k1 (q n3 n4),Chg.cell hC h.k2 (q n3 n4),Chg.cell hC h.fx (q n5 n6),Chg.cell hC h.fg (q n7 n8),
  h.tour.chg hC (fun b hm => by obtain ⟨s1,s2,-⟩ := h.s;refine Classical.byContradiction fun hs => hL b ⟨by omega,by omega⟩ hm),⟨h.s.1,h.s.2.1,Nat.le_trans h.s.2.2 hC.size⟩,h.ne⟩
theorem GiveD.ext (h : GiveD W S pp pb tb hx gx hb n A c A2 c2 t) (hE : Ext W V) : GiveD V S pp pb tb hx gx hb n A c A2 c2 t := h.chg ((Chg.refl [] W).ext hE) (fun _ _ => by simp)
theorem GiveD.put {k i : Nat} {vs : List Value} (h : GiveD W S pp pb tb hx gx hb n A c A2 c2 t) (p : Put W V k i vs) (hk : k = hb ∨ k = tb) : GiveD V S pp pb tb hx gx hb n A c A2 c2 t := h.chg p.chg (fun b hb2 => by simp;omega)
theorem GiveD.adm {m : Nat} (h : GiveD W S pp pb tb hx gx hb n A c A2 c2 t) (hA : Adm m W V) : GiveD V S pp pb tb hx gx hb n A c A2 c2 t :=
 ⟨hA.cell h.p,hA.cell h.k0,hA.cell h.k1,hA.cell h.k2,hA.cell h.fx,hA.cell h.fg,h.tour.adm hA,⟨h.s.1,h.s.2.1,Nat.le_trans h.s.2.2 hA.size⟩,h.ne⟩
end
theorem give_enters : ∀ args w,(callFunc 177 args).run Tryz.prog w = .ok (.enter 177 args) w := enters_of Tryz.func177 (by kernel_rfl) rfl
theorem give_c (t : Tr) (S pp pb tb qh qg hb n : Nat) (A : Option Addr) (c : Nat) (A2 : Option Addr) (c2 : Nat) (hn : n ≤ 60) (hcl : t.cl.length ≤ 1000000000000000) (hfl : t.fl.length ≤ 1000) (hfd : ∀ k (h : k < t.fl.length),0 ≤ t.fl[k].lo ∧ t.fl[k].hi < n) :
  ∀ (f i : Nat) (h : Nat → Int) (tr : Nat → Bool) (w : World),untr n tr < f → i < t.fl.length → (∀ d,h d < t.fl.length) → GiveD w S pp pb tb qh qg hb n A c A2 c2 t → HasF w hb n h → TriedF w tb tr →
  CallsV Tryz.prog 177 #[.int .i64 (i : Int),.pointer (some ⟨pp,0,none⟩),.pointer (some ⟨tb,0,none⟩),.pointer (some ⟨qh,0,none⟩),.pointer (some ⟨qg,0,none⟩)] w fun v w' =>
   v = .bool (giveF t.N f i h tr).1 ∧ HasF w' hb n (giveF t.N f i h tr).2.1 ∧ TriedF w' tb (giveF t.N f i h tr).2.2 ∧ Chg [hb,tb] w w'
 | 0,_,_,_,_,h0,_,_,_,_,_ => absurd h0 (Nat.not_lt_zero _)
 | f + 1,i,h,tr,w,hun,hi,hhl,hD,hR,hT => by
   have IH := give_c t S pp pb tb qh qg hb n A c A2 c2 hn hcl hfl hfd f;have heg := give_enters;obtain ⟨⟨m1,m2⟩,⟨m3,m4⟩,⟨m5,m6⟩,⟨m7,m8⟩,m9⟩ := hD.ne;obtain ⟨s1,s2,s3⟩ := hD.s;have lb1 := hR.r.lt;have lb2 := hT.r.lt;have hn0 := hR.p;obtain ⟨b4,o4,rfl,hb4,x0,x1,x2,x3⟩ := FlawsV.at (show FlawsV w S (.slice A2 t.fl.length c2) t.fl by obtain ⟨cv,fv,e,h1,h2⟩ := hD.tour.v;injection e with e;simp only [Array.mk.injEq,List.cons.injEq,and_true] at e;obtain ⟨-,rfl,rfl⟩ := e;exact h2) hi;obtain ⟨F,hF⟩ : ∃ F,∃ _u : Unit,t.fl[i] = F := ⟨_,(),rfl⟩;obtain ⟨hlo,hhi⟩ := hfd i hi;rw [hF.choose_spec] at x1 x2 hlo hhi;obtain ⟨lo,hlo2⟩ : ∃ lo : Nat,∃ _u : Unit,F.lo = (lo : Int) := ⟨F.lo.toNat,(),by omega⟩;rw [hlo2.choose_spec] at x1;clear hlo x0 x3;obtain ⟨hi2,hhi2⟩ : ∃ hi2,∃ _u : Unit,F.hi = hi2 := ⟨_,(),rfl⟩;rw [hhi2.choose_spec] at x2 hhi;obtain ⟨L,hL⟩ : ∃ L,∃ _u : Unit,openN t.cl (lo : Int) hi2 = L ∧ t.N (i : Int) = L := ⟨_,(),rfl,by unfold Tr.N;rw [Int.toNat_natCast,List.getElem?_eq_getElem hi,hF.choose_spec];dsimp only;rw [hlo2.choose_spec,hhi2.choose_spec]⟩;obtain ⟨R,hRR⟩ : ∃ R,∃ _u : Unit,giveF t.N (f + 1) i h tr = R ∧ loopF (giveF t.N f) i L h tr = R := ⟨_,(),rfl,by rw [← hL.choose_spec.2];rfl⟩;rw [hRR.choose_spec.1];have hLd : ∃ _u : Unit,∀ d ∈ L,d < n := ⟨(),fun d hd => by rw [← hL.choose_spec.1,openN_mem (by omega)] at hd;omega⟩;have y0 := hD.p;have y1 := hD.k0;have y2 := hD.k1;have y3 := hD.k2;have hii : (i : Int) < (t.fl.length : Int) := by omega
   replace hhl : ∃ _u : Unit,_ := ⟨(),hhl⟩;refine Wp.fnM Tryz.func177 rfl Tryz.ntmps177 (by simp) ?_;have xw := Ext.refl w;refine Wp.keep [0,1,2,3,4] ?_;rintro r1 ⟨Y,Z,ad,ah,ap,-⟩;simp [go_sem] at Y Z ad ah ap;have xg := Chg.refl [hb,tb] w;refine sRg fun K' gd hK => ?_;refine cu1 fun K1 hK1 => ?_;go_simp;apply hK1;clear hK1 K1;refine Wops.absA fun a1 n5 q => ?_;obtain ⟨q5,q,s5,aK,f5,r5⟩ := q;try simp only [q5] at aK f5 r5 ⊢
   replace hD := hD.ext q;replace hR := hR.ext q;replace hT := hT.ext q;replace xw := xw.trans q;replace xg := Chg.ext xg q;replace y0 := q.cell y0;replace y1 := q.cell y1;replace y2 := q.cell y2;replace y3 := q.cell y3;replace x1 := q.cell x1;replace x2 := q.cell x2;have m := aK 0 _ rfl;clear aK q;clear r5;refine cu1 fun K1 hK1 => ?_;go_simp;apply hK1;clear hK1 K1;refine Wops.absA fun a2 n6 o => ?_;obtain ⟨q6,o,s6,aL,f6,r6⟩ := o;try simp only [q6] at aL f6 r6 ⊢
   replace hD := hD.ext o;replace hR := hR.ext o;replace hT := hT.ext o;replace xw := xw.trans o;replace xg := Chg.ext xg o;replace y0 := o.cell y0;replace y1 := o.cell y1;replace y2 := o.cell y2;replace y3 := o.cell y3;replace x1 := o.cell x1;replace x2 := o.cell x2;replace m := o.cell m;have g := aL 0 _ rfl;clear aL o;clear r6;try simp only [Wops_nil,updO_some,updO_none]
   apply hK;clear hK K' gd;refine Wp.keep [1,2,3,4,5,6] ?_;rintro r2 ⟨aa,ae,ak,aq,ax,aE,-⟩;simp [go_sem,Y,Z,ad,ah,ap] at aa ae ak aq ax aE;clear Y Z ad ah ap;refine Wp.scopeKey 0 (fun _ _ _ => False) (fun _ => 0) rfl (fun _ _ _ h => h.elim) (fun _ => ?_);refine Wp.seq ?_;refine Wp.label ?_;refine tNo ?_;refine Wp.seq ?_;refine Wp.seqDraw (.inl rfl) mixed [([0,1,2,3,4],none),([5,6,7,8,9],none),([10,11,12],some (13,false))] (by kernel_rfl) fun K' gd hK hg => ?_;clear hg;simp only [pick,nth,List.map_cons,List.map_nil,Option.map_none,Option.map_some];refine Mops.absD fun D4 hD4 zD4 => ?_;replace f6 := hD4.fz g f6;replace hD := hD.ext hD4;replace hR := hR.ext hD4;replace hT := hT.ext hD4;replace xw := xw.trans hD4;replace xg := Chg.ext xg hD4;replace y0 := hD4.cell y0;replace y1 := hD4.cell y1;replace y2 := hD4.cell y2;replace y3 := hD4.cell y3;replace x1 := hD4.cell x1;replace x2 := hD4.cell x2;replace m := hD4.cell m;replace g := hD4.cell g;clear hD4;refine mNo ?_
   refine mNo ?_
   refine mAc ?_
   intro K1 hK1;go_simp;refine Wcall (.inl rfl) (open_c (.slice A t.cl.length c) (.slice (some ⟨b4,o4,none⟩) t.fl.length c2) t.n (lo : Int) hi2 _) ?_;rintro v w2 ⟨bs,bt,rfl,hE,z0,z1,zt,hz1,hz2⟩;go_simp;refine hK1 _ _ (by assumption) ?_;clear hK1 K1;have z3 := Below.size hE;replace f6 := hE.fz g f6;replace hD := hD.ext hE;replace hR := hR.ext hE;replace hT := hT.ext hE;replace xw := xw.trans hE;replace xg := Chg.ext xg hE;replace m := hE.cell m;replace g := hE.cell g;clear hE;refine Mops.done ?_;apply hK;clear hK K' gd;refine Wp.keep [2,3,4,5,6,21] ?_;rintro r4 ⟨O,Q,T,U,X,M,-⟩;simp [go_sem,aa,ae,ak,aq,ax,aE] at O Q T U X M;clear aa ae ak aq ax aE;have hOD : OpenD w2 bs bt S lo hi2 (.slice A t.cl.length c) t.cl := ⟨z0,z1,zt,⟨by obtain ⟨cv,fv,e,h1,h2⟩ := hD.tour.v;injection e with e;simp only [Array.mk.injEq,List.cons.injEq,and_true] at e;obtain ⟨-,rfl,-⟩ := e;exact h1⟩,hD.s.2.2⟩;clear z0 z1 zt;refine Wp.block ?_;refine Wp.range (open_it bs bt S lo hi2 A c t.cl hcl (by omega)) (by go_simp) (enters_of Tryz.func173 (by kernel_rfl) rfl) (fun _ => rfl) (fun k W => (Chg [hb,tb] w2 W) ∧ (∃ (h1 : Nat → Int) (t1 : Nat → Bool),HasF W hb n h1 ∧ TriedF W tb t1 ∧ (∃ _u : Unit,loopF (giveF t.N f) i (L.drop k) h1 t1 = R ∧ untr n t1 ≤ f ∧ ∀ d,h1 d < t.fl.length))) (fun c W => c = .ret ∧ Chg [hb,tb] w W ∧ W.cell? ⟨n6,0,none⟩ = some (.bool true) ∧ HasF W hb n R.2.1 ∧ TriedF W tb R.2.2 ∧ (∃ _u : Unit,R.1 = true)) ?_ ?_ ?_ ?_ ?_ ?_ ?_
   ·rintro k W ⟨xr,⟨h1,t1,hR1,hT1,hq⟩⟩;exact hOD.chg xr (by simp;omega) (by simp;omega) (by simp;omega)
   ·rintro k W W' hA ⟨xr,⟨h1,t1,hR1,hT1,hq⟩⟩;refine ⟨Adm.chg hA xr (Nat.le_refl _),?_⟩;exact ⟨h1,t1,hR1.adm hA,hT1.adm hA,hq⟩
   ·skip;exact fun c V V' hA ⟨e1,e2,e3,e4,e5,e6⟩ => ⟨e1,Adm.chg hA e2 (by omega),hA.cell e3,e4.adm hA,e5.adm hA,e6⟩
   ·refine ⟨Chg.refl _ _,?_⟩;exact ⟨h,tr,hR,hT,(),by rw [List.drop_zero];exact hRR.choose_spec.2,by omega,hhl.choose_spec⟩
   ·rintro l k x W hx ⟨xr,⟨h1,t1,hR1,hT1,hq⟩⟩ hl;have hD_b := hD;replace f6 := Chg.fz xr g f6 XN;clear xw;replace xg := Chg.more xg xr (by intro b hm;simp only [List.mem_cons,List.not_mem_nil,or_false] at hm;first | (left;omega) | (right;simp [hm];done) | (rcases hm with hm | hm <;> first | (left;omega) | (right;simp [hm])));replace m := Chg.cell xr m XN;replace g := Chg.cell xr g XN;have xb := Ext.refl W;simp only [encD,List.zip_toArray,List.zip_cons_cons,List.zip_nil_left,putL_cons,putL_nil];refine Wp.keep [2,3,4,5,6,22] ?_;rintro r5 ⟨af,al,ar,ay,aF,ab,-⟩;simp [go_sem,O,Q,T,U,X,M] at af al ar ay aF ab;refine Wp.loneRegion (.inr ⟨_,rfl⟩) (by kernel_rfl) fun K' gd hK hg => ?_;clear hg;go_simp;apply hK;clear hK K' gd;refine Ends.keep [2,3,4,5,6,7] ?_;rintro r6 ⟨E,G,H,I,J,K,-⟩;simp [go_sem,af,al,ar,ay,aF,ab] at E G H I J K;clear af al ar ay aF ab;refine Ends.mk ?_;refine tNo ?_;refine ⟨KeepsOthers.of_ext xb,fun W2 hA2 hl2 => ?_⟩;replace f6 := Adm.fz hA2 g f6;replace xg := Adm.chg hA2 xg (by omega);replace xr := Adm.chg hA2 xr (by omega);clear xb;replace hD := hD_b.chg xr XB;replace hR1 := hR1.adm hA2;replace hT1 := hT1.adm hA2;replace m := Adm.cell hA2 m;replace g := Adm.cell hA2 g;obtain ⟨lr,hl2⟩ := hl2
    have xk := Chg.refl [hb,tb] W2;rw [hL.choose_spec.1] at hx;have hkL : k < L.length := (List.getElem?_eq_some_iff.1 hx).1;have hxL : L[k] = x := (List.getElem?_eq_some_iff.1 hx).2;have hdn : x < n := hLd.choose_spec x (by rw [← hxL];exact List.getElem_mem hkL);have hq0 : ∃ _u : Unit,loopF (giveF t.N f) i (x :: L.drop (k + 1)) h1 t1 = R := ⟨(),by have := hq.choose_spec.1;rwa [drop_cons hkL,hxL] at this⟩;have hq1 : ∃ _u : Unit,untr n t1 ≤ f ∧ ∀ d,h1 d < t.fl.length := ⟨(),hq.choose_spec.2⟩;clear hq hkL hxL;have kb_hb := IsC.of (hR1.r.c 0 hn0);have kb_tb := IsC.of (hT1.r.c 0 (by omega));have z1 := hT1.r.c x (by omega);have hx60 : (x : Int) < 60 := by omega
    have hxn : (x : Int) < (n : Int) := by omega
    by_cases ht : t1 x = true
    ·skip;rw [ht] at z1;refine Wp.block ?_;refine Wp.seq ?_;refine Wp.seqRegion (.inr ⟨_,rfl⟩) (by kernel_rfl) fun K' gd hK hg => ?_;clear hg;go_simp;apply hK;clear hK K' gd;refine Wp.keep [2,3,4,5,6,7,25] ?_;rintro r7 ⟨aO,aQ,aS,aU,aY,a0,aN,-⟩;simp [go_sem,E,G,H,I,J,K] at aO aQ aS aU aY a0 aN;clear E G H I J K;refine cTt ?_;refine Wp.exit ?_;refine tEx ?_;refine blockK_here ?_;refine ⟨KeepsOthers.of_chg xk (mem2 kb_hb kb_tb),xr,?_⟩;exact ⟨h1,t1,hR1,hT1,(),by rw [← hq0.choose_spec,loopF,if_pos ht],hq1.choose_spec⟩
    ·skip;rw [show t1 x = false by simpa using ht] at z1;refine Wp.block ?_;refine Wp.seq ?_;refine Wp.seqRegion (.inr ⟨_,rfl⟩) (by kernel_rfl) fun K' gd hK hg => ?_;clear hg;go_simp;apply hK;clear hK K' gd;refine Wp.keep [2,3,4,5,6,7,25] ?_;rintro r8 ⟨ag,am,au,az,aG,aJ,ac,-⟩;simp [go_sem,E,G,H,I,J,K] at ag am au az aG aJ ac;clear E G H I J K;refine cFf ?_;have ft := hT1.r.fz;have z2 := hR1.r.c x hdn;refine skN ?_;refine Wp.seqRegion (.inr ⟨_,rfl⟩) (by kernel_rfl) fun K' gd hK hg => ?_;clear hg;refine cu3 fun K1 hK1 => ?_;go_simp;apply hK1;clear hK1 K1;refine Wops.absS (b := tb) (i := x) [_] (hT1.r.some (by omega)) fun P1 hP1 => ?_;replace f6 := hP1.frz f6;replace hD := hD.put hP1 (by omega);replace hR1 := hR1.put hP1 (by omega);replace xg := Put.more xg hP1 (.inr (by simp));replace xr := Put.more xr hP1 (.inr (by simp));replace xk := Put.more xk hP1 (.inr (by simp));replace m := hP1.cell m (by omega);replace g := hP1.cell g (by omega);replace z2 := hP1.cell z2 (by omega);try simp only [Wops_nil,updO_some,updO_none]
     apply hK;clear hK K' gd;refine Wp.keep [3,4,5,6,7] ?_;rintro r9 ⟨u,z,B,C,D,-⟩;simp [go_sem,ag,am,au,az,aG,aJ,ac] at u z B C D;clear ag am au az aG aJ ac;have hT2 : TriedF P1 tb (markT t1 x) := ⟨hT1.r.mark hP1⟩;have y5 := hD.fx;have y6 := hD.fg
     by_cases hneg : h1 x < 0
     ·skip;refine Wp.seqDraw (.inr ⟨_,rfl⟩) mixed [([0,1,2,3,4],none),([5],none),([6,7,8,9,10],some (11,false)),([12],none)] (by kernel_rfl) fun K' gd hK hg => ?_;have g5 : gd 5 = some 33 := hg 5;clear hg;simp only [pick,nth,List.map_cons,List.map_nil,Option.map_none,Option.map_some];refine Mops.absD fun D9 hD9 zD9 => ?_;replace f6 := hD9.fz g f6;replace hR1 := hR1.ext hD9;replace hT2 := hT2.ext hD9;replace xg := Chg.ext xg hD9;replace xr := Chg.ext xr hD9;replace xk := Chg.ext xk hD9;replace m := hD9.cell m;replace g := hD9.cell g;replace z2 := hD9.cell z2;replace y5 := hD9.cell y5;clear hD9;refine mNo ?_
      apply Mops.none
      ·intro w' hE';go_simp;with_reducible rfl
      apply Mops.act
      ·intro w' hE';go_simp;with_reducible rfl
      intro K1 hK1;go_simp;refine hK1 _ _ (Ext.refl _) ?_;clear hK1 K1;apply Mops.none
      ·intro w' hE';go_simp;with_reducible rfl
      refine Mops.done ?_;apply hK;clear hK K' gd g5;refine Wp.keep [3,5,6,7,40] ?_;rintro r10 ⟨ai,av,aA,aH,an,-⟩;simp [go_sem,u,z,B,C,D] at ai av aA aH an;clear u z B C D;refine cTt ?_;have fh := hR1.r.fz;refine Wp.seqRegion (.inr ⟨_,rfl⟩) (by kernel_rfl) fun K' gd hK hg => ?_;clear hg;refine cu5 fun K1 hK1 => ?_;go_simp;apply hK1;clear hK1 K1;refine Wops.absS (b := hb) (i := x) [_] (hR1.r.some hdn) fun P2 hP2 => ?_;replace f6 := hP2.frz f6;replace hT2 := hT2.put hP2 (by omega);replace xg := Put.more xg hP2 (.inr (by simp));replace xr := Put.more xr hP2 (.inr (by simp));replace xk := Put.more xk hP2 (.inr (by simp));replace g := hP2.cell g (by omega);try simp only [Wops_nil,updO_some,updO_none]
      apply hK;clear hK K' gd;refine Wp.keep [6] ?_;rintro r11 ⟨aB,-⟩;simp [go_sem,ai,av,aA,aH,an] at aB;clear ai av aA aH an;have hR2 : HasF P2 hb n (updI h1 x i) := ⟨hR1.r.store hP2,hn0⟩;have hRe : ∃ _u : Unit,R = (true,updI h1 x i,markT t1 x) := ⟨(),by rw [← hq0.choose_spec,loopF,if_neg ht,if_pos hneg]⟩;have hKp : KeepR W2 P2 := ⟨KeepsOthers.of_chg xk (mem2 kb_hb kb_tb)⟩;refine Wp.seqRegion (.inr ⟨_,rfl⟩) (by kernel_rfl) fun K' gd hK hg => ?_;clear hg;refine cu1 fun K1 hK1 => ?_;go_simp;apply hK1;clear hK1 K1;refine Wops.absS (b := n6) (i := 0) [_] (somes [cellVal g] (by simp) (by intro j v hj;match j,hj with | 0,hj => (simp at hj;subst hj;exact g))) fun P11 hP11 => ?_;replace hT2 := hT2.put hP11 (by omega);replace hR2 := hR2.put hP11 (by omega);replace hKp := hKp.put hP11 (by omega);replace xg := Put.more xg hP11 (.inl (by omega));clear xr;clear xk;clear g;have g := hP11.new 0 _ rfl;try simp only [Nat.reduceAdd,Nat.zero_add,Nat.add_zero] at g
      clear hP11;try simp only [Wops_nil,updO_some,updO_none]
      apply hK;clear hK K' gd;refine Wp.keep [6] ?_;rintro r12 ⟨aV,-⟩;simp [go_sem,aB] at aV;clear aB;refine Wp.ret ?_;refine bRe ?_;exact ⟨hKp.k,rfl,xg,g,by rw [hRe.choose_spec];exact hR2,by rw [hRe.choose_spec];exact hT2,(),by rw [hRe.choose_spec]⟩
     ·skip;obtain ⟨j,hj⟩ : ∃ j : Nat,∃ _u : Unit,h1 x = (j : Int) ∧ j < t.fl.length := ⟨(h1 x).toNat,(),by omega,by have := hq1.choose_spec.2 x;omega⟩;rw [hj.choose_spec.1] at z2;have hjn : ¬ (j : Int) < 0 := by omega
      have hu2 : ∃ _u : Unit,untr n (markT t1 x) < f := ⟨(),by have := untr_mark hdn (show t1 x = false by simpa using ht);have := hq1.choose_spec.1;omega⟩;obtain ⟨r1,hr1⟩ : ∃ r1,∃ _u : Unit,giveF t.N f (j : Int) h1 (markT t1 x) = r1 := ⟨_,(),rfl⟩;have hstep : ∃ _u : Unit,(if r1.1 = true then (true,updI r1.2.1 x i,r1.2.2) else loopF (giveF t.N f) i (L.drop (k + 1)) r1.2.1 r1.2.2) = R := ⟨(),by rw [← hq0.choose_spec,loopF,if_neg ht,if_neg hneg];dsimp only;rw [hj.choose_spec.1,hr1.choose_spec]⟩
      by_cases hb1 : r1.1 = true
      ·skip;refine Wp.seqDraw (.inr ⟨_,rfl⟩) mixed [([0,1,2,3,4],none),([5],none),([6,7,8,9,10],some (11,true)),([],some (12,true))] (by kernel_rfl) fun K' gd hK hg => ?_;have g5 : gd 5 = some 33 := hg 5;clear hg;simp only [pick,nth,List.map_cons,List.map_nil,Option.map_none,Option.map_some];refine Mops.absD fun D12 hD12 zD12 => ?_;replace f6 := hD12.fz g f6;replace hD := hD.ext hD12;replace hR1 := hR1.ext hD12;replace hT2 := hT2.ext hD12;replace xg := Chg.ext xg hD12;replace xr := Chg.ext xr hD12;replace xk := Chg.ext xk hD12;replace m := hD12.cell m;replace g := hD12.cell g;replace z2 := hD12.cell z2;replace y5 := hD12.cell y5;replace y6 := hD12.cell y6;clear hD12;refine mNo ?_
       apply Mops.none
       ·intro w' hE';go_simp;with_reducible rfl
       refine mLa ?_
       intro K1 hK1;go_simp;refine Wcall (.inr ⟨_,rfl⟩) (IH j h1 (markT t1 x) _ hu2.choose_spec hj.choose_spec.2 hq1.choose_spec.2 hD hR1 hT2) ?_;rintro v w5 ⟨hv,hR3,hT3,hC⟩;rw [hr1.choose_spec] at hv hR3 hT3;rw [hb1] at hv;subst hv;go_simp;apply hK1;clear hK1 K1;replace f6 := Chg.fz hC g f6 XN;replace xg := Chg.more xg hC (by intro b hm;simp only [List.mem_cons,List.not_mem_nil,or_false] at hm;first | (left;omega) | (right;simp [hm];done) | (rcases hm with hm | hm <;> first | (left;omega) | (right;simp [hm])));replace xr := Chg.more xr hC (by intro b hm;simp only [List.mem_cons,List.not_mem_nil,or_false] at hm;first | (left;omega) | (right;simp [hm];done) | (rcases hm with hm | hm <;> first | (left;omega) | (right;simp [hm])));replace xk := Chg.more xk hC (by intro b hm;simp only [List.mem_cons,List.not_mem_nil,or_false] at hm;first | (left;omega) | (right;simp [hm];done) | (rcases hm with hm | hm <;> first | (left;omega) | (right;simp [hm])));replace m := Chg.cell hC m XN;replace g := Chg.cell hC g XN;replace y5 := Chg.cell hC y5 XN;apply Mops.last
       ·exact fun _ _ => Rops_done
       intro K1 hK1;go_simp;apply hK1;clear hK1 K1;refine Mops.done ?_;apply hK;clear hK K' gd g5;refine Wp.keep [3,5,6,7,40] ?_;rintro r14 ⟨aj,aw,aC,aI,ao,-⟩;simp [go_sem,u,z,B,C,D] at aj aw aC aI ao;clear u z B C D;refine cTt ?_;have z3 := hR3.r.c x hdn;have fh := hR3.r.fz;refine Wp.seqRegion (.inr ⟨_,rfl⟩) (by kernel_rfl) fun K' gd hK hg => ?_;clear hg;refine cu5 fun K1 hK1 => ?_;go_simp;apply hK1;clear hK1 K1;refine Wops.absS (b := hb) (i := x) [_] (hR3.r.some hdn) fun P2 hP2 => ?_;replace f6 := hP2.frz f6;replace hT3 := hT3.put hP2 (by omega);replace xg := Put.more xg hP2 (.inr (by simp));replace xr := Put.more xr hP2 (.inr (by simp));replace xk := Put.more xk hP2 (.inr (by simp));replace g := hP2.cell g (by omega);try simp only [Wops_nil,updO_some,updO_none]
       apply hK;clear hK K' gd;refine Wp.keep [6] ?_;rintro r15 ⟨aD,-⟩;simp [go_sem,aj,aw,aC,aI,ao] at aD;clear aj aw aC aI ao;have hR4 : HasF P2 hb n (updI r1.2.1 x i) := ⟨hR3.r.store hP2,hn0⟩;have hRe : ∃ _u : Unit,R = (true,updI r1.2.1 x i,r1.2.2) := ⟨(),by rw [← hstep.choose_spec,if_pos hb1]⟩;have hKp : KeepR W2 P2 := ⟨KeepsOthers.of_chg xk (mem2 kb_hb kb_tb)⟩;refine Wp.seqRegion (.inr ⟨_,rfl⟩) (by kernel_rfl) fun K' gd hK hg => ?_;clear hg;refine cu1 fun K1 hK1 => ?_;go_simp;apply hK1;clear hK1 K1;refine Wops.absS (b := n6) (i := 0) [_] (somes [cellVal g] (by simp) (by intro j v hj;match j,hj with | 0,hj => (simp at hj;subst hj;exact g))) fun P14 hP14 => ?_;replace hT3 := hT3.put hP14 (by omega);replace hR4 := hR4.put hP14 (by omega);replace hKp := hKp.put hP14 (by omega);replace xg := Put.more xg hP14 (.inl (by omega));clear xr;clear xk;clear g;have g := hP14.new 0 _ rfl;try simp only [Nat.reduceAdd,Nat.zero_add,Nat.add_zero] at g
       clear hP14;try simp only [Wops_nil,updO_some,updO_none]
       apply hK;clear hK K' gd;refine Wp.keep [6] ?_;rintro r16 ⟨aW,-⟩;simp [go_sem,aD] at aW;clear aD;refine Wp.ret ?_;refine bRe ?_;exact ⟨hKp.k,rfl,xg,g,by rw [hRe.choose_spec];exact hR4,by rw [hRe.choose_spec];exact hT3,(),by rw [hRe.choose_spec]⟩
      ·skip;refine Wp.seqDraw (.inr ⟨_,rfl⟩) mixed [([0,1,2,3,4],none),([5],none),([6,7,8,9,10],some (11,true)),([],some (12,true))] (by kernel_rfl) fun K' gd hK hg => ?_;have g5 : gd 5 = some 33 := hg 5;clear hg;simp only [pick,nth,List.map_cons,List.map_nil,Option.map_none,Option.map_some];refine Mops.absD fun D15 hD15 zD15 => ?_;replace hD := hD.ext hD15;replace hR1 := hR1.ext hD15;replace hT2 := hT2.ext hD15;replace xg := Chg.ext xg hD15;replace xr := Chg.ext xr hD15;replace xk := Chg.ext xk hD15;replace z2 := hD15.cell z2;replace y5 := hD15.cell y5;replace y6 := hD15.cell y6;clear hD15;refine mNo ?_
       apply Mops.none
       ·intro w' hE';go_simp;with_reducible rfl
       refine mLa ?_
       intro K1 hK1;go_simp;refine Wcall (.inr ⟨_,rfl⟩) (IH j h1 (markT t1 x) _ hu2.choose_spec hj.choose_spec.2 hq1.choose_spec.2 hD hR1 hT2) ?_;rintro v w5 ⟨hv,hR3,hT3,hC⟩;rw [hr1.choose_spec] at hv hR3 hT3;rw [show r1.1 = false by simpa using hb1] at hv;subst hv;go_simp;apply hK1;clear hK1 K1;replace xg := Chg.more xg hC (by intro b hm;simp only [List.mem_cons,List.not_mem_nil,or_false] at hm;first | (left;omega) | (right;simp [hm];done) | (rcases hm with hm | hm <;> first | (left;omega) | (right;simp [hm])));replace xr := Chg.more xr hC (by intro b hm;simp only [List.mem_cons,List.not_mem_nil,or_false] at hm;first | (left;omega) | (right;simp [hm];done) | (rcases hm with hm | hm <;> first | (left;omega) | (right;simp [hm])));replace xk := Chg.more xk hC (by intro b hm;simp only [List.mem_cons,List.not_mem_nil,or_false] at hm;first | (left;omega) | (right;simp [hm];done) | (rcases hm with hm | hm <;> first | (left;omega) | (right;simp [hm])));apply Mops.last
       ·exact fun _ _ => Rops_done
       intro K1 hK1;go_simp;apply hK1;clear hK1 K1;refine Mops.done ?_;apply hK;clear hK K' gd g5;refine Wp.keep [3,5,6,7,40] ?_;rintro r18 ⟨aP,aT,aX,aZ,aR,-⟩;simp [go_sem,u,z,B,C,D] at aP aT aX aZ aR;clear u z B C D;refine cFf ?_;refine Wp.skip ?_;refine bNo ?_;refine ⟨KeepsOthers.of_chg xk (mem2 kb_hb kb_tb),xr,?_⟩;exact ⟨r1.2.1,r1.2.2,hR3,hT3,(),by rw [← hstep.choose_spec,if_neg hb1],by have g1 := hu2.choose_spec;have g2 := untr_le (n := n) (t := markT t1 x) (t2 := r1.2.2) (fun d hd => by rw [← hr1.choose_spec];exact giveF_mono f j h1 _ d hd);omega,by rw [← hr1.choose_spec];exact giveF_vals (P := fun y => y < (t.fl.length : Int)) f j h1 _ (by have := hj.choose_spec.2;omega) hq1.choose_spec.2⟩
   ·rintro rm W hrm ⟨xr,⟨h1,t1,hR1,hT1,hq⟩⟩ hmk;replace f6 := Chg.fz xr g f6 XN;clear xw;replace xg := Chg.more xg xr (by intro b hm;simp only [List.mem_cons,List.not_mem_nil,or_false] at hm;first | (left;omega) | (right;simp [hm];done) | (rcases hm with hm | hm <;> first | (left;omega) | (right;simp [hm])));replace g := Chg.cell xr g XN;refine bNo ?_;refine tNo ?_;have hMk : KeepR W W := ⟨KeepsOthers.of_ext (Ext.refl _)⟩;have hRe : ∃ _u : Unit,R = (false,h1,t1) := ⟨(),by have := hq.choose_spec.1;rw [hL.choose_spec.1,List.drop_length] at this;exact this.symm⟩;refine sRg fun K' gd hK => ?_;refine cu1 fun K1 hK1 => ?_;go_simp;apply hK1;clear hK1 K1;refine Wops.absS (b := n6) (i := 0) [_] (somes [cellVal g] (by simp) (by intro j v hj;match j,hj with | 0,hj => (simp at hj;subst hj;exact g))) fun P16 hP16 => ?_;replace hR1 := hR1.put hP16 (by omega);replace hT1 := hT1.put hP16 (by omega);replace hMk := hMk.put hP16 (by omega);replace xg := Put.more xg hP16 (.inl (by omega));clear xr;clear g;have g := hP16.new 0 _ rfl;try simp only [Nat.reduceAdd,Nat.zero_add,Nat.add_zero] at g
    clear hP16;try simp only [Wops_nil,updO_some,updO_none]
    apply hK;clear hK K' gd;refine Wp.keep [6] ?_;rintro r19 ⟨aM,-⟩;simp [go_sem,O,Q,T,U,X,M] at aM;clear O Q T U X M;refine Wp.ret ?_;refine gotoK_ret ?_;refine endM_cell Tryz.results177 (by decide) (Marks.one (by first | omega | (simp at hrm;omega)) (hMk.k.same _ _ hmk rfl)) aM fun wz hS => ?_;have cz := hS.cell g;refine ⟨cellVal cz,by dsimp only [cellVal];go_simp,?_⟩
    dsimp only [cellVal]
    exact ⟨by rw [hRe.choose_spec],by rw [hRe.choose_spec];exact hR1.shut hS,by rw [hRe.choose_spec];exact hT1.shut hS,xg.shut hS⟩
   ·rintro rm c W hrm ⟨rfl,hCs,h6,hr6,ht6,hq6⟩ hmk;refine Wp.ret ?_
    repeat (first | refine bRe ?_ | refine tRe ?_ | refine gotoK_ret ?_)
    refine endM_cell Tryz.results177 (by decide) (Marks.one (by first | omega | (simp at hrm;omega)) hmk) (a := ⟨n6,0,none⟩) (by assumption) fun wz hS => ?_;have cz := hS.cell h6;exact ⟨.bool true,by go_simp,by rw [hq6.choose_spec],hr6.shut hS,ht6.shut hS,hCs.shut hS⟩
theorem mul64_c (n : Nat) (hn : n ≤ 60) (w : World) : CallsV Tryz.prog 213 #[.int .u64 1,.int .u64 (n : Int)] w fun v w' => v = .tuple #[.int .u64 0,.int .u64 (n : Int)] ∧ Ext w w' := by
 refine Wp.fn Tryz.func213 rfl Tryz.ntmps213 (by simp) ?_;refine Wp.keep [0,1] ?_;rintro r1 ⟨c,z,-⟩;simp [go_sem] at c z;refine sRg fun K' gd hK => ?_;go_simp;apply hK;clear hK K' gd;refine Wp.keep [0,1] ?_;rintro r2 ⟨g,D,-⟩;simp [go_sem,c,z] at g D;clear c z;refine sRg fun K' gd hK => ?_;go_simp;apply hK;clear hK K' gd;refine Wp.keep [0,1,6] ?_;rintro r3 ⟨h,E,P,-⟩;simp [go_sem,g,D] at h E P;clear g D;refine sRg fun K' gd hK => ?_;go_simp;apply hK;clear hK K' gd;refine Wp.keep [0,1,6,7] ?_;rintro r4 ⟨i,F,Q,Y,-⟩;simp [go_sem,h,E,P] at i F Q Y;clear h E P;refine sRg fun K' gd hK => ?_;go_simp;apply hK;clear hK K' gd;refine Wp.keep [0,1,6,7,8] ?_;rintro r5 ⟨j,G,R,Z,ae,-⟩;simp [go_sem,i,F,Q,Y] at j G R Z ae;clear i F Q Y;refine sRg fun K' gd hK => ?_;go_simp;apply hK;clear hK K' gd;refine Wp.keep [0,1,6,7,8,9] ?_;rintro r6 ⟨k,H,S,aa,af,aj,-⟩
 simp [go_sem,j,G,R,Z,ae] at k H S aa af aj;clear j G R Z ae;refine sRg fun K' gd hK => ?_;go_simp;apply hK;clear hK K' gd;refine Wp.keep [0,1,6,7,8,9,10] ?_;rintro r7 ⟨l,I,T,ab,ag,ak,p,-⟩;simp [go_sem,k,H,S,aa,af,aj] at l I T ab ag ak p;clear k H S aa af aj;refine sRg fun K' gd hK => ?_;go_simp;apply hK;clear hK K' gd;refine Wp.keep [0,1,6,7,9,11] ?_;rintro r8 ⟨m,J,U,ac,al,q,-⟩;simp [go_sem,l,I,T,ab,ag,ak,p] at m J U ac al q;clear l I T ab ag ak p;refine sRg fun K' gd hK => ?_;go_simp;apply hK;clear hK K' gd;refine Wp.keep [0,1,6,7,9,11,12] ?_;rintro r9 ⟨o,K,V,ad,am,r,u,-⟩;simp [go_sem,m,J,U,ac,al,q] at o K V ad am r u;clear m J U ac al q;refine sRg fun K' gd hK => ?_;go_simp;apply hK;clear hK K' gd;refine Wp.keep [0,1,6,7,9,12,13] ?_;rintro r10 ⟨d,A,O,W,ah,s,x,-⟩;simp [go_sem,o,K,V,ad,am,r,u] at d A O W ah s x
 clear o K V ad am r u;refine sRg fun K' gd hK => ?_;go_simp;apply hK;clear hK K' gd;refine Wp.keep [0,1,7,9,12,13] ?_;rintro r11 ⟨e,B,X,ai,t,y,-⟩;simp [go_sem,d,A,O,W,ah,s,x] at e B X ai t y;clear d A O W ah s x;refine sRg fun K' gd hK => ?_;go_simp;apply hK;clear hK K' gd;refine Wp.keep [0,1,4] ?_;rintro r12 ⟨f,C,L,-⟩;simp [go_sem,e,B,X,ai,t,y] at f C L;clear e B X ai t y;refine sRg fun K' gd hK => ?_;go_simp;apply hK;clear hK K' gd;refine Wp.keep [4,5] ?_;rintro r13 ⟨M,N,-⟩;simp [go_sem,f,C,L] at M N;clear f C L;refine Wp.ret ?_;refine endK_tmp2 Tryz.results213 (by decide) (by decide) ?_;rw [M,N];refine ⟨?_,Ext.refl _⟩;clear M N;have h1 : ∀ a b : Int,a = 0 → b = (n : Int) → Value.tuple #[.int .u64 a,.int .u64 b] = Value.tuple #[.int .u64 0,.int .u64 (n : Int)] := (by rintro a b rfl rfl;rfl);refine h1 _ _ ?_ ?_ <;> clear h1 <;> revert hn <;> revert n <;> decide +kernel
theorem mul_c (n : Nat) (hn : n ≤ 60) (w : World) : CallsV Tryz.prog 183 #[.int .u64 1,.int .u64 (n : Int)] w fun v w' => v = .tuple #[.int .u64 0,.int .u64 (n : Int)] ∧ Ext w w' := by
 refine Wp.fn Tryz.func183 rfl Tryz.ntmps183 (by simp) ?_;refine Wp.keep [0,1] ?_;rintro r1 ⟨a,c,-⟩;simp [go_sem] at a c;refine sRg fun K' gd hK => ?_;go_simp;apply hK;clear hK K' gd;refine Wp.keep [0,1] ?_;rintro r2 ⟨b,d,-⟩;simp [go_sem,a,c] at b d;clear a c;refine Wp.seq ?_;refine cFf ?_;refine skN ?_;refine sRg fun K' gd hK => ?_;go_simp;refine Wcall (.inl rfl) (mul64_c n hn _) ?_;rintro v w2 ⟨rfl,hE⟩;go_simp;apply hK;clear hK K' gd;refine Wp.keep [8,9] ?_;rintro r3 ⟨e,f,-⟩;simp [go_sem,b,d] at e f;clear b d;refine sRg fun K' gd hK => ?_;go_simp;apply hK;clear hK K' gd;refine Wp.keep [4,5] ?_;rintro r4 ⟨g,h,-⟩;simp [go_sem,e,f] at g h;clear e f;refine Wp.ret ?_;refine endK_tmp2 Tryz.results183 (by decide) (by decide) ?_;rw [g,h];exact ⟨rfl,XE⟩
theorem run_copy_rowN {P : Program} (w : World) (dT sT ty elem : TypeId) (size g o dLen dCap : Nat) (a : Addr) (sLen sCap : Nat) (cur : Array Value) (t : TypeId) (cs : List Value)
  (hu : P.underlying dT = some (.slice elem)) (hs : (P.info? elem).map (·.size) = some size)
  (hg : w.heap[g]? = some (.cells cur t (0,0))) (hn : cs.length = Nat.min sLen dLen * size)
  (hsrc : ∀ j v,cs[j]? = some v → w.cell? (a.add j) = some v) (hfit : o + cs.length ≤ cur.size) (h1 : ∀ v ∈ cs,v.oneCell' = true) :
  (Builtin.copy_ #[dT,sT] ty #[.slice (some ⟨g,o,none⟩) dLen dCap,.slice (some a) sLen sCap]).run P w =
   .ok (goInt (Nat.min sLen dLen)) (w.setRow g (cur.toList.take o ++ cs ++ cur.toList.drop (o + cs.length)).toArray) := by
 have hst := run_storeCells_at P g o t cs 0 cur w hg (by simpa using hfit) h1
 cases hq : P.info? elem with
 | none => simp [hq] at hs
 | some i =>
   have hi : i.size = size := by simpa [hq] using hs
   have hl := run_firstCells_some (P := P) w size (Nat.min sLen dLen) a sLen sCap cs hn hsrc;simp [Builtin.copy_,run_underlying hu,Builtin.lenOf,sizeOf,typeInfo,hq,hi,hl,hst]
theorem copy_rowV {P : Program} {t e bt : TypeId} {size : Nat} (T : ElemT P t e size) {w : World} (ty : TypeId) {g o m dLen dCap sLen sCap : Nat} {a : Addr} {cur : List Value} (cs : List Value)
  (hg : RowC w g bt cur) (hm : Nat.min sLen dLen = m) (hn : cs.length = m * size) (hsrc : ∀ j v,cs[j]? = some v → w.cell? (a.add j) = some v) (hfit : o + cs.length ≤ cur.length) (h1 : ∀ v ∈ cs,v.oneCell' = true) :
  ∃ w',(Builtin.copy_ #[t,t] ty #[.slice (some ⟨g,o,none⟩) dLen dCap,.slice (some a) sLen sCap]).run P w = .ok (.int .i64 (m : Int)) w' ∧
   RowC w' g bt (cur.take o ++ cs ++ cur.drop (o + cs.length)) ∧ w.grownBy w' (some g) := by
 subst hm;obtain ⟨i,z,h1',h2,h3,h4,h5,h6,h7⟩ := T.ex;have hs : (P.info? e).map (·.size) = some size := by rw [h2];simp [h4]
 have hr := run_copy_rowN (P := P) w t t ty e size g o dLen dCap a sLen sCap cur.toArray bt cs h1' hs hg hn hsrc (by simpa using hfit) h1;refine ⟨_,hr,?_,⟨rfl,rfl,rfl,by simp [World.setRow],fun k _ hk => setRow_other w g k _ (fun e => hk (by rw [e]))⟩⟩;exact setRow_heap w g cur.toArray (cur.toArray.toList.take o ++ cs ++ cur.toArray.toList.drop (o + cs.length)).toArray bt _ hg
def repV (x : Int) (j : Nat) : List Value := List.replicate j (.int .i64 x)
theorem repV_len (x : Int) (j : Nat) : (repV x j).length = j := List.length_replicate
theorem repV_get {x : Int} {j q : Nat} {u : Value} (h : (repV x j)[q]? = some u) : q < j ∧ u = .int .i64 x := by
 obtain ⟨h1,h2⟩ := List.getElem?_eq_some_iff.1 h;unfold repV at h1 h2;rw [List.getElem_replicate] at h2;exact ⟨by simpa using h1,h2.symm⟩
theorem repV_one {x : Int} {j : Nat} : ∀ u ∈ repV x j,u.oneCell' = true := by
 intro u hu;rw [List.eq_of_mem_replicate hu];rfl
theorem rep_step {x : Int} {j m N : Nat} (h : j + m ≤ N) : (repV x j ++ repV 0 (N - j)).take j ++ repV x m ++ (repV x j ++ repV 0 (N - j)).drop (j + m) = repV x (j + m) ++ repV 0 (N - (j + m)) := by
 have e1 : (repV x j ++ repV 0 (N - j)).take j = repV x j := by rw [List.take_append_of_le_length (by rw [repV_len];omega),List.take_of_length_le (by rw [repV_len];omega)]
 have e2 : (repV x j ++ repV 0 (N - j)).drop (j + m) = repV 0 (N - (j + m)) := by
  rw [List.drop_append,repV_len,List.drop_of_length_le (by rw [repV_len];omega),List.nil_append];unfold repV;rw [List.drop_replicate];congr 1;omega
 rw [e1,e2]
 congr 1
 unfold repV;rw [List.replicate_append_replicate]
theorem rep_rowI {W : World} {b N : Nat} {t : TypeId} {x : Int} (h : RowC W b t (repV x N ++ repV 0 (N - N))) : RowI W b (List.replicate N x) := by
 refine ⟨t,?_⟩;rw [show repV x N ++ repV 0 (N - N) = (List.replicate N x).map (Value.int .i64) by unfold repV;simp] at h;exact h
theorem repeat_c (x : Int) (n vb vc : Nat) (w : World) (hn : 1 ≤ n ∧ n ≤ 60) (hv : w.cell? ⟨vb,0,none⟩ = some (.int .i64 x)) :
  CallsV Tryz.prog 137 #[.slice (some ⟨vb,0,none⟩) 1 vc,.int .i64 (n : Int)] w fun v w' => (∃ g,v = .slice (some ⟨g,0,none⟩) n n ∧ w.heap.size ≤ g ∧ RowI w' g (List.replicate n x)) ∧ Ext w w' := by
 have h731 : IntKind.i64.wrap (n : Int) = (n : Int) := IntWalk.i64_in _ (by omega);have h731u : IntKind.u64.wrap (n : Int) = (n : Int) := by unfold IntKind.wrap;simp [IntKind.signed,IntKind.bits];omega
 have hn9 : n ≤ 1000000000 := by omega
 have hnn : ¬ (n : Int) < 0 := by omega
 have hnm : (n : Int) ≤ 9223372036854775807 := by omega
 have hmin : Nat.min 1 n = 1 := Nat.min_eq_left hn.1;obtain ⟨hn1,hn2⟩ := hn;refine Wp.fn Tryz.func137 rfl Tryz.ntmps137 (by simp) ?_;have xw := Ext.refl w;refine Wp.keep [0,1] ?_;rintro r1 ⟨f,z,-⟩;simp [go_sem] at f z;refine sRg fun K' gd hK => ?_;go_simp;apply hK;clear hK K' gd;refine Wp.keep [0,1] ?_;rintro r2 ⟨i,A,-⟩;simp [go_sem,f,z] at i A;clear f z;refine Wp.seq ?_;refine sRg fun K' gd hK => ?_;go_simp;apply hK;clear hK K' gd;refine Wp.keep [0,1,10] ?_;rintro r3 ⟨l,B,y,-⟩;simp [go_sem,i,A] at l B y;clear i A;refine cFf ?_;refine skN ?_;refine sRg fun K' gd hK => ?_;refine cu6 fun K1 hK1 => ?_;go_simp;refine Wcall (.inl rfl) (mul_c n hn2 _) ?_;rintro v w2 ⟨rfl,hE⟩;go_simp;apply hK1;clear hK1 K1;have z4 := Below.size hE;replace xw := xw.trans hE;replace hv := hE.cell hv;clear hE;go_simp;apply hK;clear hK K' gd;refine Wp.keep [0,5,6] ?_;rintro r5 ⟨p,D,E,-⟩;simp [go_sem,l,B,y] at p D E;clear l B y
 refine Wp.seq ?_;refine sRh fun K' gd hK hg => ?_;have g2 : gd 2 = some 23 := hg 2;clear hg;go_simp;apply hK;clear hK K' gd g2;refine Wp.keep [0,6,26] ?_;rintro r6 ⟨r,F,C,-⟩;simp [go_sem,p,D,E] at r F C;clear p D E;refine cFf ?_;refine skN ?_;have xw_xa := xw;have xa := Ext.refl w2;refine sRg fun K' gd hK => ?_;refine cu3 fun K1 hK1 => ?_;go_simp;apply hK1;clear hK1 K1;refine Wops.absA fun M n30 b => ?_;obtain ⟨q30,b,s30,k30,f30,r30⟩ := b;try simp only [q30] at k30 f30 r30 ⊢
 replace xw := xw.trans b;replace xa := xa.trans b;replace hv := b.cell hv;clear b;go_simp;apply hK;clear hK K' gd;refine Wp.keep [0,7] ?_;rintro r7 ⟨s,H,-⟩;simp [go_sem,r,F,C] at s H;clear r F C;obtain ⟨bt,hR0⟩ : ∃ t,RowC M n30 t (repV x 0 ++ repV 0 (n - 0)) := r30;clear k30 f30;refine sRg fun K' gd hK => ?_;refine cu3 fun K1 hK1 => ?_;refine Wops.cut 2 fun K2 hK2 => ?_;simp only [tSC,tZ];go_simp;refine hK2 _ _ ?_;clear hK2 K2;simp only [dSC,dZ];obtain ⟨w7,hrun,hR1,hgr⟩ := copy_rowV ints_T (bt := bt) 3 (o := 0) (m := 1) (dLen := n) (dCap := n) (sLen := 1) (sCap := vc) (a := ⟨vb,0,none⟩) (repV x 1) hR0 hmin rfl (news_one hv) (by simp [repV_len];omega) repV_one;refine Wops.law rfl (exec_copy2 rfl hrun (by go_simp) (by go_simp)) ?_;simp only [updO_some,Wops_nil];apply hK1;clear hK1 K1;replace xw := Chg.to xw (grown_chg hgr) (lt_ge (show ∀ k,some n30 = some k → n30 ≤ k ∧ k < n30 + 1 from fun k hk => by injection hk with hk;omega) (by omega));replace xa := Chg.to xa (grown_chg hgr) (lt_ge (show ∀ k,some n30 = some k → n30 ≤ k ∧ k < n30 + 1 from fun k hk => by injection hk with hk;omega) (by omega));rw [repV_len,rep_step (by omega)] at hR1
 go_simp;apply hK;clear hK K' gd;refine Wp.keep [7,8] ?_;rintro r9 ⟨I,L,-⟩;simp [go_sem,s,H] at I L;clear s H;refine sBk ?_;refine Wp.loop (fun k ρ ds wk => AllEq [7] ρ r9 ∧ ds = [] ∧ (Ext w2 wk) ∧ (∃ j : Nat,ρ 8 = .int .i64 (j : Int) ∧ RowC wk n30 bt (repV x j ++ repV 0 (n - j)) ∧ (∃ _u : Unit,k + 1 ≤ j ∧ j ≤ n))) (n) ?_ ?_
 ·refine ⟨AllEq.refl _ _,rfl,xa,?_⟩;exact ⟨1,by rw [L];rfl,hR1,(),by omega,by omega⟩
 ·rintro k r10 _ wk hk ⟨hA,rfl,xo,⟨j,e8,hR,hj⟩⟩;obtain ⟨G,-⟩ := hA;rw [I] at G;have xw := xw_xa;replace xw := Ext.trans xw xo;refine Wp.seq ?_;refine sRg fun K' gd hK => ?_;go_simp;apply hK;clear hK K' gd;refine Wp.keep [7,8,37] ?_;rintro r11 ⟨c,e,d,-⟩;simp [go_sem,G,e8] at c e d;clear G e8
  by_cases h : j < n
  ·refine cTt ?_;have hj1 : ¬ n = j := by omega
   have hj2 : (j : Int) ≤ (n : Int) := by omega
   obtain ⟨m,hm⟩ : ∃ m : Nat,∃ _u : Unit,Nat.min j (n - j) = m ∧ j + m ≤ n ∧ 1 ≤ m ∧ m ≤ j := ⟨Nat.min j (n - j),(),rfl,by show j + min j (n - j) ≤ n;omega,by have := hj.choose_spec;show 1 ≤ min j (n - j);omega,Nat.min_le_left _ _⟩;obtain ⟨j1,hj9⟩ : ∃ j1 : Nat,∃ _u : Unit,j1 = j + m := ⟨_,(),rfl⟩;have hwj : IntKind.i64.wrap ((j : Int) + (m : Int)) = (j1 : Int) := by have := hj9.choose_spec;have := hm.choose_spec;rw [IntWalk.i64_in _ (by omega)];omega
   refine skN ?_;refine Wp.block ?_;refine Wp.loneDrawT (.inl rfl) mixed (.rd [1,2,3,4,5] (.rd [6] (.pu [0] (.act 7 true (.pu [8,9] .done))))) (by kernel_rfl) (fun ρ W => AllEq [7] ρ r11 ∧ (Chg [n30] wk W ∧ ρ 8 = .int .i64 (j1 : Int) ∧ RowC W n30 bt (repV x j1 ++ repV 0 (n - j1)))) (fun K' gd hK hg => ?_) ?_
   ·skip;clear hg;simp only [pickT,nth,List.map_cons,List.map_nil];apply Mtree.reads
    ·intro w' hE';go_simp;with_reducible rfl
    apply Mtree.reads
    ·intro w' hE';go_simp;with_reducible rfl
    apply Mtree.pures
    ·intro w';go_simp;with_reducible rfl
    refine Mtree.stepTH fun K1 hK1 => ?_;obtain ⟨w8,hrun,hR2,hgr⟩ := copy_rowV (w := wk.drew) ints_T (bt := bt) 3 (o := j) (m := m) (dLen := n - j) (dCap := n - j) (sLen := j) (sCap := n) (a := ⟨n30,0,none⟩) (repV x m) (show RowC wk.drew n30 bt _ from hR) hm.choose_spec.1 (by rw [repV_len];omega) (by intro q u hu;obtain ⟨hq,rfl⟩ := repV_get hu;rw [Addr.add_lit,RowC.cell (show RowC wk.drew n30 bt _ from hR),List.getElem?_append_left (by rw [repV_len];have := hm.choose_spec;omega)];unfold repV;rw [List.getElem?_replicate,if_pos (by have := hm.choose_spec;omega)]) (by rw [repV_len,List.length_append,repV_len,repV_len];have := hm.choose_spec;omega) repV_one;rw [repV_len,rep_step hm.choose_spec.2.1,← hj9.choose_spec] at hR2;refine if_pos_of rfl (Wstep.law (exec_copy2 rfl hrun (by go_simp) (by go_simp)) ?_);refine hK1.h _ _ ?_;clear hK1 K1;apply Mtree.pures
    ·intro w';go_simp;with_reducible rfl
    refine Mtree.fin ?_;refine hK _ _ ⟨by simp [AllEq,go_sem],?_⟩;exact ⟨⟨(grown_chg hgr).os,(grown_chg hgr).tape,(grown_chg hgr).output,(grown_chg hgr).size,(grown_chg hgr).block⟩,by first | rfl | go_simp,hR2⟩
   ·rintro r12 W ⟨hA,hT4,e8,hR2⟩;obtain ⟨K,-⟩ := hA;rw [c] at K;clear c e d;refine Ends.mk ?_;replace xw := Chg.to xw hT4 XL;replace xo := Chg.to xo hT4 XL;refine bNo ?_;refine thenK_normal ⟨by omega,⟨by rw [K,I],trivial⟩,rfl,xo,?_⟩;exact ⟨j1,by rw [e8],hR2,(),by have := hj9.choose_spec;have := hm.choose_spec;have := hj.choose_spec;omega,by have := hj9.choose_spec;have := hm.choose_spec;omega⟩
  ·refine cFf ?_;obtain rfl : j = n := by have := hj.choose_spec;omega
   refine Wp.exit ?_;refine tEx ?_;refine tEx ?_;refine blockK_here ?_;refine tNo ?_;refine sRg fun K' gd hK => ?_;go_simp;apply hK;clear hK K' gd;refine Wp.keep [4] ?_;rintro r13 ⟨J,-⟩;simp [go_sem,c,e,d] at J;clear c e d;refine Wp.ret ?_;refine endK_tmp Tryz.results137 (by decide) ?_;rw [J];exact ⟨⟨_,rfl,by omega,rep_rowI hR⟩,xw⟩
structure PlanF (W : World) (S pb n : Nat) (A : Option Addr) (c : Nat) (A2 : Option Addr) (c2 : Nat) (t : Tr) (h : Nat → Int) : Prop where
 k0 : W.cell? ⟨pb,0,none⟩ = some (.int .i64 t.n)
 k1 : W.cell? ⟨pb,1,none⟩ = some (.slice A t.cl.length c)
 k2 : W.cell? ⟨pb,2,none⟩ = some (.slice A2 t.fl.length c2)
 ex : ∃ hb,W.cell? ⟨pb,3,none⟩ = some (.slice (some ⟨hb,0,none⟩) n n) ∧ HasF W hb n h ∧ S ≤ hb ∧ hb ≠ pb
 fz : ∀ j,W.frozen? ⟨pb,j,none⟩ = false
 tour : TourS W S (.agg #[.int .i64 t.n,.slice A t.cl.length c,.slice A2 t.fl.length c2]) t
 s : S ≤ pb ∧ S ≤ W.heap.size
section
variable {W V : World} {S pb n : Nat} {A : Option Addr} {c : Nat} {A2 : Option Addr} {c2 : Nat} {t : Tr} {h : Nat → Int}
theorem PlanF.ext (a : PlanF W S pb n A c A2 c2 t h) (hE : Ext W V) : PlanF V S pb n A c A2 c2 t h := by
 obtain ⟨hb,q1,q2,q3,q4⟩ := a.ex;exact ⟨hE.cell a.k0,hE.cell a.k1,hE.cell a.k2,⟨hb,hE.cell q1,q2.ext hE,q3,q4⟩,hE.fz a.k0 a.fz,a.tour.ext hE,a.s.1,Nat.le_trans a.s.2 hE.size⟩
end
theorem HasF.cells {W : World} {hb n : Nat} {h : Nat → Int} (a : HasF W hb n h) : ∀ j v,((List.range n).map fun d => Value.int .i64 (h d))[j]? = some v → W.cell? ((⟨hb,0,none⟩ : Addr).add j) = some v := by
 intro j v hv;rw [List.getElem?_map] at hv;obtain ⟨x,hx,rfl⟩ := Option.map_eq_some_iff.1 hv;obtain ⟨hj,e⟩ := List.getElem?_eq_some_iff.1 hx;rw [List.length_range] at hj;rw [List.getElem_range] at e;subst e;rw [Addr.add_lit,Nat.zero_add];exact a.r.c j hj
theorem hasF_of {W : World} {b n : Nat} {t : TypeId} {cs : List Value} {h : Nat → Int} (a : RowC W b t cs) (hcs : cs = (List.range n).map fun d => Value.int .i64 (h d)) (hn : 0 < n) : HasF W b n h :=
 ⟨⟨fun d hd => by rw [a.cell,hcs,List.getElem?_map,List.getElem?_range hd];rfl,fun j => a.frozen j,a.lt⟩,hn⟩
theorem tried_of {W : World} {b : Nat} {cs : List Value} (a : RowX W b cs) (hcs : cs = List.replicate 60 (.bool false) := by rfl) : TriedF W b (fun _ => false) := by
 obtain ⟨t,h⟩ := a.ex;subst hcs;exact ⟨⟨fun d hd => by rw [h.cell,List.getElem?_replicate,if_pos hd],fun j => h.frozen j,h.lt⟩⟩
theorem add_c (t : Tr) (S pb n i : Nat) (A : Option Addr) (c : Nat) (A2 : Option Addr) (c2 : Nat) (h : Nat → Int) (w : World) (hn : n ≤ 60) (hcl : t.cl.length ≤ 1000000000000000) (hfl : t.fl.length ≤ 1000) (hfd : ∀ k (h : k < t.fl.length),0 ≤ t.fl[k].lo ∧ t.fl[k].hi < n)
  (hi : i < t.fl.length) (hhl : ∀ d,h d < t.fl.length) (hP : PlanF w S pb n A c A2 c2 t h) :
  CallsV Tryz.prog 126 #[.pointer (some ⟨pb,0,none⟩),.int .i64 (i : Int)] w fun v w' =>
   v = .bool (addB t.N n h i) ∧ PlanF w' S pb n A c A2 c2 t (addF t.N n h i) ∧ Chg [pb] w w' := by
 obtain ⟨hb,y3,hR,hS1,hne⟩ := hP.ex;have hn0 := hR.p;have heg := give_enters;have hn9 : n ≤ 1000000000 := by omega
 have y0 := hP.k0;have y1 := hP.k1;have y2 := hP.k2;have fp := hP.fz;have hTo := hP.tour;obtain ⟨s1,s2⟩ := hP.s;have lb1 := hR.r.lt;have lb2 : pb < w.heap.size := cell_lt y0;replace hhl : ∃ _u : Unit,_ := ⟨(),hhl⟩;clear hP;refine Wp.fn Tryz.func126 rfl Tryz.ntmps126 (by simp) ?_;have xw := Ext.refl w;refine Wp.keep [0,1] ?_;rintro r1 ⟨G,H,-⟩;simp [go_sem] at G H;have xg := Chg.refl [pb] w;refine sRg fun K' gd hK => ?_;refine cu1 fun K1 hK1 => ?_;go_simp;apply hK1;clear hK1 K1;refine Wops.absA fun ap n2 z => ?_;obtain ⟨q2,z,s2,ae,f2,r2⟩ := z;try simp only [q2] at ae f2 r2 ⊢
 replace fp := z.fz y0 fp;replace hR := hR.ext z;replace hTo := hTo.ext z;replace xw := xw.trans z;replace xg := Chg.ext xg z;replace y0 := z.cell y0;replace y1 := z.cell y1;replace y2 := z.cell y2;replace y3 := z.cell y3;have e := ae 0 _ rfl;clear ae z;clear r2;go_simp;apply hK;clear hK K' gd;refine Wp.keep [1,2] ?_;rintro r2 ⟨I,Q,-⟩;simp [go_sem,G,H] at I Q;clear G H;refine sRg fun K' gd hK => ?_;refine cu6 fun K1 hK1 => ?_;go_simp;apply hK1;clear hK1 K1;refine Wops.absA fun ao n13 y => ?_;obtain ⟨q13,y,s13,k13,f13,r13⟩ := y;try simp only [q13] at k13 f13 r13 ⊢
 replace fp := y.fz y0 fp;replace hR := hR.ext y;replace hTo := hTo.ext y;replace xw := xw.trans y;replace xg := Chg.ext xg y;replace y0 := y.cell y0;replace y1 := y.cell y1;replace y2 := y.cell y2;replace y3 := y.cell y3;replace e := y.cell e;clear y;have rx13 := RowX.mk2 r13;refine cu2 fun K1 hK1 => ?_;go_simp;apply hK1;clear hK1 K1;refine Wops.absA fun am n5 l => ?_;obtain ⟨q5,l,s5,af,f5,r5⟩ := l;try simp only [q5] at af f5 r5 ⊢
 replace fp := l.fz y0 fp;replace hR := hR.ext l;replace hTo := hTo.ext l;replace rx13 := rx13.ext l;replace xw := xw.trans l;replace xg := Chg.ext xg l;replace y0 := l.cell y0;replace y1 := l.cell y1;replace y2 := l.cell y2;replace y3 := l.cell y3;replace e := l.cell e;have x := af 0 _ rfl;clear af l;clear r5;try simp only [Wops_nil,updO_some,updO_none]
 apply hK;clear hK K' gd;refine Wp.keep [1,2,5] ?_;rintro r3 ⟨J,R,X,-⟩;simp [go_sem,I,Q] at J R X;clear I Q;obtain ⟨bt,hR0⟩ : ∃ bt,RowC am n13 bt (List.replicate n (.int .i64 0)) := by simpa using rx13.ex
 refine Wp.seqDraw (.inl rfl) mixed [([0,1,2,3,4],some (5,true))] (by kernel_rfl) fun K' gd hK hg => ?_;clear hg;simp only [pick,nth,List.map_cons,List.map_nil,Option.map_none,Option.map_some];refine Mops.absD fun D5 hD5 zD5 => ?_;replace fp := hD5.fz y0 fp;replace hR := hR.ext hD5;replace hTo := hTo.ext hD5;replace hR0 := hR0.ext hD5;replace xw := xw.trans hD5;replace xg := Chg.ext xg hD5;replace y0 := hD5.cell y0;replace y1 := hD5.cell y1;replace y2 := hD5.cell y2;replace y3 := hD5.cell y3;replace e := hD5.cell e;replace x := hD5.cell x;clear hD5;refine mLa ?_
 intro K1 hK1;obtain ⟨w7,hrun,hR1,hgr⟩ := copy_rowV ints_T (bt := bt) 3 (o := 0) (m := n) (dLen := n) (dCap := n) (sLen := n) (sCap := n) (a := ⟨hb,0,none⟩) ((List.range n).map fun d => Value.int .i64 (h d)) hR0 (Nat.min_self n) (by simp) hR.cells (by simp) (by intro u hu;obtain ⟨d,-,rfl⟩ := List.mem_map.1 hu;rfl);refine if_pos_of rfl (Wstep.law (exec_copy2 rfl hrun (by go_simp) (by go_simp)) ?_);apply hK1;clear hK1 K1;have z4 := World.grownBy.size hgr;replace fp := Chg.fz (grown_chg hgr) y0 fp (lt_off (show ∀ k,some n13 = some k → n13 ≤ k ∧ k < n13 + 1 from fun k hk => by injection hk with hk;omega) (by omega));replace hR := hR.chg (grown_chg hgr) (by first | (intro b hb;exact lt_off (show ∀ k,some n13 = some k → n13 ≤ k ∧ k < n13 + 1 from fun k hk => by injection hk with hk;omega) (by omega)) | exact lt_off (show ∀ k,some n13 = some k → n13 ≤ k ∧ k < n13 + 1 from fun k hk => by injection hk with hk;omega) (by omega) | exact lt_ge (show ∀ k,some n13 = some k → n13 ≤ k ∧ k < n13 + 1 from fun k hk => by injection hk with hk;omega) (by omega) | exact fun b hb => .inr (lt_ge (show ∀ k,some n13 = some k → n13 ≤ k ∧ k < n13 + 1 from fun k hk => by injection hk with hk;omega) (by omega) b hb));replace hTo := hTo.chg (grown_chg hgr) (by first | (intro b hb;exact lt_off (show ∀ k,some n13 = some k → n13 ≤ k ∧ k < n13 + 1 from fun k hk => by injection hk with hk;omega) (by omega)) | exact lt_off (show ∀ k,some n13 = some k → n13 ≤ k ∧ k < n13 + 1 from fun k hk => by injection hk with hk;omega) (by omega) | exact lt_ge (show ∀ k,some n13 = some k → n13 ≤ k ∧ k < n13 + 1 from fun k hk => by injection hk with hk;omega) (by omega) | exact fun b hb => .inr (lt_ge (show ∀ k,some n13 = some k → n13 ≤ k ∧ k < n13 + 1 from fun k hk => by injection hk with hk;omega) (by omega) b hb))
 replace xw := Chg.to xw (grown_chg hgr) (lt_ge (show ∀ k,some n13 = some k → n13 ≤ k ∧ k < n13 + 1 from fun k hk => by injection hk with hk;omega) (by omega));replace xg := Chg.more xg (grown_chg hgr) (by first | exact lt_gm (show ∀ k,some n13 = some k → n13 ≤ k ∧ k < n13 + 1 from fun k hk => by injection hk with hk;omega) (by omega) | simp);replace y0 := Chg.cell (grown_chg hgr) y0 (lt_off (show ∀ k,some n13 = some k → n13 ≤ k ∧ k < n13 + 1 from fun k hk => by injection hk with hk;omega) (by omega));replace y1 := Chg.cell (grown_chg hgr) y1 (lt_off (show ∀ k,some n13 = some k → n13 ≤ k ∧ k < n13 + 1 from fun k hk => by injection hk with hk;omega) (by omega));replace y2 := Chg.cell (grown_chg hgr) y2 (lt_off (show ∀ k,some n13 = some k → n13 ≤ k ∧ k < n13 + 1 from fun k hk => by injection hk with hk;omega) (by omega));replace y3 := Chg.cell (grown_chg hgr) y3 (lt_off (show ∀ k,some n13 = some k → n13 ≤ k ∧ k < n13 + 1 from fun k hk => by injection hk with hk;omega) (by omega));replace e := Chg.cell (grown_chg hgr) e (lt_off (show ∀ k,some n13 = some k → n13 ≤ k ∧ k < n13 + 1 from fun k hk => by injection hk with hk;omega) (by omega));replace x := Chg.cell (grown_chg hgr) x (lt_off (show ∀ k,some n13 = some k → n13 ≤ k ∧ k < n13 + 1 from fun k hk => by injection hk with hk;omega) (by omega));refine Mops.done ?_;apply hK;clear hK K' gd;refine Wp.keep [1,2,5] ?_;rintro r5 ⟨K,T,Y,-⟩;simp [go_sem,J,R,X] at K T Y
 clear J R X;have hH : HasF w7 n13 n h := hasF_of hR1 (by simp) hn0;refine sRg fun K' gd hK => ?_;refine cu1 fun K1 hK1 => ?_;go_simp;apply hK1;clear hK1 K1;refine Wops.absA fun aq n6 g => ?_;obtain ⟨q6,g,s6,an,f6,r6⟩ := g;try simp only [q6] at an f6 r6 ⊢
 replace fp := g.fz y0 fp;replace hR := hR.ext g;replace hTo := hTo.ext g;replace hH := hH.ext g;replace xw := xw.trans g;replace xg := Chg.ext xg g;replace y0 := g.cell y0;replace y1 := g.cell y1;replace y2 := g.cell y2;replace y3 := g.cell y3;replace e := g.cell e;replace x := g.cell x;clear g;have rx6 := RowX.mk2 r6;clear r6;try simp only [Wops_nil,updO_some,updO_none]
 apply hK;clear hK K' gd;refine Wp.keep [1,2,5,6] ?_;rintro r6 ⟨L,U,Z,ab,-⟩;simp [go_sem,K,T,Y] at L U Z ab;clear K T Y;refine sRg fun K' gd hK => ?_;refine cu1 fun K1 hK1 => ?_;go_simp;apply hK1;clear hK1 K1;refine Wops.absA fun ar n7 f => ?_;obtain ⟨q7,f,s7,ag,f7,r7⟩ := f;try simp only [q7] at ag f7 r7 ⊢
 replace fp := f.fz y0 fp;replace hR := hR.ext f;replace hTo := hTo.ext f;replace hH := hH.ext f;replace rx6 := rx6.ext f;replace xw := xw.trans f;replace xg := Chg.ext xg f;replace y0 := f.cell y0;replace y1 := f.cell y1;replace y2 := f.cell y2;replace y3 := f.cell y3;replace e := f.cell e;replace x := f.cell x;have B := ag 0 _ rfl;clear ag f;clear r7;try simp only [Wops_nil,updO_some,updO_none]
 apply hK;clear hK K' gd;refine Wp.keep [1,2,5,6,7] ?_;rintro r7 ⟨M,V,aa,ac,ad,-⟩;simp [go_sem,L,U,Z,ab] at M V aa ac ad;clear L U Z ab;refine sRg fun K' gd hK => ?_;refine cu2 fun K1 hK1 => ?_;go_simp;apply hK1;clear hK1 K1;refine Wops.absS (b := n7) (i := 0) [_] (somes [cellVal B] (by simp) (by intro j v hj;match j,hj with | 0,hj => (simp at hj;subst hj;exact B))) fun P8 hP8 => ?_;have zP8 := hP8.same;replace fp := hP8.frz fp;replace hR := hR.put hP8 (by omega);replace hTo := hTo.put hP8 (by omega);replace hH := hH.put hP8 (by omega);replace rx6 := rx6.put hP8 (by omega);replace xw := Put.to xw hP8 (by omega);replace xg := Put.more xg hP8 (.inl (by omega));replace y0 := hP8.cell y0 (by omega);replace y1 := hP8.cell y1 (by omega);replace y2 := hP8.cell y2 (by omega);replace y3 := hP8.cell y3 (by omega);replace e := hP8.cell e (by omega);replace x := hP8.cell x (by omega);clear B;have B := hP8.new 0 _ rfl;try simp only [Nat.reduceAdd,Nat.zero_add,Nat.add_zero] at B
 clear hP8;try simp only [Wops_nil,updO_some,updO_none]
 apply hK;clear hK K' gd;refine Wp.keep [1,2,5,7] ?_;rintro r8 ⟨C,D,E,F,-⟩;simp [go_sem,M,V,aa,ac,ad] at C D E F;clear M V aa ac ad;refine Wp.seq ?_;have hTr : TriedF P8 n6 (fun _ => false) := tried_of rx6;have hD : GiveD P8 S n2 pb n6 n5 n7 n13 n A c A2 c2 t := ⟨e,y0,y1,y2,x,B,hTo,⟨by omega,by omega,by omega⟩,⟨⟨by omega,by omega⟩,⟨by omega,by omega⟩,⟨by omega,by omega⟩,⟨by omega,by omega⟩,by omega⟩⟩
 by_cases hb2 : addB t.N n h i = true
 ·skip;refine sRg fun K' gd hK => ?_;refine cu3 fun K1 hK1 => ?_;go_simp;refine Wcall (.inl rfl) (give_c t S n2 pb n6 n5 n7 n13 n A c A2 c2 hn hcl hfl hfd (n + 1) i h (fun _ => false) _ (by have := untr_none n;omega) hi hhl.choose_spec hD hH hTr) ?_;rintro v w5 ⟨hv,hR5,hT5,hC⟩;rw [show (giveF t.N (n + 1) i h fun _ => false).1 = true from hb2] at hv;subst hv;go_simp;apply hK1;clear hK1 K1;have z9 := Chg.size hC;replace fp := Chg.fz hC y0 fp XN;replace hTo := hTo.chg hC XB;replace xw := Chg.to xw hC XL;replace xg := Chg.more xg hC (by intro b hm;simp only [List.mem_cons,List.not_mem_nil,or_false] at hm;first | (left;omega) | (right;simp [hm];done) | (rcases hm with hm | hm <;> first | (left;omega) | (right;simp [hm])));replace y0 := Chg.cell hC y0 XN;replace y1 := Chg.cell hC y1 XN;replace y2 := Chg.cell hC y2 XN;replace y3 := Chg.cell hC y3 XN;replace e := Chg.cell hC e XN;replace x := Chg.cell hC x XN;go_simp;apply hK;clear hK K' gd;refine Wp.keep [2,5,24] ?_;rintro r10 ⟨ai,al,ah,-⟩;simp [go_sem,C,D,E,F] at ai al ah;clear C D E F;refine cFf ?_;refine skN ?_;refine sRg fun K' gd hK => ?_
  refine cu5 fun K1 hK1 => ?_;go_simp;apply hK1;clear hK1 K1;refine Wops.absS (b := pb) (i := 3) [_] (some1 y3) fun P9 hP9 => ?_;have zP9 := hP9.same;replace fp := hP9.frz fp;replace hTo := hTo.put hP9 (by omega);replace hR5 := hR5.put hP9 (by omega);replace xg := Put.more xg hP9 (.inr (by simp));replace y0 := Put.cellOff hP9 y0 (by first | (simp;done) | (simp;omega));replace y1 := Put.cellOff hP9 y1 (by first | (simp;done) | (simp;omega));replace y2 := Put.cellOff hP9 y2 (by first | (simp;done) | (simp;omega));try simp only [Wops_nil,updO_some,updO_none]
  apply hK;clear hK K' gd;refine Wp.keep [] fun r11 hkeep => ?_;clear hkeep;clear ai al ah;have y9 := hP9.new 0 _ rfl;refine sRg fun K' gd hK => ?_;go_simp;apply hK;clear hK K' gd;refine Wp.keep [4] ?_;rintro r12 ⟨aj,-⟩;simp [go_sem] at aj;refine Wp.ret ?_;refine endK_tmp Tryz.results126 (by decide) ?_;rw [aj];refine ⟨by rw [hb2],⟨y0,y1,y2,⟨n13,y9,?_,by omega,by omega⟩,fp,hTo,⟨s1,by omega⟩⟩,xg⟩;unfold addF;rw [if_pos (show (addR t.N n h i).1 = true from hb2)];exact hR5
 ·skip;refine sRg fun K' gd hK => ?_;refine cu3 fun K1 hK1 => ?_;go_simp;refine Wcall (.inl rfl) (give_c t S n2 pb n6 n5 n7 n13 n A c A2 c2 hn hcl hfl hfd (n + 1) i h (fun _ => false) _ (by have := untr_none n;omega) hi hhl.choose_spec hD hH hTr) ?_;rintro v w5 ⟨hv,hR5,hT5,hC⟩;rw [show (giveF t.N (n + 1) i h fun _ => false).1 = false from by have q : ¬ (giveF t.N (n + 1) i h fun _ => false).1 = true := hb2;simpa using q] at hv;subst hv;go_simp;apply hK1;clear hK1 K1;have z13 := Chg.size hC;replace fp := Chg.fz hC y0 fp XN;replace hR := hR.chg hC XB;replace hTo := hTo.chg hC XB;replace xw := Chg.to xw hC XL;replace xg := Chg.more xg hC (by intro b hm;simp only [List.mem_cons,List.not_mem_nil,or_false] at hm;first | (left;omega) | (right;simp [hm];done) | (rcases hm with hm | hm <;> first | (left;omega) | (right;simp [hm])));replace y0 := Chg.cell hC y0 XN;replace y1 := Chg.cell hC y1 XN;replace y2 := Chg.cell hC y2 XN;replace y3 := Chg.cell hC y3 XN;go_simp;apply hK;clear hK K' gd;refine Wp.keep [2,5,24] ?_;rintro r14 ⟨P,W,O,-⟩;simp [go_sem,C,D,E,F] at P W O;clear C D E F;refine cTt ?_;refine sRg fun K' gd hK => ?_;go_simp
  apply hK;clear hK K' gd;refine Wp.keep [4] ?_;rintro r15 ⟨ak,-⟩;simp [go_sem,P,W,O] at ak;clear P W O;refine Wp.ret ?_;refine tRe ?_;refine endK_tmp Tryz.results126 (by decide) ?_;rw [ak];refine ⟨by rw [show addB t.N n h i = false by simpa using hb2],⟨y0,y1,y2,⟨hb,y3,?_,hS1,hne⟩,fp,hTo,⟨s1,by omega⟩⟩,xg⟩;unfold addF;rw [if_neg (show ¬ (addR t.N n h i).1 = true from hb2)];exact hR
theorem OwnI.rowJ {w : World} {base : Nat} {v : Value} {xs : List Int} (h : OwnI w base v xs) (hne : xs ≠ []) : ∃ b c,v = .slice (some ⟨b,0,none⟩) xs.length c ∧ base ≤ b ∧ xs.length ≤ c ∧ RowJ w b xs := by
 rcases h.2 with ⟨rfl,hn⟩ | ⟨g,cap,cur,rfl,hb,hg,hnc,hcm,hcs,htake⟩
 ·exact absurd (List.eq_nil_of_length_eq_zero hn) hne
 ·refine ⟨g,cap,rfl,hb,hnc,fun i hi => ?_,own_fz h,hne⟩;have := World.ownsRow.cells h (g := g) rfl i (.int .i64 xs[i]) (by simp [hi]);rw [Addr.add_lit,Nat.zero_add] at this;rw [gI_lt hi];exact this
structure FlawsS (w : World) (S : Nat) (v : Value) (fl : List Fl) : Prop where
 v : FlawsV w S v fl
section
variable {w V : World} {S : Nat} {v : Value} {fl : List Fl}
theorem FlawsS.ext (h : FlawsS w S v fl) (hE : Ext w V) : FlawsS V S v fl := ⟨h.v.cells fun _ _ _ _ hc => hE.cell hc⟩
theorem FlawsS.chg {L : List Nat} (h : FlawsS w S v fl) (hC : Chg L w V) (hL : ∀ b ∈ L,S ≤ b) : FlawsS V S v fl := ⟨h.v.cells fun b _ _ hb hc => Chg.cell hC hc fun hm => by have := hL b hm;omega⟩
theorem FlawsS.put {b i : Nat} {vs : List Value} (h : FlawsS w S v fl) (p : Put w V b i vs) (hb : S ≤ b) : FlawsS V S v fl := h.chg p.chg (by simpa using hb)
end
def flV (f : Fl) : Value := .agg #[.int .i64 f.id,.int .i64 f.lo,.int .i64 f.hi,.int .i64 f.m]
def rangeI (n : Nat) : List Int := (List.range n).map fun i : Nat => (i : Int)
theorem rangeI_S (n : Nat) : rangeI (n + 1) = rangeI n ++ [(n : Int)] := by unfold rangeI;rw [List.range_succ,List.map_append];rfl
theorem rangeI_len (n : Nat) : (rangeI n).length = n := by unfold rangeI;simp
theorem rangeI_mem {n : Nat} {x : Int} : x ∈ rangeI n ↔ ∃ k : Nat,x = (k : Int) ∧ k < n := by
 unfold rangeI;rw [List.mem_map]
 constructor
 ·rintro ⟨k,hk,rfl⟩;exact ⟨k,rfl,List.mem_range.1 hk⟩
 ·rintro ⟨k,rfl,hk⟩;exact ⟨k,List.mem_range.2 hk,rfl⟩
theorem ordered1_c (fl : List Fl) (A : Option Addr) (c S q2 q3 cf i j : Nat) (lt : Int → Int → Bool) (w : World) (hF : FlawsS w S (.slice A fl.length c) fl) (h2 : w.cell? ⟨q2,0,none⟩ = some (.slice A fl.length c)) (h3 : w.cell? ⟨q3,0,none⟩ = some (.func (.func cf) #[] #[]))
  (hi : i < fl.length) (hj : j < fl.length) (heg : ∀ args w,(callFunc cf args).run Tryz.prog w = .ok (.enter cf args) w)
  (hc : ∀ i j (hi : i < fl.length) (hj : j < fl.length) W,CallsV Tryz.prog cf #[flV fl[i],flV fl[j]] W fun v W' => (∃ r : Int,v = .int .i64 r ∧ decide (r < 0) = lt (i : Int) (j : Int)) ∧ Ext W W') :
  CallsV Tryz.prog 185 #[.int .i64 (i : Int),.int .i64 (j : Int),.pointer (some ⟨q3,0,none⟩),.pointer (some ⟨q2,0,none⟩)] w fun v w' => (∃ r : Int,v = .int .i64 r ∧ decide (r < 0) = lt (i : Int) (j : Int)) ∧ Ext w w' := by
 obtain ⟨b,o,rfl,hb,x0,x1,x2,x3⟩ := FlawsV.at hF.v hi;obtain ⟨b',o',e,hb',y0,y1,y2,y3⟩ := FlawsV.at hF.v hj
 injection e with e;injection e with e1 e2 _;subst e1;subst e2
 have hii : (i : Int) < (fl.length : Int) := by omega
 have hjj : (j : Int) < (fl.length : Int) := by omega
 have hc2 := hc i j hi hj;clear hc;unfold flV at hc2;refine Wp.fn Tryz.func185 rfl Tryz.ntmps185 (by simp) ?_;have xw := Ext.refl w;refine Wp.keep [0,1,2,3] ?_;rintro r1 ⟨a,f,h,l,-⟩;simp [go_sem] at a f h l;refine sRg fun K' gd hK => ?_;go_simp;apply hK;clear hK K' gd;refine Wp.keep [0,1,2,3] ?_;rintro r2 ⟨d,g,k,m,-⟩;simp [go_sem,a,f,h,l] at d g k m;clear a f h l;refine Wp.seqDraw (.inl rfl) mixed [([0,1,2,3,4],none),([5,6,7,8],some (9,false)),([10],none)] (by kernel_rfl) fun K' gd hK hg => ?_;clear hg;simp only [pick,nth,List.map_cons,List.map_nil,Option.map_none,Option.map_some];refine Mops.absD fun D1 hD1 zD1 => ?_;replace xw := xw.trans hD1;replace h2 := hD1.cell h2;replace h3 := hD1.cell h3;replace x0 := hD1.cell x0;replace x1 := hD1.cell x1;replace x2 := hD1.cell x2;replace x3 := hD1.cell x3;replace y0 := hD1.cell y0;replace y1 := hD1.cell y1;replace y2 := hD1.cell y2;replace y3 := hD1.cell y3;clear hD1;refine mNo ?_
 refine mAc ?_
 intro K1 hK1;go_simp;refine Wcall (.inl rfl) (hc2 _) ?_;rintro v w2 ⟨⟨r,rfl,hr⟩,hE⟩;go_simp;refine hK1 _ _ (by assumption) ?_;clear hK1 K1;replace xw := xw.trans hE;clear hE;apply Mops.none
 ·intro w' hE';go_simp;with_reducible rfl
 refine Mops.done ?_;apply hK;clear hK K' gd;refine Wp.keep [6] ?_;rintro r4 ⟨n,-⟩;simp [go_sem,d,g,k,m] at n;clear d g k m;refine Wp.ret ?_;refine endK_tmp Tryz.results185 (by decide) ?_;rw [n];exact ⟨⟨r,rfl,hr⟩,xw⟩
end Go.Proofs.YtnklbepeoicgpaaGreat
