/- What a line of a sheet is on each day, and the days on which a word can be copied (plain law). The earliest and the latest days of a copy (plain law). Lists in memory: what is read, and what is our own. A sheet and a copy, and how they lie in memory; what Check says. The words that a line reads on a day (plain law). A copy with the days on which each line can have been copied: its earliest and its latest days (plain law). within, right, valid. Check. valid, CheckCopy, line. Faces compared; what a line reads. A face behind a change; what it reads; faces. The faces of a line, yielded. Rows of ou -/
import Derived.Test.YtnjajbkkgfohaaaProg
import Derived.Test.YtnjajbkkgfohaaaRw1
import Derived.Laws.EntriesVeiled
import Derived.Lib.SliceRun
import Derived.RangeFuncBox
import Derived.Laws.StructEq
set_option linter.all false
namespace Go.Proofs.Ytnjajbkkgfohaaa
structure Alt where
  id : Int
  kind : Int
  day : Int
  frm : Int
  tu : Int
  word : Int
instance : Inhabited Alt := ⟨⟨0, 0, 0, 0, 0, 0⟩⟩
structure Sh where
  words : List Int
  alts : List Alt
def Sh.n (s : Sh) : Nat := s.words.length
def Sh.W (s : Sh) (i : Nat) : Int := s.words[i]?.getD 0
abbrev Face := Int × Int × Bool
def aft (f : Face) (a : Alt) : Face :=
  if f.2.2 = true then f else if a.kind = 1 then (0, f.2.1, f.2.2) else if a.kind = 2 then (0, 0, true) else if a.kind = 3 then (f.1, a.word, f.2.2) else if a.kind = 4 then (a.word, 0, f.2.2) else f
def nxt (i : Int) (f : Face) (a : Alt) : Face := if a.frm ≤ i ∧ i ≤ a.tu then aft f a else f
def facesL (i : Int) : List Alt → Face → Int → List (Int × Int × Face)
  | [], f, d => [(d, 730, f)]
  | a :: l, f, d => if nxt i f a = f then facesL i l f d else if d < a.day then (d, a.day - 1, f) :: facesL i l (nxt i f a) a.day else facesL i l (nxt i f a) a.day
def rds (f : Face) (w : Int) : Bool := if w = 0 then decide (f.1 = 0 ∧ f.2.1 = 0) else decide (f.1 = w ∨ f.2.1 = w)
def addS (out : List (Int × Int)) (lo hi : Int) : List (Int × Int) :=
  match out.getLast? with
  | some s => if s.2 + 1 = lo then out.dropLast ++ [(s.1, hi)] else out ++ [(lo, hi)]
  | none => [(lo, hi)]
def whenF (w : Int) (l : List (Int × Int × Face)) (out : List (Int × Int)) : List (Int × Int) := l.foldl (fun out x => if rds x.2.2 w = true then addS out x.1 x.2.1 else out) out
def Sh.faces (s : Sh) (i : Nat) : List (Int × Int × Face) := facesL i s.alts (s.W i, 0, false) 0
def Sh.whenL (s : Sh) (i : Nat) (w : Int) : List (Int × Int) := whenF w (s.faces i) []
def onF (i : Int) (d : Int) (l : List Alt) (f : Face) : Face := l.foldl (fun f a => if a.day ≤ d then nxt i f a else f) f
def Sh.on (s : Sh) (i : Nat) (d : Int) : Face := onF i d s.alts (s.W i, 0, false)
def Sh.can (s : Sh) (i : Nat) (d w : Int) : Bool := rds (s.on i d) w
def daysL (lo hi : Int) : List Int := (List.range (hi + 1 - lo).toNat).map fun k => lo + (k : Nat)
theorem daysL_nil {lo hi : Int} (h : hi < lo) : daysL lo hi = [] := by
  unfold daysL; rw [show (hi + 1 - lo).toNat = 0 by omega]; rfl
theorem daysL_cons {lo hi : Int} (h : lo ≤ hi) : daysL lo hi = lo :: daysL (lo + 1) hi := by
  unfold daysL; rw [show (hi + 1 - lo).toNat = (hi + 1 - (lo + 1)).toNat + 1 by omega, List.range_succ_eq_map, List.map_cons, List.map_map]
  congr 1
  · simp
  · apply List.map_congr_left; intro k _; simp only [Function.comp_apply]; push_cast; omega
theorem daysL_snoc {lo hi : Int} (h : lo ≤ hi) : daysL lo hi = daysL lo (hi - 1) ++ [hi] := by
  unfold daysL; rw [show (hi + 1 - lo).toNat = (hi - 1 + 1 - lo).toNat + 1 by omega, List.range_succ, List.map_append]
  congr 1
  simp; omega
theorem daysL_append {lo mid hi : Int} (h1 : lo ≤ mid + 1) (h2 : mid ≤ hi) : daysL lo hi = daysL lo mid ++ daysL (mid + 1) hi := by
  unfold daysL; rw [show (hi + 1 - lo).toNat = (mid + 1 - lo).toNat + (hi + 1 - (mid + 1)).toNat by omega, List.range_add, List.map_append, List.map_map]
  congr 1
  apply List.map_congr_left; intro k _; simp only [Function.comp_apply]; push_cast; omega
theorem mem_daysL {lo hi d : Int} : d ∈ daysL lo hi ↔ lo ≤ d ∧ d ≤ hi := by
  unfold daysL; rw [List.mem_map]
  constructor
  · rintro ⟨k, hk, rfl⟩; rw [List.mem_range] at hk; omega
  · rintro ⟨h1, h2⟩; exact ⟨(d - lo).toNat, by rw [List.mem_range]; omega, by omega⟩
def SortA : Int → List Alt → Prop
  | _, [] => True
  | d, a :: l => d ≤ a.day ∧ a.day ≤ 730 ∧ SortA a.day l
theorem onF_before {i d : Int} : ∀ {l : List Alt} {f : Face} {e : Int}, SortA e l → d < e → onF i d l f = f
  | [], _, _, _, _ => rfl
  | a :: l, f, e, hs, hd => by
    have h1 := hs.1; unfold onF; rw [List.foldl_cons, if_neg (by omega)]; exact onF_before hs.2.2 (by omega)
theorem faces_days {i : Int} : ∀ {l : List Alt} {f : Face} {e : Int}, SortA e l → e ≤ 730 →
    (facesL i l f e).flatMap (fun x => (daysL x.1 x.2.1).map fun d => (d, x.2.2)) = (daysL e 730).map fun d => (d, onF i d l f)
  | [], f, e, _, _ => by simp [facesL, onF]
  | a :: l, f, e, hs, he => by
    obtain ⟨h1, h2, h3⟩ := hs; have key : ∀ g d, a.day ≤ d → onF i d (a :: l) g = onF i d l (nxt i g a) := fun g d hd => by unfold onF; rw [List.foldl_cons, if_pos hd]
    have keyb : ∀ g d, d < a.day → onF i d (a :: l) g = g := fun g d hd => by
      unfold onF; rw [List.foldl_cons, if_neg (by omega)]; exact onF_before h3 hd
    unfold facesL
    by_cases hn : nxt i f a = f
    · rw [if_pos hn]
      have hs' : SortA e l := by
        cases l with
        | nil => trivial
        | cons b l => exact ⟨by have := h3.1; omega, h3.2⟩
      rw [faces_days hs' he]; apply List.map_congr_left; intro d _
      by_cases hd : a.day ≤ d
      · rw [key f d hd, hn]
      · rw [keyb f d (by omega), onF_before h3 (by omega)]
    · rw [if_neg hn]
      by_cases hd : e < a.day
      · rw [if_pos hd, List.flatMap_cons, faces_days h3 h2]
        dsimp only
        rw [daysL_append (lo := e) (mid := a.day - 1) (hi := 730) (by omega) (by omega), List.map_append, show a.day - 1 + 1 = a.day by omega]
        congr 1
        · apply List.map_congr_left; intro d hm; rw [mem_daysL] at hm; rw [keyb f d (by omega)]
        · apply List.map_congr_left; intro d hm; rw [mem_daysL] at hm; rw [key f d hm.1]
      · have he' : e = a.day := by omega
        rw [if_neg hd, faces_days h3 h2, he']; apply List.map_congr_left; intro d hm; rw [mem_daysL] at hm; rw [key f d hm.1]
theorem faces_le {i : Int} : ∀ {l : List Alt} {f : Face} {e : Int}, SortA e l → e ≤ 730 → ∀ x ∈ facesL i l f e, e ≤ x.1 ∧ x.1 ≤ x.2.1 ∧ x.2.1 ≤ 730
  | [], f, e, _, he, x, hx => by simp [facesL] at hx; subst hx; exact ⟨Int.le_refl _, he, Int.le_refl _⟩
  | a :: l, f, e, hs, he, x, hx => by
    obtain ⟨h1, h2, h3⟩ := hs
    have hs' : SortA e l := by
      cases l with
      | nil => trivial
      | cons b l => exact ⟨by have := h3.1; omega, h3.2⟩
    unfold facesL at hx
    split at hx
    · exact faces_le hs' he x hx
    · split at hx
      · rcases List.mem_cons.1 hx with rfl | hx
        · exact ⟨Int.le_refl _, by dsimp only; omega, by dsimp only; omega⟩
        · have := faces_le h3 h2 x hx; exact ⟨by omega, this.2⟩
      · have := faces_le h3 h2 x hx; exact ⟨by omega, this.2⟩
def putS (out : List (Int × Int)) (d : Int) : List (Int × Int) := addS out d d
theorem addS_snoc (l : List (Int × Int)) (s : Int × Int) (lo hi : Int) : addS (l ++ [s]) lo hi = if s.2 + 1 = lo then l ++ [(s.1, hi)] else l ++ [s] ++ [(lo, hi)] := by
  unfold addS; simp
theorem addS_form (out : List (Int × Int)) (lo hi : Int) : ∃ l a, addS out lo hi = l ++ [(a, hi)] ∧ ∀ hi', addS out lo hi' = l ++ [(a, hi')] := by
  rcases List.eq_nil_or_concat out with rfl | ⟨l, s, rfl⟩
  · exact ⟨[], lo, rfl, fun _ => rfl⟩
  · simp only [List.concat_eq_append]
    by_cases h : s.2 + 1 = lo
    · exact ⟨l, s.1, by rw [addS_snoc, if_pos h], fun _ => by rw [addS_snoc, if_pos h]⟩
    · exact ⟨l ++ [s], lo, by rw [addS_snoc, if_neg h], fun _ => by rw [addS_snoc, if_neg h]⟩
theorem put_days : ∀ (n : Nat) (out : List (Int × Int)) (lo hi : Int), (hi - lo).toNat = n → lo ≤ hi → (daysL lo hi).foldl putS out = addS out lo hi
  | 0, out, lo, hi, hn, h => by
    obtain rfl : lo = hi := by omega
    rw [daysL_cons h, daysL_nil (by omega)]; rfl
  | n + 1, out, lo, hi, hn, h => by
    rw [daysL_snoc h, List.foldl_append, put_days n out lo (hi - 1) (by omega) (by omega)]; obtain ⟨l, a, h1, h2⟩ := addS_form out lo (hi - 1); rw [h1, h2 hi, List.foldl_cons, List.foldl_nil, putS, addS_snoc, if_pos (by dsimp only; omega)]
theorem when_days {w : Int} : ∀ (l : List (Int × Int × Face)) (out : List (Int × Int)), (∀ x ∈ l, x.1 ≤ x.2.1) →
    whenF w l out = (l.flatMap fun x => (daysL x.1 x.2.1).map fun d => (d, x.2.2)).foldl (fun out y => if rds y.2 w = true then putS out y.1 else out) out
  | [], _, _ => rfl
  | x :: l, out, h => by
    unfold whenF; rw [List.foldl_cons, List.flatMap_cons, List.foldl_append]; have ih := when_days (w := w) l; unfold whenF at ih; rw [ih _ fun y hy => h y (List.mem_cons_of_mem _ hy)]
    congr 1
    rw [List.foldl_map]
    by_cases hr : rds x.2.2 w = true
    · simp only [hr, if_true]; exact (put_days _ out _ _ rfl (h x List.mem_cons_self)).symm
    · simp only [hr, if_neg, Bool.false_eq_true, if_false]
      generalize daysL x.1 x.2.1 = q
      induction q with
      | nil => rfl
      | cons _ _ ih => exact ih
theorem Sh.whenL_days {s : Sh} (hs : SortA 0 s.alts) (i : Nat) (w : Int) : s.whenL i w = (daysL 0 730).foldl (fun out d => if s.can i d w = true then putS out d else out) [] := by
  unfold Sh.whenL Sh.faces; rw [when_days _ _ fun x hx => (faces_le hs (by decide) x hx).2.1, faces_days hs (by decide), List.foldl_map]
  rfl
def inside (l : List (Int × Int)) (d : Int) : Prop := ∃ x ∈ l, x.1 ≤ d ∧ d ≤ x.2
def SpansTo (hi : Int) (l : List (Int × Int)) : Prop := (∀ x ∈ l, x.1 ≤ x.2 ∧ x.2 ≤ hi) ∧ l.Pairwise fun x y => x.2 + 1 < y.1
theorem putS_spans {l : List (Int × Int)} {d : Int} (h : SpansTo (d - 1) l) : SpansTo d (putS l d) ∧ ∀ e, inside (putS l d) e ↔ inside l e ∨ e = d := by
  unfold putS
  rcases List.eq_nil_or_concat l with rfl | ⟨l, s, rfl⟩
  · refine ⟨⟨by simp [addS], by simp [addS]⟩, fun e => ?_⟩; simp [inside, addS]; omega
  · simp only [List.concat_eq_append] at h ⊢; obtain ⟨h1, h2⟩ := h; rw [List.pairwise_append] at h2; have hs := h1 s (by simp); rw [addS_snoc]
    split
    · rename_i hd
      refine ⟨⟨?_, ?_⟩, fun e => ?_⟩
      · intro x hx
        rcases List.mem_append.1 hx with hx | hx
        · have := h1 x (by simp [hx]); omega
        · simp at hx; subst hx; dsimp only; omega
      · rw [List.pairwise_append]; refine ⟨h2.1, by simp, fun x hx y hy => ?_⟩; simp at hy; subst hy; exact h2.2.2 x hx s (by simp)
      · simp only [inside, List.mem_append, List.mem_singleton]
        constructor
        · rintro ⟨x, hx | rfl, he⟩
          · exact .inl ⟨x, .inl hx, he⟩
          · dsimp only at he
            by_cases e' : e = d
            · exact .inr e'
            · exact .inl ⟨s, .inr rfl, by omega⟩
        · rintro (⟨x, hx | rfl, he⟩ | rfl)
          · exact ⟨x, .inl hx, he⟩
          · exact ⟨_, .inr rfl, by dsimp only; omega⟩
          · exact ⟨_, .inr rfl, by dsimp only; omega⟩
    · rename_i hd
      refine ⟨⟨?_, ?_⟩, fun e => ?_⟩
      · intro x hx
        rcases List.mem_append.1 hx with hx | hx
        · have := h1 x hx; omega
        · simp at hx; subst hx; dsimp only; omega
      · rw [List.pairwise_append]; refine ⟨List.pairwise_append.2 h2, by simp, fun x hx y hy => ?_⟩; simp at hy; subst hy
        rcases List.mem_append.1 hx with hx | hx
        · have := h2.2.2 x hx s (by simp)
          dsimp only; omega
        · simp at hx; subst hx; dsimp only; omega
      · simp only [inside, List.mem_append, List.mem_singleton]
        constructor
        · rintro ⟨x, hx | rfl, he⟩
          · exact .inl ⟨x, hx, he⟩
          · dsimp only at he; exact .inr (by omega)
        · rintro (⟨x, hx, he⟩ | rfl)
          · exact ⟨x, .inl hx, he⟩
          · exact ⟨_, .inr rfl, by dsimp only; omega⟩
theorem SpansTo.mono {a b : Int} {l : List (Int × Int)} (h : SpansTo a l) (hab : a ≤ b) : SpansTo b l := ⟨fun x hx => by have := h.1 x hx; omega, h.2⟩
theorem put_fold {p : Int → Bool} : ∀ (n : Nat) (lo hi : Int) , (hi + 1 - lo).toNat = n → lo ≤ hi + 1 → SpansTo hi ((daysL lo hi).foldl (fun out d => if p d = true then putS out d else out) []) ∧
    ∀ e, inside ((daysL lo hi).foldl (fun out d => if p d = true then putS out d else out) []) e ↔ lo ≤ e ∧ e ≤ hi ∧ p e = true
  | 0, lo, hi, hn, h => by
    rw [daysL_nil (by omega)]; refine ⟨⟨by simp, by simp⟩, fun e => ?_⟩; simp [inside]; omega
  | n + 1, lo, hi, hn, h => by
    obtain ⟨h1, h2⟩ := put_fold (p := p) n lo (hi - 1) (by omega) (by omega); rw [daysL_snoc (by omega), List.foldl_append]
    generalize (daysL lo (hi - 1)).foldl (fun out d => if p d = true then putS out d else out) [] = q at h1 h2
    rw [List.foldl_cons, List.foldl_nil]
    by_cases hp : p hi = true
    · rw [if_pos hp]; obtain ⟨h3, h4⟩ := putS_spans h1; refine ⟨h3, fun e => ?_⟩; rw [h4, h2]
      constructor
      · rintro (⟨a, b, c⟩ | rfl)
        · exact ⟨a, by omega, c⟩
        · exact ⟨by omega, Int.le_refl _, hp⟩
      · rintro ⟨a, b, c⟩
        by_cases e' : e = hi
        · exact .inr e'
        · exact .inl ⟨a, by omega, c⟩
    · rw [if_neg hp]; refine ⟨h1.mono (by omega), fun e => ?_⟩; rw [h2]
      constructor
      · rintro ⟨a, b, c⟩; exact ⟨a, by omega, c⟩
      · rintro ⟨a, b, c⟩; refine ⟨a, ?_, c⟩
        by_cases e' : e = hi
        · subst e'; exact absurd c hp
        · omega
theorem Sh.when_spans {s : Sh} (hs : SortA 0 s.alts) (i : Nat) (w : Int) : SpansTo 730 (s.whenL i w) ∧ ∀ d, inside (s.whenL i w) d ↔ 0 ≤ d ∧ d ≤ 730 ∧ s.can i d w = true := by
  rw [Sh.whenL_days hs]; exact put_fold (p := fun d => s.can i d w) _ 0 730 rfl (by decide)
def nextS (l : List (Int × Int)) (e day : Int) : Int :=
  match l.find? fun x => decide (day ≤ x.2) with
  | some x => if e < max x.1 day then 731 else max x.1 day
  | none => 731
def befS (l : List (Int × Int)) (b day : Int) : Int :=
  match l.reverse.find? fun x => decide (x.1 ≤ day) with
  | some x => if min x.2 day < b then -1 else min x.2 day
  | none => -1
def NextIs (p : Int → Prop) (e day r : Int) : Prop := (r ≠ 731 ∧ day ≤ r ∧ r ≤ e ∧ p r ∧ ∀ x, day ≤ x → x < r → ¬ p x) ∨ (r = 731 ∧ ∀ x, day ≤ x → x ≤ e → ¬ p x)
def BefIs (p : Int → Prop) (b day r : Int) : Prop := (r ≠ -1 ∧ b ≤ r ∧ r ≤ day ∧ p r ∧ ∀ x, r < x → x ≤ day → ¬ p x) ∨ (r = -1 ∧ ∀ x, b ≤ x → x ≤ day → ¬ p x)
theorem next_is : ∀ {l : List (Int × Int)} {hi e day : Int}, SpansTo hi l → e ≤ 730 → NextIs (inside l) e day (nextS l e day)
  | [], hi, e, day, _, _ => .inr ⟨rfl, fun x _ _ ⟨y, hy, _⟩ => by cases hy⟩
  | s :: l, hi, e, day, h, he => by
    have hl : SpansTo hi l := ⟨fun x hx => h.1 x (List.mem_cons_of_mem _ hx), (List.pairwise_cons.1 h.2).2⟩; have ih := next_is (day := day) hl he; have hs := h.1 s List.mem_cons_self; have hb := (List.pairwise_cons.1 h.2).1; unfold nextS at ih ⊢
    by_cases hd : day ≤ s.2
    · rw [List.find?_cons_of_pos (by simpa using hd)]
      dsimp only
      have hlo : ∀ x, day ≤ x → x < max s.1 day → ¬ inside (s :: l) x := by
        rintro x h1 h2 ⟨y, hy, h3, h4⟩
        rcases List.mem_cons.1 hy with rfl | hy
        · omega
        · have := hb y hy; omega
      split
      · exact .inr ⟨rfl, fun x h1 h2 => hlo x h1 (by omega)⟩
      · exact .inl ⟨by omega, by omega, by omega, ⟨s, List.mem_cons_self, by omega, by omega⟩, hlo⟩
    · rw [List.find?_cons_of_neg (by simpa using hd)]
      have key : ∀ x, day ≤ x → (inside (s :: l) x ↔ inside l x) := fun x hx => ⟨fun ⟨y, hy, h3⟩ => by
        rcases List.mem_cons.1 hy with rfl | hy
        · omega
        · exact ⟨y, hy, h3⟩, fun ⟨y, hy, h3⟩ => ⟨y, List.mem_cons_of_mem _ hy, h3⟩⟩
      rcases ih with ⟨h1, h2, h3, h4, h5⟩ | ⟨h1, h2⟩
      · exact .inl ⟨h1, h2, h3, (key _ h2).2 h4, fun x a b hx => h5 x a b ((key x a).1 hx)⟩
      · exact .inr ⟨h1, fun x a b hx => h2 x a b ((key x a).1 hx)⟩
theorem bef_is {l : List (Int × Int)} {hi b day : Int} (h : SpansTo hi l) (h0 : 0 ≤ b) : BefIs (inside l) b day (befS l b day) := by
  unfold befS; have hi' : ∀ x, inside l x ↔ ∃ y ∈ l.reverse, y.1 ≤ x ∧ x ≤ y.2 := fun x => by simp [inside]
  have hp : l.reverse.Pairwise fun x y => y.2 + 1 < x.1 := List.pairwise_reverse.2 h.2; have hq : ∀ x ∈ l.reverse, x.1 ≤ x.2 := fun x hx => (h.1 x (List.mem_reverse.1 hx)).1; unfold BefIs; simp only [hi']
  generalize l.reverse = q at hp hq
  clear hi' h
  induction q with
  | nil => exact .inr ⟨rfl, fun x _ _ ⟨y, hy, _⟩ => by cases hy⟩
  | cons s l ih =>
    have hs := hq s List.mem_cons_self; have hb := (List.pairwise_cons.1 hp).1
    by_cases hd : s.1 ≤ day
    · rw [List.find?_cons_of_pos (by simpa using hd)]
      dsimp only
      have hlo : ∀ x, min s.2 day < x → x ≤ day → ¬ ∃ y ∈ s :: l, y.1 ≤ x ∧ x ≤ y.2 := by
        rintro x h1 h2 ⟨y, hy, h3, h4⟩
        rcases List.mem_cons.1 hy with rfl | hy
        · omega
        · have := hb y hy; omega
      split
      · exact .inr ⟨rfl, fun x h1 h2 => hlo x (by omega) h2⟩
      · exact .inl ⟨by omega, by omega, by omega, ⟨s, List.mem_cons_self, by omega, by omega⟩, hlo⟩
    · rw [List.find?_cons_of_neg (by simpa using hd)]; have ih := ih (List.pairwise_cons.1 hp).2 fun x hx => hq x (List.mem_cons_of_mem _ hx)
      have key : ∀ x, x ≤ day → ((∃ y ∈ s :: l, y.1 ≤ x ∧ x ≤ y.2) ↔ ∃ y ∈ l, y.1 ≤ x ∧ x ≤ y.2) := fun x hx => ⟨fun ⟨y, hy, h3⟩ => by
        rcases List.mem_cons.1 hy with rfl | hy
        · omega
        · exact ⟨y, hy, h3⟩, fun ⟨y, hy, h3⟩ => ⟨y, List.mem_cons_of_mem _ hy, h3⟩⟩
      rcases ih with ⟨h1, h2, h3, h4, h5⟩ | ⟨h1, h2⟩
      · exact .inl ⟨h1, h2, h3, (key _ h3).2 h4, fun x a b hx => h5 x a b ((key x b).1 hx)⟩
      · exact .inr ⟨h1, fun x a b hx => h2 x a b ((key x b).1 hx)⟩
def gI (l : List Int) (i : Nat) : Int := l[i]?.getD 0
def fromD (b : Int) (p : Nat) (l : List Int) (i : Nat) : Int :=
  if p ≤ i then max (if 0 < i then max b (gI l (i - 1)) else b) (gI l (i - p) + 1) else (if 0 < i then max b (gI l (i - 1)) else b)
def firstGo (nx : Nat → Int → Int) (b : Int) (p : Nat) : Nat → List Int
  | 0 => []
  | k + 1 => if (firstGo nx b p k).getLast? = some 731 then firstGo nx b p k else firstGo nx b p k ++ [nx k (fromD b p (firstGo nx b p k) k)]
def toD (e : Int) (p : Nat) (l : List Int) : Int :=
  if p ≤ l.length then min (if 0 < l.length then min e (gI l 0) else e) (gI l (p - 1) - 1) else (if 0 < l.length then min e (gI l 0) else e)
def lastGo (bf : Nat → Int → Int) (e : Int) (p n : Nat) : Nat → List Int
  | 0 => []
  | k + 1 => bf (n - 1 - k) (toD e p (lastGo bf e p n k)) :: lastGo bf e p n k
def FitP (can : Nat → Int → Prop) (b e : Int) (p m : Nat) (ds : Nat → Int) : Prop :=
  ∀ i, i < m → b ≤ ds i ∧ ds i ≤ e ∧ can i (ds i) ∧ (0 < i → ds (i - 1) ≤ ds i) ∧ (p ≤ i → ds (i - p) < ds i)
theorem FitP.less {can : Nat → Int → Prop} {b e : Int} {p m k : Nat} {ds : Nat → Int} (h : FitP can b e p m ds) (hk : k ≤ m) : FitP can b e p k ds := fun i hi => h i (by omega)
theorem FitP.congr {can : Nat → Int → Prop} {b e : Int} {p m : Nat} {ds es : Nat → Int} (h : FitP can b e p m ds) (he : ∀ i, i < m → es i = ds i) : FitP can b e p m es := fun i hi => by
  obtain ⟨h1, h2, h3, h4, h5⟩ := h i hi; refine ⟨by rw [he i hi]; exact h1, by rw [he i hi]; exact h2, by rw [he i hi]; exact h3, fun h0 => ?_, fun hp => ?_⟩
  · rw [he i hi, he (i - 1) (by omega)]; exact h4 h0
  · by_cases h0 : p = 0
    · subst h0; have := h5 hp; rw [Nat.sub_zero] at this; omega
    · rw [he i hi, he (i - p) (by omega)]; exact h5 hp
theorem fromD_le {can : Nat → Int → Prop} {b e : Int} {p m : Nat} {ds : Nat → Int} {l : List Int} (hp : 1 ≤ p) (h : FitP can b e p m ds) {i : Nat} (hi : i < m) (hl : ∀ j, j < i → gI l j ≤ ds j) : fromD b p l i ≤ ds i := by
  obtain ⟨h1, h2, h3, h4, h5⟩ := h i hi; unfold fromD
  split
  · have a := h5 ‹_›; have b := hl (i - p) (by omega)
    split
    · have c := h4 ‹_›; have d := hl (i - 1) (by omega); omega
    · omega
  · split
    · have c := h4 ‹_›; have d := hl (i - 1) (by omega); omega
    · omega
theorem fromD_ge {b : Int} {p i : Nat} {l : List Int} : b ≤ fromD b p l i ∧ (0 < i → gI l (i - 1) ≤ fromD b p l i) ∧ (p ≤ i → gI l (i - p) < fromD b p l i) := by
  unfold fromD; refine ⟨?_, fun h => ?_, fun h => ?_⟩
  · split <;> split <;> omega
  · rw [if_pos h]; split <;> omega
  · rw [if_pos h]; omega
theorem gI_append {l : List Int} {x : Int} {i : Nat} (h : i < l.length) : gI (l ++ [x]) i = gI l i := by unfold gI; rw [List.getElem?_append_left h]
theorem gI_last {l : List Int} {x : Int} : gI (l ++ [x]) l.length = x := by unfold gI; simp
section
variable {can : Nat → Int → Prop} {nx bf : Nat → Int → Int} {b e : Int} {p : Nat}
theorem first_is (hp : 1 ≤ p) (he : e ≤ 730) : ∀ (n : Nat), (∀ i day, i < n → NextIs (can i) e day (nx i day)) →
    ((firstGo nx b p n).length = n ∧ (∀ x ∈ firstGo nx b p n, x ≠ 731) ∧ FitP can b e p n (gI (firstGo nx b p n)) ∧ ∀ ds, FitP can b e p n ds → ∀ i, i < n → gI (firstGo nx b p n) i ≤ ds i) ∨
    (∃ j, j < n ∧ firstGo nx b p n = firstGo nx b p j ++ [731] ∧ (firstGo nx b p j).length = j ∧ (∀ x ∈ firstGo nx b p j, x ≠ 731) ∧ ∀ ds, ¬ FitP can b e p (j + 1) ds)
  | 0, _ => .inl ⟨rfl, by simp [firstGo], fun i hi => absurd hi (by omega), fun _ _ i hi => absurd hi (by omega)⟩
  | n + 1, hn => by
    have hnx := hn n
    rcases first_is hp he n (fun i day hi => hn i day (by omega)) with ⟨h1, h2, h3, h4⟩ | ⟨j, h1, h2, h3, h4, h5⟩
    · have hne : (firstGo nx b p n).getLast? ≠ some 731 := fun h => h2 731 (List.mem_of_getLast? h) rfl; have hstep : firstGo nx b p (n + 1) = firstGo nx b p n ++ [nx n (fromD b p (firstGo nx b p n) n)] := by rw [firstGo, if_neg hne]
      have hg := fromD_ge (b := b) (p := p) (i := n) (l := firstGo nx b p n)
      rcases hnx (fromD b p (firstGo nx b p n) n) (by omega) with ⟨k1, k2, k3, k4, k5⟩ | ⟨k1, k2⟩
      · refine .inl ⟨by rw [hstep, List.length_append, h1]; rfl, fun x hx => ?_, fun i hi => ?_, fun ds hds i hi => ?_⟩
        · rw [hstep] at hx
          rcases List.mem_append.1 hx with hx | hx
          · exact h2 x hx
          · rw [List.mem_singleton.1 hx]; exact k1
        · rw [hstep]
          by_cases h : i < n
          · obtain ⟨q1, q2, q3, q4, q5⟩ := h3 i h; rw [gI_append (by omega)]; refine ⟨q1, q2, q3, fun h0 => ?_, fun hpi => ?_⟩
            · rw [gI_append (by omega)]; exact q4 h0
            · rw [gI_append (by omega)]; exact q5 hpi
          · obtain rfl : i = n := by omega
            have hl : gI (firstGo nx b p i ++ [nx i (fromD b p (firstGo nx b p i) i)]) i = nx i (fromD b p (firstGo nx b p i) i) := by
              have := gI_last (l := firstGo nx b p i) (x := nx i (fromD b p (firstGo nx b p i) i)); rwa [h1] at this
            rw [hl]; refine ⟨by omega, k3, k4, fun h0 => ?_, fun hpi => ?_⟩
            · rw [gI_append (by omega)]; have := hg.2.1 h0; omega
            · rw [gI_append (by omega)]; have := hg.2.2 hpi; omega
        · rw [hstep]
          by_cases h : i < n
          · rw [gI_append (by omega)]; exact h4 ds (hds.less (by omega)) i h
          · obtain rfl : i = n := by omega
            have hl : gI (firstGo nx b p i ++ [nx i (fromD b p (firstGo nx b p i) i)]) i = nx i (fromD b p (firstGo nx b p i) i) := by
              have := gI_last (l := firstGo nx b p i) (x := nx i (fromD b p (firstGo nx b p i) i)); rwa [h1] at this
            rw [hl]; have hle := fromD_le (l := firstGo nx b p i) hp hds hi fun j hj => h4 ds (hds.less (by omega)) j hj
            rcases Int.lt_or_le (ds i) (nx i (fromD b p (firstGo nx b p i) i)) with h | h
            · exact absurd (hds i hi).2.2.1 (k5 _ hle h)
            · exact h
      · refine .inr ⟨n, by omega, by rw [hstep, k1], h1, h2, fun ds hds => ?_⟩; have hle := fromD_le (l := firstGo nx b p n) hp hds (Nat.lt_succ_self n) fun j hj => h4 ds (hds.less (by omega)) j hj; obtain ⟨q1, q2, q3, -⟩ := hds n (by omega); exact k2 _ hle q2 q3
    · refine .inr ⟨j, by omega, ?_, h3, h4, h5⟩; rw [firstGo, if_pos (by rw [h2]; simp), h2]
theorem first_ok (hp : 1 ≤ p) (he : e ≤ 730) {n : Nat} (hnx : ∀ i day, i < n → NextIs (can i) e day (nx i day)) {ds : Nat → Int} (h : FitP can b e p n ds) :
    (firstGo nx b p n).length = n ∧ (∀ x ∈ firstGo nx b p n, x ≠ 731) ∧ FitP can b e p n (gI (firstGo nx b p n)) ∧ ∀ ds, FitP can b e p n ds → ∀ i, i < n → gI (firstGo nx b p n) i ≤ ds i := by
  rcases first_is hp he n hnx with h1 | ⟨j, h1, h2, h3, h4, h5⟩
  · exact h1
  · exact absurd (h.less (by omega)) (h5 ds)
theorem toD_ge {m n : Nat} {ds : Nat → Int} {l : List Int} (hp : 1 ≤ p) (h : FitP can b e p n ds) {i : Nat} (hi : i < n) (hm : l.length = n - 1 - i) (hl : ∀ j, j < l.length → ds (i + 1 + j) ≤ gI l j) : ds i ≤ toD e p l := by
  obtain ⟨h1, h2, h3, h4, h5⟩ := h i hi; unfold toD
  have a : p ≤ l.length → ds i < gI l (p - 1) := fun hpl => by
    have := (h (i + p) (by omega)).2.2.2.2 (by omega); rw [show i + p - p = i by omega] at this; have := hl (p - 1) (by omega); rw [show i + 1 + (p - 1) = i + p by omega] at this; omega
  have c : 0 < l.length → ds i ≤ gI l 0 := fun h0 => by
    have := (h (i + 1) (by omega)).2.2.2.1 (by omega); rw [show i + 1 - 1 = i by omega] at this; have := hl 0 h0; rw [Nat.add_zero] at this; omega
  split
  · have := a ‹_›
    split
    · have := c ‹_›; omega
    · omega
  · split
    · have := c ‹_›; omega
    · omega
theorem toD_le {l : List Int} : toD e p l ≤ e ∧ (0 < l.length → toD e p l ≤ gI l 0) ∧ (p ≤ l.length → toD e p l < gI l (p - 1)) := by
  unfold toD; refine ⟨?_, fun h => ?_, fun h => ?_⟩
  · split <;> split <;> omega
  · rw [if_pos h]; split <;> omega
  · rw [if_pos h]; omega
theorem gI_cons {l : List Int} {x : Int} {i : Nat} : gI (x :: l) (i + 1) = gI l i := by unfold gI; rw [List.getElem?_cons_succ]
theorem last_is (hp : 1 ≤ p) (hb : 0 ≤ b) {n : Nat} (hbf : ∀ i day, i < n → BefIs (can i) b day (bf i day)) {ds0 : Nat → Int} (h0 : FitP can b e p n ds0) : ∀ k, k ≤ n →
    (lastGo bf e p n k).length = k ∧
    (∀ i, n - k ≤ i → i < n → b ≤ gI (lastGo bf e p n k) (i - (n - k)) ∧ gI (lastGo bf e p n k) (i - (n - k)) ≤ e ∧ can i (gI (lastGo bf e p n k) (i - (n - k))) ∧
      (n - k < i → gI (lastGo bf e p n k) (i - 1 - (n - k)) ≤ gI (lastGo bf e p n k) (i - (n - k))) ∧ (n - k + p ≤ i → gI (lastGo bf e p n k) (i - p - (n - k)) < gI (lastGo bf e p n k) (i - (n - k)))) ∧
    ∀ ds, FitP can b e p n ds → ∀ i, n - k ≤ i → i < n → ds i ≤ gI (lastGo bf e p n k) (i - (n - k))
  | 0, _ => ⟨rfl, fun i h1 h2 => absurd h1 (by omega), fun _ _ i h1 h2 => absurd h1 (by omega)⟩
  | k + 1, hk => by
    obtain ⟨h1, h2, h3⟩ := last_is hp hb hbf h0 k (by omega); have ht := toD_le (e := e) (p := p) (l := lastGo bf e p n k)
    have hge : ∀ ds, FitP can b e p n ds → ds (n - 1 - k) ≤ toD e p (lastGo bf e p n k) := fun ds hds => by
      refine toD_ge (m := 0) hp hds (i := n - 1 - k) (by omega) (by omega) fun j hj => ?_; have := h3 ds hds (n - k + j) (by omega) (by omega); rw [show n - k + j - (n - k) = j by omega] at this; rw [show n - 1 - k + 1 + j = n - k + j by omega]; exact this
    have hx : ∃ x, lastGo bf e p n (k + 1) = x :: lastGo bf e p n k ∧ b ≤ x ∧ x ≤ toD e p (lastGo bf e p n k) ∧ can (n - 1 - k) x ∧ ∀ ds, FitP can b e p n ds → ds (n - 1 - k) ≤ x := by
      refine ⟨_, rfl, ?_⟩
      rcases hbf (n - 1 - k) (toD e p (lastGo bf e p n k)) (by omega) with ⟨k1, k2, k3, k4, k5⟩ | ⟨k1, k2⟩
      · refine ⟨k2, k3, k4, fun ds hds => ?_⟩
        rcases Int.lt_or_le (bf (n - 1 - k) (toD e p (lastGo bf e p n k))) (ds (n - 1 - k)) with h | h
        · exact absurd (hds _ (by omega)).2.2.1 (k5 _ h (hge ds hds))
        · exact h
      · obtain ⟨q1, q2, q3, -⟩ := h0 (n - 1 - k) (by omega); exact absurd q3 (k2 _ q1 (hge ds0 h0))
    obtain ⟨x, hs, hx1, hx2, hx3, hx4⟩ := hx; rw [hs]; have hsh : ∀ i, n - k ≤ i → i < n → i - (n - (k + 1)) = i - (n - k) + 1 := fun i a b => by omega
    refine ⟨by rw [List.length_cons, h1], fun i a c => ?_, fun ds hds i a c => ?_⟩
    · by_cases hi : n - k ≤ i
      · rw [hsh i hi c, gI_cons]; obtain ⟨q1, q2, q3, q4, q5⟩ := h2 i hi c; refine ⟨q1, q2, q3, fun _ => ?_, fun _ => ?_⟩
        · by_cases hj : n - k < i
          · rw [show i - 1 - (n - (k + 1)) = i - 1 - (n - k) + 1 by omega, gI_cons]; exact q4 hj
          · obtain rfl : i = n - k := by omega
            rw [show n - k - 1 - (n - (k + 1)) = 0 by omega, show n - k - (n - k) = 0 by omega]; have := ht.2.1 (by omega); have e0 : gI (x :: lastGo bf e p n k) 0 = x := rfl; rw [e0]; omega
        · by_cases hj : n - k + p ≤ i
          · rw [show i - p - (n - (k + 1)) = i - p - (n - k) + 1 by omega, gI_cons]; exact q5 hj
          · have hip : i = n - (k + 1) + p := by omega
            rw [show i - p - (n - (k + 1)) = 0 by omega]; have := ht.2.2 (by omega); have e0 : gI (x :: lastGo bf e p n k) 0 = x := rfl; rw [e0, show i - (n - k) = p - 1 by omega]; omega
      · obtain rfl : i = n - 1 - k := by omega
        rw [show n - 1 - k - (n - (k + 1)) = 0 by omega]; have e0 : gI (x :: lastGo bf e p n k) 0 = x := rfl; rw [e0]; exact ⟨hx1, by have := ht.1; omega, hx3, fun h => absurd h (by omega), fun h => absurd h (by omega)⟩
    · by_cases hi : n - k ≤ i
      · rw [hsh i hi c, gI_cons]; exact h3 ds hds i hi c
      · obtain rfl : i = n - 1 - k := by omega
        rw [show n - 1 - k - (n - (k + 1)) = 0 by omega]; exact hx4 ds hds
theorem last_ok (hp : 1 ≤ p) (hb : 0 ≤ b) {n : Nat} (hbf : ∀ i day, i < n → BefIs (can i) b day (bf i day)) {ds0 : Nat → Int} (h0 : FitP can b e p n ds0) :
    (lastGo bf e p n n).length = n ∧ FitP can b e p n (gI (lastGo bf e p n n)) ∧ ∀ ds, FitP can b e p n ds → ∀ i, i < n → ds i ≤ gI (lastGo bf e p n n) i := by
  obtain ⟨h1, h2, h3⟩ := last_is hp hb hbf h0 n (Nat.le_refl n); simp only [Nat.sub_self, Nat.zero_le, Nat.sub_zero, true_implies, Nat.zero_add] at h2 h3; exact ⟨h1, fun i hi => h2 i hi, h3⟩
end
end Go.Proofs.Ytnjajbkkgfohaaa
namespace Go.Proofs.Ytnjajbkkgfohaaa
open Go.RowKit Go.Wk Go.Proofs
theorem mixed : Try.prog.follows .mixedOrders = true := by kernel_rfl
def IntsV (w : World) (B : Nat) (v : Value) (xs : List Int) : Prop :=
  ∃ (A : Option Addr) (c : Nat), v = .slice A xs.length c ∧ (xs ≠ [] → ∃ b o, A = some ⟨b, o, none⟩ ∧ b < B ∧ ∀ k (h : k < xs.length), w.cell? ⟨b, o + k, none⟩ = some (.int .i64 xs[k])) ∧ xs.length ≤ c
theorem IntsV.below {w w' : World} {B : Nat} {v : Value} {xs : List Int} (h : IntsV w B v xs) (hb : Below B w w') : IntsV w' B v xs := by
  obtain ⟨A, c, hv, hx, hcap⟩ := h
  exact ⟨A, c, hv, fun hne => by
    obtain ⟨b, o, hA, hlt, hc⟩ := hx hne
    exact ⟨b, o, hA, hlt, fun k hk => (hb.cell (p := ⟨b, o + k, none⟩) hlt).trans (hc k hk)⟩, hcap⟩
theorem IntsV.more {w : World} {B B' : Nat} {v : Value} {xs : List Int} (h : IntsV w B v xs) (hB : B ≤ B') : IntsV w B' v xs := by
  obtain ⟨A, c, hv, hx, hcap⟩ := h
  exact ⟨A, c, hv, fun hne => by
    obtain ⟨b, o, hA, hlt, hc⟩ := hx hne
    exact ⟨b, o, hA, by omega, hc⟩, hcap⟩
theorem IntsV.ext {w w' : World} {v : Value} {xs : List Int} (h : IntsV w w.heap.size v xs) (hE : Ext w w') : IntsV w' w'.heap.size v xs := (h.below hE).more hE.size
structure ElemT (P : Program) (t e : TypeId) (size : Nat) : Prop where
  ex : ∃ (i : TypeInfo) (z : Value), P.underlying t = some (.slice e) ∧ P.info? e = some i ∧ i.zero = some z ∧ i.size = size ∧ z.cells.size = size ∧ 0 < size ∧ i.bytes ≤ 1000
theorem app_run {P : Program} {t e : TypeId} {size : Nat} (T : ElemT P t e size) {w : World} {base : Nat} {v : Value} {n : Nat} {xs : List Value} (hown : w.ownsRow base e size v n xs)
    (a : Addr) (m c : Nat) (news : List Value) (ty : TypeId) (hl : news.length = m * size) (hnews : ∀ j u, news[j]? = some u → w.cell? (a.add j) = some u) (h1 : ∀ u ∈ news, u.oneCell' = true)
    (hn : n + m ≤ 10000000000) (hbase : base ≤ w.heap.size) :
    ∃ v' w', (Builtin.append_ #[t, t] ty #[v, .slice (some a) m c]).run P w = .ok v' w' ∧ w'.ownsRow base e size v' (n + m) (xs ++ news) ∧ w.grownBy w' v.ownBlock ∧
      (v' = .slice none 0 0 ↔ v = .slice none 0 0 ∧ m = 0) := by
  obtain ⟨i, z, h1', h2, h3, h4, h5, h6, h7⟩ := T.ex; exact run_append_own w base t ty e i z size i.bytes h1' h2 h3 h4 rfl h5 h6 v n xs hown a m c news hl hnews h1 (by unfold maxLen; omega) (Nat.le_trans (Nat.mul_le_mul hn h7) (by decide)) hbase
theorem Below.grown {n : Nat} {w0 w w' : World} {v : Value} {base e size k : Nat} {xs : List Value} (h : Below n w0 w) (ho : w.ownsRow base e size v k xs) (hg : w.grownBy w' v.ownBlock) (hb : n ≤ base) (hn : n ≤ w0.heap.size) : Below n w0 w' := by
  refine ⟨hg.os.trans h.os, hg.tape.trans h.tape, hg.output.trans h.output, Nat.le_trans h.size hg.size, fun i hi => ?_⟩; refine (hg.block i (Nat.lt_of_lt_of_le hi (Nat.le_trans hn h.size)) ?_).trans (h.block i hi); intro e; have := (ho.lt i e.symm).1; omega
def OwnI (w : World) (base : Nat) (v : Value) (xs : List Int) : Prop := w.ownsRow base 3 1 v xs.length (xs.map (Value.int .i64))
theorem OwnI.intsV {w : World} {base : Nat} {v : Value} {xs : List Int} (h : OwnI w base v xs) : IntsV w w.heap.size v xs := by
  rcases h.2 with ⟨rfl, hn⟩ | ⟨g, cap, cur, rfl, hb, hg, hnc, hcm, hcs, htake⟩
  · have : xs = [] := List.eq_nil_of_length_eq_zero hn; subst this; exact ⟨none, 0, rfl, fun h => absurd rfl h, Nat.le_refl _⟩
  · refine ⟨_, cap, rfl, fun _ => ⟨g, 0, rfl, (Array.getElem?_eq_some_iff.1 hg).1, fun k hk => ?_⟩, hnc⟩; have := World.ownsRow.cells h (g := g) rfl k (.int .i64 xs[k]) (by simp [hk]); rw [Addr.add_lit] at this; exact this
def elemB (P : Program) (t e : TypeId) (size : Nat) : Bool :=
  match P.underlying t, P.info? e with
  | some (.slice e'), some i => e' == e && i.size == size && decide (0 < size) && decide (i.bytes ≤ 1000) && (match i.zero with | some z => z.cells.size == size | none => false)
  | _, _ => false
theorem elemT_of {P : Program} {t e : TypeId} {size : Nat} (h : elemB P t e size = true) : ElemT P t e size := by
  unfold elemB at h
  split at h
  · rename_i e' i h1 h2
    simp only [Bool.and_eq_true, beq_iff_eq, decide_eq_true_eq] at h; obtain ⟨⟨⟨⟨rfl, h4⟩, h5⟩, h6⟩, h7⟩ := h
    split at h7
    · rename_i z hz
      exact ⟨i, z, h1, h2, hz, h4, by simpa using h7, h5, h6⟩
    · cases h7
  · cases h
theorem ints_T : ElemT Try.prog 22 3 1 := elemT_of (by kernel_rfl)
theorem own0 (w : World) (e : TypeId) (size : Nat) : (w.alloc (.cells #[] e)).ownsRow w.heap.size e size (.slice (some ⟨w.heap.size, 0, none⟩) 0 0) 0 [] :=
  World.ownsRow_made w #[] 0 (Nat.le_refl _) (Nat.zero_le _) (by simp)
theorem news_of {w : World} {b o : Nat} {xs : List Int} (h : ∀ k (h : k < xs.length), w.cell? ⟨b, o + k, none⟩ = some (.int .i64 xs[k])) :
    ∀ j u, (xs.map (Value.int .i64))[j]? = some u → w.cell? ((⟨b, o, none⟩ : Addr).add j) = some u := by
  intro j u hu; rw [List.getElem?_map] at hu; obtain ⟨x, hx, rfl⟩ := Option.map_eq_some_iff.1 hu; obtain ⟨hj, rfl⟩ := List.getElem?_eq_some_iff.1 hx; rw [Addr.add_lit]; exact h j hj
theorem one_ints {xs : List Int} : ∀ u ∈ xs.map (Value.int .i64), u.oneCell' = true := by
  intro u hu; obtain ⟨x, -, rfl⟩ := List.mem_map.1 hu
  rfl
section
variable {w w' : World} {base e size n : Nat} {v : Value} {xs : List Value}
theorem ownsRow_ext (h : w.ownsRow base e size v n xs) (hE : Ext w w') : w'.ownsRow base e size v n xs := by
  refine ⟨h.1, ?_⟩
  rcases h.2 with hn | ⟨g, cap, cur, rfl, hb, hg, rest⟩
  · exact .inl hn
  · exact .inr ⟨g, cap, cur, rfl, hb, (Below.block hE g (Array.getElem?_eq_some_iff.1 hg).1).trans hg, rest⟩
theorem ownsRow_less {b2 : Nat} (h : w.ownsRow base e size v n xs) (hb : b2 ≤ base) : w.ownsRow b2 e size v n xs := by
  refine ⟨h.1, ?_⟩
  rcases h.2 with hn | ⟨g, cap, cur, rfl, hb', hg, rest⟩
  · exact .inl hn
  · exact .inr ⟨g, cap, cur, rfl, Nat.le_trans hb hb', hg, rest⟩
theorem own_ne {b2 e2 s2 n2 : Nat} {v2 : Value} {xs2 : List Value} (h : w.ownsRow base e size v n xs) (h2 : w.ownsRow b2 e2 s2 v2 n2 xs2) (hne : e ≠ e2) : v.ownBlock = none ∨ v.ownBlock ≠ v2.ownBlock := by
  rcases h.2 with ⟨rfl, -⟩ | ⟨g, cap, cur, rfl, hb, hg, -⟩
  · exact .inl rfl
  · right
    rcases h2.2 with ⟨rfl, -⟩ | ⟨g2, cap2, cur2, rfl, hb2, hg2, -⟩
    · simp [Value.ownBlock]
    · intro he; simp only [Value.ownBlock, Option.some.injEq] at he; subst he; rw [hg] at hg2
      injection hg2 with hg2; injection hg2 with _ hg2
      exact hne hg2
theorem own_one (h : w.ownsRow base e size v n xs) : v.oneCell' = true := by
  rcases h.2 with ⟨rfl, -⟩ | ⟨g, cap, cur, rfl, -⟩ <;> rfl
end
theorem OwnI.ext {w w' : World} {base : Nat} {v : Value} {xs : List Int} (h : OwnI w base v xs) (hE : Ext w w') : OwnI w' base v xs := ownsRow_ext h hE
theorem OwnI.less {w : World} {base b2 : Nat} {v : Value} {xs : List Int} (h : OwnI w base v xs) (hb : b2 ≤ base) : OwnI w b2 v xs := ownsRow_less h hb
theorem OwnI.slice {w : World} {base : Nat} {v : Value} {xs : List Int} (h : OwnI w base v xs) : ∃ A c, v = .slice A xs.length c := by
  rcases h.2 with ⟨rfl, hn⟩ | ⟨g, cap, cur, rfl, -⟩
  · exact ⟨none, 0, by rw [hn]⟩
  · exact ⟨_, _, rfl⟩
def OwnTab (w : World) (base : Nat) (v : Value) (t : List (List Int)) : Prop :=
  ∃ vs, w.ownsRow base 22 1 v t.length vs ∧ ∀ i (h : i < t.length), ∃ u, vs[i]? = some u ∧ OwnI w base u t[i]
theorem OwnTab.ext {w w' : World} {base : Nat} {v : Value} {t : List (List Int)} (h : OwnTab w base v t) (hE : Ext w w') : OwnTab w' base v t := by
  obtain ⟨vs, h1, h2⟩ := h; exact ⟨vs, ownsRow_ext h1 hE, fun i hi => by obtain ⟨u, h3, h4⟩ := h2 i hi; exact ⟨u, h3, h4.ext hE⟩⟩
theorem OwnTab.less {w : World} {base b2 : Nat} {v : Value} {t : List (List Int)} (h : OwnTab w base v t) (hb : b2 ≤ base) : OwnTab w b2 v t := by
  obtain ⟨vs, h1, h2⟩ := h; exact ⟨vs, ownsRow_less h1 hb, fun i hi => by obtain ⟨u, h3, h4⟩ := h2 i hi; exact ⟨u, h3, h4.less hb⟩⟩
theorem news_one {w : World} {k : Nat} {u : Value} (h : w.cell? ⟨k, 0, none⟩ = some u) : ∀ j x, [u][j]? = some x → w.cell? ((⟨k, 0, none⟩ : Addr).add j) = some x := by
  intro j x hx
  cases j with
  | zero => simp at hx; subst hx; rw [Addr.add_lit]; exact h
  | succ j => simp at hx
theorem one_one {u : Value} (h : u.oneCell' = true) : ∀ x ∈ [u], x.oneCell' = true := by
  intro x hx; rw [List.mem_singleton] at hx; subst hx; exact h
def encL (xs : List (Int × Int)) : List Value := xs.flatMap fun s => [.int .i64 s.1, .int .i64 s.2]
theorem encL_add (xs : List (Int × Int)) (s : Int × Int) : encL (xs ++ [s]) = encL xs ++ [.int .i64 s.1, .int .i64 s.2] := by simp [encL]
theorem ownsRow_shut {w w' : World} {m base e size n : Nat} {v : Value} {xs : List Value} (h : w.ownsRow base e size v n xs) (hS : Shut m w w') : w'.ownsRow base e size v n xs := by
  refine ⟨h.1, ?_⟩
  rcases h.2 with hn | ⟨g, cap, cur, rfl, hb, hg, rest⟩
  · exact .inl hn
  · exact .inr ⟨g, cap, cur, rfl, hb, hS.heap hg, rest⟩
theorem ownsRow_adm {w w' : World} {m base e size n : Nat} {v : Value} {xs : List Value} (h : w.ownsRow base e size v n xs) (hS : Adm m w w') : w'.ownsRow base e size v n xs := by
  refine ⟨h.1, ?_⟩
  rcases h.2 with hn | ⟨g, cap, cur, rfl, hb, hg, rest⟩
  · exact .inl hn
  · exact .inr ⟨g, cap, cur, rfl, hb, hS.heap hg, rest⟩
theorem OwnI.shut {w w' : World} {m base : Nat} {v : Value} {xs : List Int} (h : OwnI w base v xs) (hS : Shut m w w') : OwnI w' base v xs := ownsRow_shut h hS
theorem Boxed.adm {w w' : World} {m b : Nat} {t : TypeId} {v : Value} (h : Boxed w b t v) (hA : Adm m w w') : Boxed w' b t v := hA.heap h
theorem Boxed.shut {w w' : World} {m b : Nat} {t : TypeId} {v : Value} (h : Boxed w b t v) (hA : Shut m w w') : Boxed w' b t v := hA.heap h
theorem Boxed.ext {w w' : World} {b : Nat} {t : TypeId} {v : Value} (h : Boxed w b t v) (hE : Ext w w') : Boxed w' b t v := (hE.block b h.lt).trans h
theorem news_two {w : World} {k : Nat} {u v : Value} (h : w.cell? ⟨k, 0, none⟩ = some u) (h2 : w.cell? ⟨k, 1, none⟩ = some v) : ∀ j x, [u, v][j]? = some x → w.cell? ((⟨k, 0, none⟩ : Addr).add j) = some x := by
  intro j x hx
  match j with
  | 0 => simp at hx; subst hx; rw [Addr.add_lit]; exact h
  | 1 => simp at hx; subst hx; rw [Addr.add_lit]; exact h2
  | j + 2 => simp at hx
def encA (a : Alt) : List Value := [.int .i64 a.id, .int .i64 a.kind, .int .i64 a.day, .int .i64 a.frm, .int .i64 a.tu, .int .i64 a.word]
def encZ (s : Int × Int) : List Value := [.int .i64 s.1, .int .i64 s.2]
def RowsV {α : Type} (k : Nat) (enc : α → List Value) (w : World) (B : Nat) (v : Value) (xs : List α) : Prop :=
  ∃ (A : Option Addr) (c : Nat), v = .slice A xs.length c ∧ (xs ≠ [] → ∃ b o, A = some ⟨b, o, none⟩ ∧ b < B ∧ ∀ i (h : i < xs.length) r u, (enc xs[i])[r]? = some u → w.cell? ⟨b, o + i * k + r, none⟩ = some u) ∧ xs.length ≤ c
section
variable {α : Type} {k : Nat} {enc : α → List Value} {w w' : World} {B B' : Nat} {v : Value} {xs : List α}
theorem RowsV.below (h : RowsV k enc w B v xs) (hb : Below B w w') : RowsV k enc w' B v xs := by
  obtain ⟨A, c, hv, hx, hcap⟩ := h
  exact ⟨A, c, hv, fun hne => by
    obtain ⟨b, o, hA, hlt, hc⟩ := hx hne
    exact ⟨b, o, hA, hlt, fun i hi r u hu => (hb.cell (p := ⟨b, o + i * k + r, none⟩) hlt).trans (hc i hi r u hu)⟩, hcap⟩
theorem RowsV.more (h : RowsV k enc w B v xs) (hB : B ≤ B') : RowsV k enc w B' v xs := by
  obtain ⟨A, c, hv, hx, hcap⟩ := h
  exact ⟨A, c, hv, fun hne => by
    obtain ⟨b, o, hA, hlt, hc⟩ := hx hne
    exact ⟨b, o, hA, by omega, hc⟩, hcap⟩
theorem RowsV.ext (h : RowsV k enc w w.heap.size v xs) (hE : Ext w w') : RowsV k enc w' w'.heap.size v xs := (h.below hE).more hE.size
end
abbrev AltsV := RowsV 6 encA
abbrev SpansV := RowsV 2 encZ
structure Cp where
  words : List Int
  b : Int
  e : Int
  p : Int
def SheetV (w : World) (B : Nat) (v : Value) (s : Sh) : Prop := ∃ wv av, v = .agg #[wv, av] ∧ IntsV w B wv s.words ∧ AltsV w B av s.alts
def CopyV (w : World) (B : Nat) (v : Value) (c : Cp) : Prop := ∃ wv, v = .agg #[wv, .int .i64 c.b, .int .i64 c.e, .int .i64 c.p] ∧ IntsV w B wv c.words
theorem SheetV.ext {w w' : World} {v : Value} {s : Sh} (h : SheetV w w.heap.size v s) (hE : Ext w w') : SheetV w' w'.heap.size v s := by
  obtain ⟨wv, av, h1, h2, h3⟩ := h; exact ⟨wv, av, h1, h2.ext hE, h3.ext hE⟩
theorem CopyV.ext {w w' : World} {v : Value} {c : Cp} (h : CopyV w w.heap.size v c) (hE : Ext w w') : CopyV w' w'.heap.size v c := by
  obtain ⟨wv, h1, h2⟩ := h; exact ⟨wv, h1, h2.ext hE⟩
theorem AltsV.six {w : World} {B : Nat} {A : Option Addr} {n c : Nat} {al : List Alt} (h : AltsV w B (.slice A n c) al) {k : Nat} (hk : k < al.length) : ∃ b o, A = some ⟨b, o, none⟩ ∧ b < B ∧
    w.cell? ⟨b, o + k * 6, none⟩ = some (.int .i64 al[k].id) ∧ w.cell? ⟨b, o + k * 6 + 1, none⟩ = some (.int .i64 al[k].kind) ∧ w.cell? ⟨b, o + k * 6 + 2, none⟩ = some (.int .i64 al[k].day) ∧
    w.cell? ⟨b, o + k * 6 + 3, none⟩ = some (.int .i64 al[k].frm) ∧ w.cell? ⟨b, o + k * 6 + 4, none⟩ = some (.int .i64 al[k].tu) ∧ w.cell? ⟨b, o + k * 6 + 5, none⟩ = some (.int .i64 al[k].word) := by
  obtain ⟨A', c', hv, hx, -⟩ := h
  injection hv with h1 h2 h3; subst h1
  obtain ⟨b, o, hA, hb, hc⟩ := hx (by rintro rfl; exact absurd hk (Nat.not_lt_zero _)); exact ⟨b, o, hA, hb, hc k hk 0 _ rfl, hc k hk 1 _ rfl, hc k hk 2 _ rfl, hc k hk 3 _ rfl, hc k hk 4 _ rfl, hc k hk 5 _ rfl⟩
theorem SpansV.two {w : World} {B : Nat} {A : Option Addr} {n c : Nat} {l : List (Int × Int)} (h : SpansV w B (.slice A n c) l) {k : Nat} (hk : k < l.length) : ∃ b o, A = some ⟨b, o, none⟩ ∧ b < B ∧
    w.cell? ⟨b, o + k * 2, none⟩ = some (.int .i64 l[k].1) ∧ w.cell? ⟨b, o + k * 2 + 1, none⟩ = some (.int .i64 l[k].2) := by
  obtain ⟨A', c', hv, hx, -⟩ := h
  injection hv with h1 h2 h3; subst h1
  obtain ⟨b, o, hA, hb, hc⟩ := hx (by rintro rfl; exact absurd hk (Nat.not_lt_zero _)); exact ⟨b, o, hA, hb, hc k hk 0 _ rfl, hc k hk 1 _ rfl⟩
def FitS (s : Sh) : Prop := s.words.length ≤ 1000000000000000 ∧ s.alts.length ≤ 1000000000000000
def FitC (c : Cp) : Prop := c.words.length ≤ 1000000000000000
def RightA (n : Nat) (a : Alt) (last : Int) : Prop :=
  (1 ≤ a.id ∧ a.id ≤ 1099511627776) ∧ (last ≤ a.day ∧ a.day ≤ 730) ∧ (0 ≤ a.frm ∧ a.frm ≤ (n : Int) - 1) ∧ (a.frm ≤ a.tu ∧ a.tu ≤ (n : Int) - 1) ∧
    ((a.kind = 1 ∨ a.kind = 2) ∧ a.word = 0 ∨ (a.kind = 3 ∨ a.kind = 4) ∧ a.tu = a.frm ∧ 1 ≤ a.word ∧ a.word ≤ 9999)
instance (n : Nat) (a : Alt) (last : Int) : Decidable (RightA n a last) := by unfold RightA; infer_instance
def lastD (l : List Alt) : Int := (l.getLast?.map Alt.day).getD 0
def chkA (n : Nat) (done : List Alt) : List Alt → Int
  | [] => 0
  | a :: l => if ¬ RightA n a (lastD done) then 1 else if done.any (fun x => decide (x.id = a.id)) = true then 6 else chkA n (done ++ [a]) l
def badW (x : Int) : Bool := !decide (1 ≤ x ∧ x ≤ 9999)
def checkS (s : Sh) : Int :=
  if ¬ (1 ≤ s.n ∧ s.n ≤ 40) ∨ s.words.any badW = true then 1 else if 40 < s.alts.length then 2 else chkA s.n [] s.alts
def badC (x : Int) : Bool := !decide (0 ≤ x ∧ x ≤ 9999)
def ValidC (s : Sh) (c : Cp) : Prop := c.words.length = s.n ∧ c.words.any badC = false ∧ (0 ≤ c.b ∧ c.b ≤ c.e) ∧ c.e ≤ 730 ∧ 1 ≤ c.p ∧ c.p ≤ 40
instance (s : Sh) (c : Cp) : Decidable (ValidC s c) := by unfold ValidC; infer_instance
def copyS (s : Sh) (c : Cp) : Int := if checkS s = 0 then (if ValidC s c then 0 else 1) else checkS s
theorem copyS_zero {s : Sh} {c : Cp} : copyS s c = 0 ↔ checkS s = 0 ∧ ValidC s c := by
  unfold copyS
  by_cases h : checkS s = 0
  · by_cases hv : ValidC s c <;> simp [h, hv]
  · simp [h]
structure Good (s : Sh) : Prop where
  n1 : 1 ≤ s.n
  n2 : s.n ≤ 40
  ws : ∀ x ∈ s.words, 1 ≤ x ∧ x ≤ 9999
  m2 : s.alts.length ≤ 40
  rt : ∀ a ∈ s.alts, RightA s.n a 0
  sorted : SortA 0 s.alts
  ids : (s.alts.map Alt.id).Nodup
theorem lastD_snoc (l : List Alt) (a : Alt) : lastD (l ++ [a]) = a.day := by simp [lastD]
theorem RightA.mono {n : Nat} {a : Alt} {d e : Int} (h : RightA n a d) (he : e ≤ d) : RightA n a e := by
  obtain ⟨h1, h2, h3⟩ := h; exact ⟨h1, ⟨by omega, h2.2⟩, h3⟩
theorem chkA_zero {n : Nat} : ∀ {l done : List Alt}, 0 ≤ lastD done → (chkA n done l = 0 ↔ SortA (lastD done) l ∧ (∀ a ∈ l, RightA n a 0) ∧ (l.map Alt.id).Nodup ∧ ∀ a ∈ l, ∀ x ∈ done, x.id ≠ a.id)
  | [], done, _ => by simp [chkA, SortA]
  | a :: l, done, h0 => by
    unfold chkA
    by_cases h1 : RightA n a (lastD done)
    · rw [if_neg (by simpa using h1)]
      by_cases h2 : done.any (fun x => decide (x.id = a.id)) = true
      · rw [if_pos h2]; rw [List.any_eq_true] at h2; obtain ⟨x, hx, he⟩ := h2
        constructor
        · intro h; cases h
        · rintro ⟨-, -, -, h⟩; exact absurd (of_decide_eq_true he) (h a List.mem_cons_self x hx)
      · rw [if_neg h2]; have hd : 0 ≤ a.day := by have := h1.2.1.1; omega
        rw [chkA_zero (done := done ++ [a]) (by rw [lastD_snoc]; exact hd), lastD_snoc]; have h2' : ∀ x ∈ done, x.id ≠ a.id := fun x hx e => h2 (List.any_eq_true.2 ⟨x, hx, decide_eq_true e⟩); simp only [SortA, List.mem_cons, forall_eq_or_imp, List.map_cons, List.nodup_cons, List.mem_append, List.not_mem_nil, or_false, List.mem_map]
        constructor
        · rintro ⟨a1, a2, a3, a4⟩; refine ⟨⟨h1.2.1.1, h1.2.1.2, a1⟩, ⟨h1.mono h0, a2⟩, ⟨?_, a3⟩, h2', fun y hy x hx => a4 y hy x (.inl hx)⟩; rintro ⟨y, hy, he⟩; exact a4 y hy a (.inr rfl) he.symm
        · rintro ⟨⟨-, -, a1⟩, ⟨-, a2⟩, ⟨a5, a3⟩, -, a4⟩; refine ⟨a1, a2, a3, fun y hy x hx => ?_⟩
          rcases hx with hx | rfl
          · exact a4 y hy x hx
          · exact fun e => a5 ⟨y, hy, e.symm⟩
    · rw [if_pos (by simpa using h1)]
      constructor
      · intro h; cases h
      · rintro ⟨a1, a2, -, -⟩; obtain ⟨b1, b2, b3⟩ := a2 a List.mem_cons_self; exact absurd ⟨b1, ⟨a1.1, a1.2.1⟩, b3⟩ h1
theorem checkS_zero {s : Sh} : checkS s = 0 ↔ Good s := by
  unfold checkS
  have hw : s.words.any badW = true ↔ ¬ ∀ x ∈ s.words, 1 ≤ x ∧ x ≤ 9999 := by
    rw [List.any_eq_true]
    constructor
    · rintro ⟨x, hx, h⟩ hall; simp [badW] at h; have := hall x hx; omega
    · intro h; apply Classical.byContradiction; intro hn; apply h; intro x hx; apply Classical.byContradiction; intro hb; exact hn ⟨x, hx, by simp only [badW, Bool.not_eq_true', decide_eq_false_iff_not]; exact hb⟩
  by_cases h1 : ¬ (1 ≤ s.n ∧ s.n ≤ 40) ∨ s.words.any badW = true
  · rw [if_pos h1]
    constructor
    · intro h; cases h
    · intro h
      rcases h1 with h1 | h1
      · exact absurd ⟨h.n1, h.n2⟩ h1
      · exact absurd h.ws (hw.1 h1)
  · rw [if_neg h1]; have ha : 1 ≤ s.n ∧ s.n ≤ 40 := Classical.byContradiction fun h => h1 (.inl h); have hb : ∀ x ∈ s.words, 1 ≤ x ∧ x ≤ 9999 := Classical.byContradiction fun h => h1 (.inr (hw.2 h))
    by_cases h2 : 40 < s.alts.length
    · rw [if_pos h2]
      constructor
      · intro h; cases h
      · intro h; exact absurd h.m2 (by omega)
    · rw [if_neg h2, chkA_zero (by simp [lastD])]
      constructor
      · rintro ⟨a1, a2, a3, -⟩; exact ⟨ha.1, ha.2, hb, by omega, a2, by simpa [lastD] using a1, a3⟩
      · intro h; exact ⟨by simpa [lastD] using h.sorted, h.rt, h.ids, fun _ _ _ h => by cases h⟩
end Go.Proofs.Ytnjajbkkgfohaaa
namespace Go.Proofs.Ytnjajbkkgfohaaa
def addW (out : List Int) (w : Int) : List Int := if w ≠ 0 ∧ w ∉ out then out ++ [w] else out
def readsF (day : Int) (l : List (Int × Int × Face)) (out : List Int) : List Int := l.foldl (fun out x => if x.1 ≤ day ∧ day ≤ x.2.1 then addW (addW out x.2.2.1) x.2.2.2.1 else out) out
def readsL (f : Face) : List Int := (if f.1 ≠ 0 then [f.1] else []) ++ (if f.2.1 ≠ 0 ∧ f.2.1 ≠ f.1 then [f.2.1] else [])
theorem addW_two (f : Face) : addW (addW [] f.1) f.2.1 = readsL f := by
  unfold addW readsL
  by_cases h1 : f.1 = 0
  · by_cases h2 : f.2.1 = 0
    · simp [h1, h2]
    · simp [h1, h2]
  · by_cases h2 : f.2.1 = 0
    · simp [h1, h2]
    · by_cases h3 : f.2.1 = f.1
      · simp [h1, h3]
      · simp [h1, h2, h3]
theorem readsF_cons (day : Int) (x : Int × Int × Face) (l : List (Int × Int × Face)) (out : List Int) : readsF day (x :: l) out = readsF day l (if x.1 ≤ day ∧ day ≤ x.2.1 then addW (addW out x.2.2.1) x.2.2.2.1 else out) := rfl
theorem readsF_skip {i day : Int} : ∀ {l : List Alt} {f : Face} {e : Int} {out : List Int}, SortA e l → e ≤ 730 → day < e → readsF day (facesL i l f e) out = out := by
  intro l f e out hs he hd; have h := faces_le (i := i) (f := f) hs he
  generalize facesL i l f e = q at h
  induction q with
  | nil => rfl
  | cons x q ih =>
    rw [readsF_cons, if_neg (by have := h x List.mem_cons_self; omega)]; exact ih fun y hy => h y (List.mem_cons_of_mem _ hy)
theorem readsF_on {i day : Int} (h7 : day ≤ 730) : ∀ {l : List Alt} {f : Face} {e : Int} {out : List Int}, SortA e l → e ≤ day → readsF day (facesL i l f e) out = addW (addW out (onF i day l f).1) (onF i day l f).2.1
  | [], f, e, out, _, hd => by
    show readsF day [(e, 730, f)] out = _
    rw [readsF_cons, if_pos ⟨hd, h7⟩]; rfl
  | a :: l, f, e, out, hs, hd => by
    obtain ⟨h1, h2, h3⟩ := hs
    have hs' : SortA e l := by
      cases l with
      | nil => trivial
      | cons b l => exact ⟨by have := h3.1; omega, h3.2⟩
    by_cases ha : a.day ≤ day
    · have key : onF i day (a :: l) f = onF i day l (nxt i f a) := by unfold onF; rw [List.foldl_cons, if_pos ha]
      rw [key]; unfold facesL
      by_cases hn : nxt i f a = f
      · rw [if_pos hn, readsF_on h7 hs' hd, hn]
      · rw [if_neg hn]
        by_cases hd' : e < a.day
        · rw [if_pos hd', readsF_cons, if_neg (by dsimp only; omega), readsF_on h7 h3 ha]
        · rw [if_neg hd', readsF_on h7 h3 ha]
    · have key : onF i day (a :: l) f = f := by unfold onF; rw [List.foldl_cons, if_neg ha]; exact onF_before h3 (by omega)
      have key2 : onF i day l f = f := onF_before h3 (by omega); rw [key]; unfold facesL
      by_cases hn : nxt i f a = f
      · rw [if_pos hn, readsF_on h7 hs' hd, key2]
      · rw [if_neg hn, if_pos (by omega), readsF_cons, if_pos ⟨hd, by dsimp only; omega⟩, readsF_skip h3 h2 (by omega)]
theorem reads_on {s : Sh} (hs : SortA 0 s.alts) (i : Nat) {day : Int} (h0 : 0 ≤ day) (h7 : day ≤ 730) : readsF day (s.faces i) [] = readsL (s.on i day) := by
  unfold Sh.faces Sh.on; rw [readsF_on h7 hs h0, addW_two]
def Cp.W (c : Cp) (i : Nat) : Int := c.words[i]?.getD 0
structure Md where
  c : Cp
  tab : List (List (Int × Int))
def Md.n (m : Md) : Nat := m.c.words.length
def Md.T (m : Md) (i : Nat) : List (Int × Int) := m.tab[i]?.getD []
def Md.nx (m : Md) (i : Nat) (day : Int) : Int := nextS (m.T i) m.c.e day
def Md.bf (m : Md) (i : Nat) (day : Int) : Int := befS (m.T i) m.c.b day
def Md.first (m : Md) : List Int := firstGo m.nx m.c.b m.c.p.toNat m.n
def Md.last (m : Md) : List Int := lastGo m.bf m.c.e m.c.p.toNat m.n m.n
def Md.ok (m : Md) : Bool := !decide (m.first.getLast? = some 731)
def Md.can (m : Md) (i : Nat) (d : Int) : Prop := inside (m.T i) d
def Md.Fit (m : Md) (ds : Nat → Int) : Prop := FitP m.can m.c.b m.c.e m.c.p.toNat m.n ds
structure MdOk (m : Md) : Prop where
  n1 : 1 ≤ m.n
  n2 : m.n ≤ 40
  len : m.tab.length = m.n
  sp : ∀ i, SpansTo 730 (m.T i)
  lo : ∀ i, ∀ x ∈ m.T i, 0 ≤ x.1
  many : ∀ i, (m.T i).length ≤ 1000
  b0 : 0 ≤ m.c.b
  be : m.c.b ≤ m.c.e
  e7 : m.c.e ≤ 730
  p1 : 1 ≤ m.c.p
  p2 : m.c.p ≤ 40
theorem list_gI {l k : List Int} (h : l.length = k.length) (hg : ∀ i, i < l.length → gI l i = gI k i) : l = k := by
  apply List.ext_getElem h; intro i h1 h2; have := hg i h1; unfold gI at this; rw [List.getElem?_eq_getElem h1, List.getElem?_eq_getElem h2] at this; exact this
theorem gI_lt {l : List Int} {i : Nat} (h : i < l.length) : gI l i = l[i] := by unfold gI; rw [List.getElem?_eq_getElem h]; rfl
theorem gI_mem {l : List Int} {i : Nat} (h : i < l.length) : gI l i ∈ l := by rw [gI_lt h]; exact List.getElem_mem h
namespace MdOk
variable {m : Md}
theorem nxIs (h : MdOk m) (i : Nat) (day : Int) : NextIs (m.can i) m.c.e day (m.nx i day) := next_is (h.sp i) h.e7
theorem bfIs (h : MdOk m) (i : Nat) (day : Int) : BefIs (m.can i) m.c.b day (m.bf i day) := bef_is (h.sp i) h.b0
theorem pp (h : MdOk m) : 1 ≤ m.c.p.toNat := by have := h.p1; omega
theorem first_fit (h : MdOk m) {ds : Nat → Int} (hd : m.Fit ds) : m.first.length = m.n ∧ (∀ x ∈ m.first, x ≠ 731) ∧ m.Fit (gI m.first) ∧ ∀ ds, m.Fit ds → ∀ i, i < m.n → gI m.first i ≤ ds i :=
  first_ok h.pp h.e7 (fun i day _ => h.nxIs i day) hd
theorem ok_of (h : MdOk m) {ds : Nat → Int} (hd : m.Fit ds) : m.ok = true := by
  obtain ⟨h1, h2, -⟩ := h.first_fit hd; unfold Md.ok; rw [decide_eq_false]; rfl; exact fun e => h2 731 (List.mem_of_getLast? e) rfl
theorem of_ok (h : MdOk m) (hk : m.ok = true) : m.first.length = m.n ∧ (∀ x ∈ m.first, x ≠ 731) ∧ m.Fit (gI m.first) ∧ ∀ ds, m.Fit ds → ∀ i, i < m.n → gI m.first i ≤ ds i := by
  rcases first_is (b := m.c.b) h.pp h.e7 m.n (fun i day _ => h.nxIs i day) with h1 | ⟨j, h1, h2, h3, h4, h5⟩
  · exact h1
  · exfalso
    unfold Md.ok Md.first at hk; rw [h2] at hk; simp at hk
theorem last_fit (h : MdOk m) (hk : m.ok = true) : m.last.length = m.n ∧ m.Fit (gI m.last) ∧ ∀ ds, m.Fit ds → ∀ i, i < m.n → ds i ≤ gI m.last i :=
  last_ok h.pp h.b0 (fun i day _ => h.bfIs i day) (h.of_ok hk).2.2.1
end MdOk
def Sh.tab (s : Sh) (c : Cp) : List (List (Int × Int)) := (List.range c.words.length).map fun i => s.whenL i (c.W i)
def Sh.md (s : Sh) (c : Cp) : Md := ⟨c, s.tab c⟩
theorem Sh.md_T {s : Sh} {c : Cp} {i : Nat} (h : i < c.words.length) : (s.md c).T i = s.whenL i (c.W i) := by
  unfold Sh.md Md.T Sh.tab; simp [h]
theorem Sh.md_T_none {s : Sh} {c : Cp} {i : Nat} (h : c.words.length ≤ i) : (s.md c).T i = [] := by
  unfold Sh.md Md.T Sh.tab; rw [List.getElem?_eq_none (by simpa using h)]; rfl
theorem addS_len (out : List (Int × Int)) (lo hi : Int) : (addS out lo hi).length ≤ out.length + 1 := by
  rcases List.eq_nil_or_concat out with rfl | ⟨l, s, rfl⟩
  · simp [addS]
  · simp only [List.concat_eq_append, addS_snoc]; split <;> simp
theorem whenF_len (w : Int) : ∀ (l : List (Int × Int × Face)) (out : List (Int × Int)), (whenF w l out).length ≤ out.length + l.length
  | [], out => by simp [whenF]
  | x :: l, out => by
    have ih := whenF_len w l (if rds x.2.2 w = true then addS out x.1 x.2.1 else out); have ha := addS_len out x.1 x.2.1; have e : whenF w (x :: l) out = whenF w l (if rds x.2.2 w = true then addS out x.1 x.2.1 else out) := rfl; rw [e, List.length_cons]
    split at ih <;> rename_i hr <;> simp only [hr, if_true, Bool.false_eq_true, if_false] <;> omega
theorem faces_len (i : Int) : ∀ (l : List Alt) (f : Face) (d : Int), (facesL i l f d).length ≤ l.length + 1
  | [], _, _ => by simp [facesL]
  | a :: l, f, d => by
    unfold facesL; have h1 := faces_len i l f d; have h2 := faces_len i l (nxt i f a) a.day
    split
    · simp; omega
    · split <;> simp <;> omega
theorem Sh.when_len (s : Sh) (i : Nat) (w : Int) : (s.whenL i w).length ≤ s.alts.length + 1 := by
  have h1 := whenF_len w (s.faces i) []; have h2 := faces_len i s.alts (s.W i, 0, false) 0; unfold Sh.whenL; unfold Sh.faces at *; simp at h1; omega
theorem Good.mdOk {s : Sh} (g : Good s) {c : Cp} (h : ValidC s c) : MdOk (s.md c) := by
  obtain ⟨h1, h2, h3, h4, h5⟩ := h
  have sp : ∀ i, SpansTo 730 ((s.md c).T i) ∧ (∀ d, inside ((s.md c).T i) d → 0 ≤ d) ∧ ((s.md c).T i).length ≤ 1000 := fun i => by
    rcases Nat.lt_or_ge i c.words.length with hi | hi
    · rw [Sh.md_T hi]; obtain ⟨k1, k2⟩ := Sh.when_spans g.sorted i (c.W i); exact ⟨k1, fun d hd => ((k2 d).1 hd).1, by have := Sh.when_len s i (c.W i); have := g.m2; omega⟩
    · rw [Sh.md_T_none hi]; exact ⟨⟨by simp, by simp⟩, by simp [inside], by simp⟩
  refine ⟨?_, ?_, ?_, fun i => (sp i).1, fun i x hx => (sp i).2.1 x.1 ⟨x, hx, Int.le_refl _, ((sp i).1.1 x hx).1⟩, fun i => (sp i).2.2, h3.1, h3.2, h4, h5.1, h5.2⟩
  · show 1 ≤ c.words.length; rw [h1]; exact g.n1
  · show c.words.length ≤ 40; rw [h1]; exact g.n2
  · simp [Sh.md, Sh.tab, Md.n]
end Go.Proofs.Ytnjajbkkgfohaaa
namespace Go.Proofs.Ytnjajbkkgfohaaa
open Go.RowKit Go.Wk Go.Proofs
attribute [local irreducible] Go.Wk.Wops Go.Wk.Wp Go.Wk.Mtree Go.Wk.Mops
set_option maxHeartbeats 8000000
theorem within_c (n lo hi : Int) (w : World) : CallsV Try.prog 76 #[.int .i64 n, .int .i64 lo, .int .i64 hi] w fun v w' => v = .bool (decide (lo ≤ n ∧ n ≤ hi)) ∧ w' = w := by
  by_cases h1 : lo ≤ n
  all_goals
  refine Wp.fn Try.func76 rfl Try.ntmps76 (by simp) ?_; refine Wp.keep [0, 1, 2] ?_; rintro r1 ⟨e0_1, e1_1, e2_1, -⟩; simp [go_sem] at e0_1 e1_1 e2_1; refine sRg fun K' gd hK => ?_; go_simp; refine hK _ _ ?_; clear hK K' gd; refine Wp.keep [0, 1, 2] ?_; rintro r2 ⟨e0_2, e1_2, e2_2, -⟩; simp [go_sem, e0_1, e1_1, e2_1] at e0_2 e1_2 e2_2; clear e0_1 e1_1 e2_1; refine sRh fun K' gd hK hg => ?_; have g3 : gd 3 = some 10 := hg 3; clear hg; go_simp; refine hK _ _ ?_; clear hK K' gd g3; refine Wp.keep [6] ?_; rintro r3 ⟨e6_3, -⟩; simp [go_sem, e0_2, e1_2, e2_2] at e6_3; clear e0_2 e1_2 e2_2; refine Wp.ret ?_; refine endK_tmp Try.results76 (by decide) ?_; rw [e6_3]; refine ⟨?_, rfl⟩; go_simp
theorem within_T {n lo hi : Int} (h : lo ≤ n ∧ n ≤ hi) (w : World) : CallsV Try.prog 76 #[.int .i64 n, .int .i64 lo, .int .i64 hi] w fun v w' => v = .bool true ∧ Ext w w' :=
  (within_c n lo hi w).mono fun v w' ⟨h1, h2⟩ => ⟨by rw [h1, decide_eq_true h], by rw [h2]; exact Ext.refl _⟩
theorem within_F {n lo hi : Int} (h : ¬ (lo ≤ n ∧ n ≤ hi)) (w : World) : CallsV Try.prog 76 #[.int .i64 n, .int .i64 lo, .int .i64 hi] w fun v w' => v = .bool false ∧ Ext w w' :=
  (within_c n lo hi w).mono fun v w' ⟨h1, h2⟩ => ⟨by rw [h1, decide_eq_false h], by rw [h2]; exact Ext.refl _⟩
theorem within_E (n lo hi : Int) (w : World) : CallsV Try.prog 76 #[.int .i64 n, .int .i64 lo, .int .i64 hi] w fun v w' => v = .bool (decide (lo ≤ n ∧ n ≤ hi)) ∧ Ext w w' :=
  (within_c n lo hi w).mono fun v w' ⟨h1, h2⟩ => ⟨h1, by rw [h2]; exact Ext.refl _⟩
theorem indexI_c (v : Value) (xs : List Int) (p : Int → Bool) (gf : Nat) (w : World) (hx : IntsV w w.heap.size v xs) (hl : xs.length ≤ 1000000000000000)
    (heg : ∀ args w, (callFunc gf args).run Try.prog w = .ok (.enter gf args) w)
    (hp : ∀ x W, Ext w W → CallsV Try.prog gf #[.int .i64 x] W fun v W' => v = .bool (p x) ∧ Ext W W') :
    CallsV Try.prog 130 #[v, .func (.func gf) #[] #[]] w fun v w' => ∃ r : Int, v = .int .i64 r ∧ decide (0 ≤ r) = xs.any p ∧ Ext w w' := by
  obtain ⟨A, c, rfl, hx, -⟩ := hx; refine Wp.fn Try.func130 rfl Try.ntmps130 (by simp) ?_; refine Wp.keep [0, 1] ?_; rintro r1 ⟨e0_1, e1_1, -⟩; simp [go_sem] at e0_1 e1_1; refine sRg fun K' gd hK => ?_; go_simp; refine hK _ _ ?_; clear hK K' gd; refine Wp.keep [0, 1] ?_; rintro r2 ⟨e0_2, e1_2, -⟩; simp [go_sem, e0_1, e1_1] at e0_2 e1_2; clear e0_1 e1_1; refine Wp.seq ?_; refine sRg fun K' gd hK => ?_; go_simp; refine hK _ _ ?_; clear hK K' gd; refine Wp.keep [0, 1, 7, 8] ?_; rintro r3 ⟨e0_3, e1_3, e7_3, e8_3, -⟩; simp [go_sem, e0_2, e1_2] at e0_3 e1_3 e7_3 e8_3; clear e0_2 e1_2; refine Wp.block ?_; refine Wp.loop (fun k ρ ds wk => AllEq [0, 1, 7] ρ r3 ∧ ds = [] ∧ (ρ 8 = .int .i64 (k : Int) ∧ (xs.take k).any p = false ∧ Ext w wk)) (xs.length) ?_ ?_
  · refine ⟨AllEq.refl _ _, rfl, ?_⟩; exact ⟨by rw [e8_3]; rfl, by simp, Ext.refl w⟩
  · rintro k r4 _ wk hk ⟨hA, rfl, ⟨e8, hn, hE⟩⟩; obtain ⟨e0_4, e1_4, e7_4, -⟩ := hA; rw [e0_3] at e0_4; rw [e1_3] at e1_4; rw [e7_3] at e7_4; refine sRg fun K' gd hK => ?_; go_simp; refine hK _ _ ?_; clear hK K' gd; refine Wp.keep [0, 1, 7, 8, 9] ?_; rintro r5 ⟨e0_5, e1_5, e7_5, e8_5, e9_5, -⟩; simp [go_sem, e0_4, e1_4, e7_4, e8] at e0_5 e1_5 e7_5 e8_5 e9_5; clear e0_4 e1_4 e7_4 e8; refine Wp.seq ?_
    by_cases h : k < xs.length
    · refine cTt ?_; obtain ⟨b, o, rfl, hb, hc⟩ := hx (by intro e; rw [e] at h; exact absurd h (Nat.not_lt_zero _)); have c1 := hE.cell (hc k h); refine skN ?_; refine sBk ?_; refine sRg fun K' gd hK => ?_; go_simp; refine hK _ _ ?_; clear hK K' gd; refine Wp.keep [0, 1, 5, 7, 8] ?_; rintro r6 ⟨e0_6, e1_6, e5_6, e7_6, e8_6, -⟩; simp [go_sem, e0_5, e1_5, e7_5, e8_5, e9_5] at e0_6 e1_6 e5_6 e7_6 e8_6; clear e0_5 e1_5 e7_5 e8_5 e9_5; refine sRg fun K' gd hK => ?_; go_simp; refine Wcall (.inl rfl) (hp _ _ hE) ?_; rintro v w2 ⟨rfl, hE2⟩; go_simp; refine hK _ _ ?_; clear hK K' gd; refine Wp.keep [0, 1, 5, 7, 8, 16] ?_; rintro r7 ⟨e0_7, e1_7, e5_7, e7_7, e8_7, e16_7, -⟩; simp [go_sem, e0_6, e1_6, e5_6, e7_6, e8_6] at e0_7 e1_7 e5_7 e7_7 e8_7 e16_7; clear e0_6 e1_6 e5_6 e7_6 e8_6
      by_cases hq : p xs[k] = true
      · refine cTt ?_; refine sRg fun K' gd hK => ?_; go_simp; refine hK _ _ ?_; clear hK K' gd; refine Wp.keep [4] ?_; rintro r8 ⟨e4_8, -⟩; simp [go_sem, e0_7, e1_7, e5_7, e7_7, e8_7, e16_7] at e4_8; clear e0_7 e1_7 e5_7 e7_7 e8_7 e16_7; refine Wp.ret ?_; refine bRe ?_; refine tRe ?_; refine tRe ?_; refine bRe ?_; refine tRe ?_; refine endK_tmp Try.results130 (by decide) ?_; rw [e4_8]; refine ⟨_, rfl, ?_, hE.trans hE2⟩; rw [List.any_eq_true.2 ⟨xs[k], List.getElem_mem h, hq⟩]; simp
      · refine cFf ?_; refine Wp.skip ?_; refine bNo ?_; refine tNo ?_; refine lRg fun K' gd hK => ?_; go_simp; refine hK _ _ ?_; clear hK K' gd; refine Ends.keep [0, 1, 7, 8] ?_; rintro r9 ⟨e0_9, e1_9, e7_9, e8_9, -⟩; simp [go_sem, e0_7, e1_7, e5_7, e7_7, e8_7, e16_7] at e0_9 e1_9 e7_9 e8_9; clear e0_7 e1_7 e5_7 e7_7 e8_7 e16_7; refine Ends.mk ?_; refine thenK_normal ⟨by omega, ⟨by rw [e0_9, e0_3], by rw [e1_9, e1_3], by rw [e7_9, e7_3], trivial⟩, rfl, ?_⟩; refine ⟨by rw [e8_9, IntWalk.i64_in _ (by omega)]; rfl, ?_, hE.trans hE2⟩; rw [List.take_add_one, List.getElem?_eq_getElem h, List.any_append, hn]; simpa using hq
    · refine cFf ?_; refine Wp.exit ?_; refine tEx ?_; refine tEx ?_; refine blockK_here ?_; refine tNo ?_; refine sRg fun K' gd hK => ?_; go_simp; refine hK _ _ ?_; clear hK K' gd; refine Wp.keep [4] ?_; rintro r10 ⟨e4_10, -⟩; simp [go_sem, e0_5, e1_5, e7_5, e8_5, e9_5] at e4_10; clear e0_5 e1_5 e7_5 e8_5 e9_5; refine Wp.ret ?_; refine endK_tmp Try.results130 (by decide) ?_; rw [e4_10]; obtain rfl : k = xs.length := by omega
      rw [List.take_length] at hn; exact ⟨_, rfl, by rw [hn]; rfl, hE⟩
theorem containsI_c (v : Value) (xs : List Int) (p : Int → Bool) (gf : Nat) (w : World) (hx : IntsV w w.heap.size v xs) (hl : xs.length ≤ 1000000000000000)
    (heg : ∀ args w, (callFunc gf args).run Try.prog w = .ok (.enter gf args) w)
    (hp : ∀ x W, Ext w W → CallsV Try.prog gf #[.int .i64 x] W fun v W' => v = .bool (p x) ∧ Ext W W') :
    CallsV Try.prog 85 #[v, .func (.func gf) #[] #[]] w fun v w' => v = .bool (xs.any p) ∧ Ext w w' := by
  refine Wp.fn Try.func85 rfl Try.ntmps85 (by simp) ?_; refine Wp.keep [0, 1] ?_; rintro r1 ⟨e0_1, e1_1, -⟩; simp [go_sem] at e0_1 e1_1; refine sRg fun K' gd hK => ?_; go_simp; refine hK _ _ ?_; clear hK K' gd; refine Wp.keep [0, 1] ?_; rintro r2 ⟨e0_2, e1_2, -⟩; simp [go_sem, e0_1, e1_1] at e0_2 e1_2; clear e0_1 e1_1; refine sRg fun K' gd hK => ?_; go_simp; refine Wcall (.inl rfl) (indexI_c v xs p gf w hx hl heg hp) ?_; rintro v w2 ⟨r, rfl, hr, hE⟩; go_simp; refine hK _ _ ?_; clear hK K' gd; refine Wp.keep [4] ?_; rintro r3 ⟨e4_3, -⟩; simp [go_sem, e0_2, e1_2] at e4_3; clear e0_2 e1_2; refine Wp.ret ?_; refine endK_tmp Try.results85 (by decide) ?_; rw [e4_3]; exact ⟨by rw [← hr], hE⟩
theorem check1_c (x : Int) (w : World) : CallsV Try.prog 86 #[.int .i64 x] w fun v w' => v = .bool (badW x) ∧ Ext w w' := by
  refine Wp.fn Try.func86 rfl Try.ntmps86 (by simp) ?_; refine Wp.keep [0] ?_; rintro r1 ⟨e0_1, -⟩; simp [go_sem] at e0_1; refine sRg fun K' gd hK => ?_; go_simp; refine hK _ _ ?_; clear hK K' gd; refine Wp.keep [0] ?_; rintro r2 ⟨e0_2, -⟩; simp [go_sem, e0_1] at e0_2; clear e0_1; refine sRg fun K' gd hK => ?_; go_simp; refine Wcall (.inl rfl) (within_c x 1 9999 w) ?_; rintro v w2 ⟨rfl, rfl⟩; go_simp; refine hK _ _ ?_; clear hK K' gd; refine Wp.keep [2] ?_; rintro r3 ⟨e2_3, -⟩; simp [go_sem, e0_2] at e2_3; clear e0_2; refine Wp.ret ?_; refine endK_tmp Try.results86 (by decide) ?_; rw [e2_3]; exact ⟨by unfold badW; rw [Bool.decide_and, Bool.not_and], Ext.refl _⟩
theorem valid1_c (x : Int) (w : World) : CallsV Try.prog 131 #[.int .i64 x] w fun v w' => v = .bool (badC x) ∧ Ext w w' := by
  refine Wp.fn Try.func131 rfl Try.ntmps131 (by simp) ?_; refine Wp.keep [0] ?_; rintro r1 ⟨e0_1, -⟩; simp [go_sem] at e0_1; refine sRg fun K' gd hK => ?_; go_simp; refine hK _ _ ?_; clear hK K' gd; refine Wp.keep [0] ?_; rintro r2 ⟨e0_2, -⟩; simp [go_sem, e0_1] at e0_2; clear e0_1; refine sRg fun K' gd hK => ?_; go_simp; refine Wcall (.inl rfl) (within_c x 0 9999 w) ?_; rintro v w2 ⟨rfl, rfl⟩; go_simp; refine hK _ _ ?_; clear hK K' gd; refine Wp.keep [2] ?_; rintro r3 ⟨e2_3, -⟩; simp [go_sem, e0_2] at e2_3; clear e0_2; refine Wp.ret ?_; refine endK_tmp Try.results131 (by decide) ?_; rw [e2_3]; exact ⟨by unfold badC; rw [Bool.decide_and, Bool.not_and], Ext.refl _⟩
theorem right_c (v : Value) (s : Sh) (a : Alt) (last : Int) (w : World) (hV : SheetV w w.heap.size v s) (hf : FitS s) :
    CallsV Try.prog 87 #[v, .agg #[.int .i64 a.id, .int .i64 a.kind, .int .i64 a.day, .int .i64 a.frm, .int .i64 a.tu, .int .i64 a.word], .int .i64 last] w fun v w' => v = .bool (decide (RightA s.n a last)) ∧ Ext w w' := by
  obtain ⟨wv, av, rfl, ⟨A, c, rfl, hx, -⟩, -⟩ := hV; have hw1 : IntKind.i64.wrap ((s.words.length : Int) - 1) = (s.words.length : Int) - 1 := IntWalk.i64_in _ (by have := hf.1; omega); have hn : (s.n : Int) = s.words.length := rfl; clear hf hx; refine Wp.fn Try.func87 rfl Try.ntmps87 (by simp) ?_; have xw := Ext.refl w; refine Wp.keep [0, 1, 2] ?_; rintro r1 ⟨e0_1, e1_1, e2_1, -⟩; simp [go_sem] at e0_1 e1_1 e2_1
  by_cases h1 : 1 ≤ a.id ∧ a.id ≤ 1099511627776
  · skip
    by_cases h2 : last ≤ a.day ∧ a.day ≤ 730
    · skip
      by_cases h3 : 0 ≤ a.frm ∧ a.frm ≤ (s.words.length : Int) - 1
      · skip
        by_cases h4 : a.frm ≤ a.tu ∧ a.tu ≤ (s.words.length : Int) - 1
        · skip; refine sRg fun K' gd hK => ?_; refine cu1 fun K1 hK1 => ?_; go_simp; refine hK1 _ _ ?_; clear hK1 K1; refine Wops.absA fun V3_1 n3 hV3_1 => ?_; obtain ⟨q3, hV3_1, s3, kV3_1, f3, r3⟩ := hV3_1; try simp only [q3] at kV3_1 f3 r3 ⊢
          replace xw := xw.trans hV3_1; have c3_0 := kV3_1 0 _ rfl; clear kV3_1 hV3_1; clear r3; refine cu1 fun K1 hK1 => ?_; go_simp; refine hK1 _ _ ?_; clear hK1 K1; refine Wops.absA fun V4_2 n4 hV4_2 => ?_; obtain ⟨q4, hV4_2, s4, kV4_2, f4, r4⟩ := hV4_2; try simp only [q4] at kV4_2 f4 r4 ⊢
          replace xw := xw.trans hV4_2; replace c3_0 := hV4_2.cell c3_0; have c4_0 := kV4_2 0 _ rfl; have c4_1 := kV4_2 1 _ rfl; have c4_2 := kV4_2 2 _ rfl; have c4_3 := kV4_2 3 _ rfl; have c4_4 := kV4_2 4 _ rfl; have c4_5 := kV4_2 5 _ rfl; clear kV4_2 hV4_2; clear r4; go_simp; refine hK _ _ ?_; clear hK K' gd; refine Wp.keep [2, 3, 4] ?_; rintro r2 ⟨e2_2, e3_2, e4_2, -⟩; simp [go_sem, e0_1, e1_1, e2_1] at e2_2 e3_2 e4_2; clear e0_1 e1_1 e2_1; refine sRg fun K' gd hK => ?_; go_simp; refine hK _ _ ?_; clear hK K' gd; refine Wp.keep [2, 4, 7] ?_; rintro r3 ⟨e2_3, e4_3, e7_3, -⟩; simp [go_sem, e2_2, e3_2, e4_2] at e2_3 e4_3 e7_3; clear e2_2 e3_2 e4_2; refine Wp.seq ?_; refine sRh fun K' gd hK hg => ?_; have g4 : gd 4 = some 16 := hg 4; have g11 : gd 11 = some 23 := hg 11; have g18 : gd 18 = some 30 := hg 18; clear hg; refine cu3 fun K1 hK1 => ?_; go_simp; refine Wcall (.inl rfl) (within_T h1 _) ?_; rintro v w2 ⟨rfl, hE⟩; go_simp; refine hK1 _ _ ?_; clear hK1 K1; replace xw := xw.trans hE; replace c4_1 := hE.cell c4_1; replace c4_2 := hE.cell c4_2; replace c4_3 := hE.cell c4_3; replace c4_4 := hE.cell c4_4; replace c4_5 := hE.cell c4_5; clear hE; refine cu6 fun K1 hK1 => ?_
          go_simp; refine Wcall (.inl rfl) (within_T h2 _) ?_; rintro v w3 ⟨rfl, hE⟩; go_simp; refine hK1 _ _ ?_; clear hK1 K1; replace xw := xw.trans hE; replace c4_1 := hE.cell c4_1; replace c4_3 := hE.cell c4_3; replace c4_4 := hE.cell c4_4; replace c4_5 := hE.cell c4_5; clear hE; refine cu7 fun K1 hK1 => ?_; go_simp; refine Wcall (.inl rfl) (within_T h3 _) ?_; rintro v w4 ⟨rfl, hE⟩; go_simp; refine hK1 _ _ ?_; clear hK1 K1; replace xw := xw.trans hE; replace c4_1 := hE.cell c4_1; replace c4_3 := hE.cell c4_3; replace c4_4 := hE.cell c4_4; replace c4_5 := hE.cell c4_5; clear hE; refine cu9 fun K1 hK1 => ?_; go_simp; refine Wcall (.inl rfl) (within_T h4 _) ?_; rintro v w5 ⟨rfl, hE⟩; go_simp; refine hK1 _ _ ?_; clear hK1 K1; replace xw := xw.trans hE; replace c4_1 := hE.cell c4_1; replace c4_3 := hE.cell c4_3; replace c4_4 := hE.cell c4_4; replace c4_5 := hE.cell c4_5; clear hE; go_simp; refine hK _ _ ?_; clear hK K' gd g4 g11 g18; refine Wp.keep [4, 38] ?_; rintro r8 ⟨e4_8, e38_8, -⟩; simp [go_sem, e2_3, e4_3, e7_3] at e4_8 e38_8; clear e2_3 e4_3 e7_3; refine cFf ?_; obtain ⟨-, -⟩ : True ∧ True := ⟨trivial, trivial⟩
          by_cases k1 : a.kind = 1
          · skip; refine skN ?_; refine Wp.seq ?_; refine sRg fun K' gd hK => ?_; go_simp; refine hK _ _ ?_; clear hK K' gd; refine Wp.keep [4, 40] ?_; rintro r9 ⟨e4_9, e40_9, -⟩; simp [go_sem, e4_8, e38_8] at e4_9 e40_9; clear e4_8 e38_8; refine Wp.block ?_; refine Wp.seq ?_; refine sRg fun K' gd hK => ?_; go_simp; refine hK _ _ ?_; clear hK K' gd; refine Wp.keep [4, 40, 41] ?_; rintro r10 ⟨e4_10, e40_10, e41_10, -⟩; simp [go_sem, e4_9, e40_9] at e4_10 e40_10 e41_10; clear e4_9 e40_9; refine cTt ?_; refine skN ?_; refine cTt ?_; refine sRg fun K' gd hK => ?_; go_simp; refine hK _ _ ?_; clear hK K' gd; refine Wp.keep [6] ?_; rintro r11 ⟨e6_11, -⟩; simp [go_sem, e4_10, e40_10, e41_10] at e6_11; clear e4_10 e40_10 e41_10; refine Wp.ret ?_; refine bRe ?_; refine tRe ?_; refine endK_tmp Try.results87 (by decide) ?_; rw [e6_11]; exact ⟨by simp [RightA, hn, h1, h2, h3, h4, k1]; rfl, xw⟩
          · skip; refine skN ?_; refine Wp.seq ?_; refine sRg fun K' gd hK => ?_; go_simp; refine hK _ _ ?_; clear hK K' gd; refine Wp.keep [4, 40] ?_; rintro r12 ⟨e4_12, e40_12, -⟩; simp [go_sem, e4_8, e38_8] at e4_12 e40_12; clear e4_8 e38_8; refine Wp.block ?_; refine Wp.seq ?_; refine sRg fun K' gd hK => ?_; go_simp; refine hK _ _ ?_; clear hK K' gd; refine Wp.keep [4, 40, 41] ?_; rintro r13 ⟨e4_13, e40_13, e41_13, -⟩; simp [go_sem, e4_12, e40_12] at e4_13 e40_13 e41_13; clear e4_12 e40_12; refine cFf ?_
            by_cases k2 : a.kind = 2
            · skip; refine lRg fun K' gd hK => ?_; go_simp; refine hK _ _ ?_; clear hK K' gd; refine Ends.keep [4, 40, 41] ?_; rintro r14 ⟨e4_14, e40_14, e41_14, -⟩; simp [go_sem, e4_13, e40_13, e41_13] at e4_14 e40_14 e41_14; clear e4_13 e40_13 e41_13; refine Ends.mk ?_; refine tNo ?_; refine cTt ?_; refine sRg fun K' gd hK => ?_; go_simp; refine hK _ _ ?_; clear hK K' gd; refine Wp.keep [6] ?_; rintro r15 ⟨e6_15, -⟩; simp [go_sem, e4_14, e40_14, e41_14] at e6_15; clear e4_14 e40_14 e41_14; refine Wp.ret ?_; refine bRe ?_; refine tRe ?_; refine endK_tmp Try.results87 (by decide) ?_; rw [e6_15]; exact ⟨by simp [RightA, hn, h1, h2, h3, h4, k1, k2]; rfl, xw⟩
            · skip; refine lRg fun K' gd hK => ?_; go_simp; refine hK _ _ ?_; clear hK K' gd; refine Ends.keep [4, 40, 41] ?_; rintro r16 ⟨e4_16, e40_16, e41_16, -⟩; simp [go_sem, e4_13, e40_13, e41_13] at e4_16 e40_16 e41_16; clear e4_13 e40_13 e41_13; refine Ends.mk ?_; refine tNo ?_; refine cFf ?_
              by_cases k3 : a.kind = 3
              · skip; refine Wp.seq ?_; refine sRg fun K' gd hK => ?_; go_simp; refine hK _ _ ?_; clear hK K' gd; refine Wp.keep [4, 40, 47] ?_; rintro r17 ⟨e4_17, e40_17, e47_17, -⟩; simp [go_sem, e4_16, e40_16, e41_16] at e4_17 e40_17 e47_17; clear e4_16 e40_16 e41_16; refine cTt ?_; refine skN ?_; refine cTt ?_
                by_cases e1 : a.tu = a.frm
                · skip
                  by_cases e2 : 1 ≤ a.word ∧ a.word ≤ 9999
                  · skip; refine sRh fun K' gd hK hg => ?_; have g5 : gd 5 = some 55 := hg 5; clear hg; refine cu9 fun K1 hK1 => ?_; go_simp; refine Wcall (.inl rfl) (within_T e2 _) ?_; rintro v w6 ⟨rfl, hE⟩; go_simp; refine hK1 _ _ ?_; clear hK1 K1; replace xw := xw.trans hE; clear hE; go_simp; refine hK _ _ ?_; clear hK K' gd g5; refine Wp.keep [6] ?_; rintro r19 ⟨e6_19, -⟩; simp [go_sem, e4_17, e40_17, e47_17] at e6_19; clear e4_17 e40_17 e47_17; refine Wp.ret ?_; refine bRe ?_; refine tRe ?_; refine endK_tmp Try.results87 (by decide) ?_; rw [e6_19]; exact ⟨by simp [RightA, hn, h1, h2, h3, h4, k1, k2, k3, e1, e2], xw⟩
                  · skip; refine sRh fun K' gd hK hg => ?_; have g5 : gd 5 = some 55 := hg 5; clear hg; refine cu9 fun K1 hK1 => ?_; go_simp; refine Wcall (.inl rfl) (within_F e2 _) ?_; rintro v w6 ⟨rfl, hE⟩; go_simp; refine hK1 _ _ ?_; clear hK1 K1; replace xw := xw.trans hE; clear hE; go_simp; refine hK _ _ ?_; clear hK K' gd g5; refine Wp.keep [6] ?_; rintro r21 ⟨e6_21, -⟩; simp [go_sem, e4_17, e40_17, e47_17] at e6_21; clear e4_17 e40_17 e47_17; refine Wp.ret ?_; refine bRe ?_; refine tRe ?_; refine endK_tmp Try.results87 (by decide) ?_; rw [e6_21]; exact ⟨by simp [RightA, hn, h1, h2, h3, h4, k1, k2, k3, e1, e2], xw⟩
                · skip; refine sRh fun K' gd hK hg => ?_; have g5 : gd 5 = some 55 := hg 5; clear hg; refine cu9 fun K1 hK1 => ?_; go_simp; refine hK1 _ _ ?_; clear hK1 K1; go_simp; refine hK _ _ ?_; clear hK K' gd g5; refine Wp.keep [6] ?_; rintro r22 ⟨e6_22, -⟩; simp [go_sem, e4_17, e40_17, e47_17] at e6_22; clear e4_17 e40_17 e47_17; refine Wp.ret ?_; refine bRe ?_; refine tRe ?_; refine endK_tmp Try.results87 (by decide) ?_; rw [e6_22]; exact ⟨by simp [RightA, hn, h1, h2, h3, h4, k1, k2, k3, e1], xw⟩
              · skip; refine Wp.seq ?_; refine sRg fun K' gd hK => ?_; go_simp; refine hK _ _ ?_; clear hK K' gd; refine Wp.keep [4, 40, 47] ?_; rintro r23 ⟨e4_23, e40_23, e47_23, -⟩; simp [go_sem, e4_16, e40_16, e41_16] at e4_23 e40_23 e47_23; clear e4_16 e40_16 e41_16; refine cFf ?_
                by_cases k4 : a.kind = 4
                · skip; refine lRg fun K' gd hK => ?_; go_simp; refine hK _ _ ?_; clear hK K' gd; refine Ends.keep [4, 47] ?_; rintro r24 ⟨e4_24, e47_24, -⟩; simp [go_sem, e4_23, e40_23, e47_23] at e4_24 e47_24; clear e4_23 e40_23 e47_23; refine Ends.mk ?_; refine tNo ?_; refine cTt ?_
                  by_cases e1 : a.tu = a.frm
                  · skip
                    by_cases e2 : 1 ≤ a.word ∧ a.word ≤ 9999
                    · skip; refine sRh fun K' gd hK hg => ?_; have g5 : gd 5 = some 55 := hg 5; clear hg; refine cu9 fun K1 hK1 => ?_; go_simp; refine Wcall (.inl rfl) (within_T e2 _) ?_; rintro v w6 ⟨rfl, hE⟩; go_simp; refine hK1 _ _ ?_; clear hK1 K1; replace xw := xw.trans hE; clear hE; go_simp; refine hK _ _ ?_; clear hK K' gd g5; refine Wp.keep [6] ?_; rintro r26 ⟨e6_26, -⟩; simp [go_sem, e4_24, e47_24] at e6_26; clear e4_24 e47_24; refine Wp.ret ?_; refine bRe ?_; refine tRe ?_; refine endK_tmp Try.results87 (by decide) ?_; rw [e6_26]; exact ⟨by simp [RightA, hn, h1, h2, h3, h4, k1, k2, k3, k4, e1, e2], xw⟩
                    · skip; refine sRh fun K' gd hK hg => ?_; have g5 : gd 5 = some 55 := hg 5; clear hg; refine cu9 fun K1 hK1 => ?_; go_simp; refine Wcall (.inl rfl) (within_F e2 _) ?_; rintro v w6 ⟨rfl, hE⟩; go_simp; refine hK1 _ _ ?_; clear hK1 K1; replace xw := xw.trans hE; clear hE; go_simp; refine hK _ _ ?_; clear hK K' gd g5; refine Wp.keep [6] ?_; rintro r28 ⟨e6_28, -⟩; simp [go_sem, e4_24, e47_24] at e6_28; clear e4_24 e47_24; refine Wp.ret ?_; refine bRe ?_; refine tRe ?_; refine endK_tmp Try.results87 (by decide) ?_; rw [e6_28]; exact ⟨by simp [RightA, hn, h1, h2, h3, h4, k1, k2, k3, k4, e1, e2], xw⟩
                  · skip; refine sRh fun K' gd hK hg => ?_; have g5 : gd 5 = some 55 := hg 5; clear hg; refine cu9 fun K1 hK1 => ?_; go_simp; refine hK1 _ _ ?_; clear hK1 K1; go_simp; refine hK _ _ ?_; clear hK K' gd g5; refine Wp.keep [6] ?_; rintro r29 ⟨e6_29, -⟩; simp [go_sem, e4_24, e47_24] at e6_29; clear e4_24 e47_24; refine Wp.ret ?_; refine bRe ?_; refine tRe ?_; refine endK_tmp Try.results87 (by decide) ?_; rw [e6_29]; exact ⟨by simp [RightA, hn, h1, h2, h3, h4, k1, k2, k3, k4, e1], xw⟩
                · skip; refine lRg fun K' gd hK => ?_; go_simp; refine hK _ _ ?_; clear hK K' gd; refine Ends.keep [4, 47] ?_; rintro r30 ⟨e4_30, e47_30, -⟩; simp [go_sem, e4_23, e40_23, e47_23] at e4_30 e47_30; clear e4_23 e40_23 e47_23; refine Ends.mk ?_; refine tNo ?_; refine cFf ?_; refine Wp.skip ?_; refine bNo ?_; refine tNo ?_; refine sRg fun K' gd hK => ?_; go_simp; refine hK _ _ ?_; clear hK K' gd; refine Wp.keep [6] ?_; rintro r31 ⟨e6_31, -⟩; simp [go_sem, e4_30, e47_30] at e6_31; clear e4_30 e47_30; refine Wp.ret ?_; refine endK_tmp Try.results87 (by decide) ?_; rw [e6_31]; exact ⟨by simp [RightA, hn, h1, h2, h3, h4, k1, k2, k3, k4], xw⟩
        · skip; refine sRg fun K' gd hK => ?_; refine cu1 fun K1 hK1 => ?_; go_simp; refine hK1 _ _ ?_; clear hK1 K1; refine Wops.absA fun V3_3 n3 hV3_3 => ?_; obtain ⟨q3, hV3_3, s3, kV3_3, f3, r3⟩ := hV3_3; try simp only [q3] at kV3_3 f3 r3 ⊢
          replace xw := xw.trans hV3_3; have c3_0 := kV3_3 0 _ rfl; clear kV3_3 hV3_3; clear r3; refine cu1 fun K1 hK1 => ?_; go_simp; refine hK1 _ _ ?_; clear hK1 K1; refine Wops.absA fun V4_4 n4 hV4_4 => ?_; obtain ⟨q4, hV4_4, s4, kV4_4, f4, r4⟩ := hV4_4; try simp only [q4] at kV4_4 f4 r4 ⊢
          replace xw := xw.trans hV4_4; replace c3_0 := hV4_4.cell c3_0; have c4_0 := kV4_4 0 _ rfl; have c4_2 := kV4_4 2 _ rfl; have c4_3 := kV4_4 3 _ rfl; have c4_4 := kV4_4 4 _ rfl; clear kV4_4 hV4_4; clear r4; go_simp; refine hK _ _ ?_; clear hK K' gd; refine Wp.keep [2, 3, 4] ?_; rintro r32 ⟨e2_32, e3_32, e4_32, -⟩; simp [go_sem, e0_1, e1_1, e2_1] at e2_32 e3_32 e4_32; clear e0_1 e1_1 e2_1; refine sRg fun K' gd hK => ?_; go_simp; refine hK _ _ ?_; clear hK K' gd; refine Wp.keep [2, 4, 7] ?_; rintro r33 ⟨e2_33, e4_33, e7_33, -⟩; simp [go_sem, e2_32, e3_32, e4_32] at e2_33 e4_33 e7_33; clear e2_32 e3_32 e4_32; refine Wp.seq ?_; refine sRh fun K' gd hK hg => ?_; have g4 : gd 4 = some 16 := hg 4; have g11 : gd 11 = some 23 := hg 11; have g18 : gd 18 = some 30 := hg 18; clear hg; refine cu3 fun K1 hK1 => ?_; go_simp; refine Wcall (.inl rfl) (within_T h1 _) ?_; rintro v w2 ⟨rfl, hE⟩; go_simp; refine hK1 _ _ ?_; clear hK1 K1; replace xw := xw.trans hE; replace c4_2 := hE.cell c4_2; replace c4_3 := hE.cell c4_3; replace c4_4 := hE.cell c4_4; clear hE; refine cu6 fun K1 hK1 => ?_; go_simp; refine Wcall (.inl rfl) (within_T h2 _) ?_; rintro v w3 ⟨rfl, hE⟩; go_simp; refine hK1 _ _ ?_
          clear hK1 K1; replace xw := xw.trans hE; replace c4_3 := hE.cell c4_3; replace c4_4 := hE.cell c4_4; clear hE; refine cu7 fun K1 hK1 => ?_; go_simp; refine Wcall (.inl rfl) (within_T h3 _) ?_; rintro v w4 ⟨rfl, hE⟩; go_simp; refine hK1 _ _ ?_; clear hK1 K1; replace xw := xw.trans hE; replace c4_3 := hE.cell c4_3; replace c4_4 := hE.cell c4_4; clear hE; refine cu9 fun K1 hK1 => ?_; go_simp; refine Wcall (.inl rfl) (within_F h4 _) ?_; rintro v w5 ⟨rfl, hE⟩; go_simp; refine hK1 _ _ ?_; clear hK1 K1; replace xw := xw.trans hE; clear hE; go_simp; refine hK _ _ ?_; clear hK K' gd g4 g11 g18; refine Wp.keep [4, 38] ?_; rintro r38 ⟨e4_38, e38_38, -⟩; simp [go_sem, e2_33, e4_33, e7_33] at e4_38 e38_38; clear e2_33 e4_33 e7_33; refine cTt ?_; refine sRg fun K' gd hK => ?_; go_simp; refine hK _ _ ?_; clear hK K' gd; refine Wp.keep [6] ?_; rintro r39 ⟨e6_39, -⟩; simp [go_sem, e4_38, e38_38] at e6_39; clear e4_38 e38_38; refine Wp.ret ?_; refine tRe ?_; refine endK_tmp Try.results87 (by decide) ?_; rw [e6_39]; exact ⟨by rw [decide_eq_false fun h => h4 (by rw [← hn]; exact h.2.2.2.1)], xw⟩
      · skip; refine sRg fun K' gd hK => ?_; refine cu1 fun K1 hK1 => ?_; go_simp; refine hK1 _ _ ?_; clear hK1 K1; refine Wops.absA fun V3_5 n3 hV3_5 => ?_; obtain ⟨q3, hV3_5, s3, kV3_5, f3, r3⟩ := hV3_5; try simp only [q3] at kV3_5 f3 r3 ⊢
        replace xw := xw.trans hV3_5; have c3_0 := kV3_5 0 _ rfl; clear kV3_5 hV3_5; clear r3; refine cu1 fun K1 hK1 => ?_; go_simp; refine hK1 _ _ ?_; clear hK1 K1; refine Wops.absA fun V4_6 n4 hV4_6 => ?_; obtain ⟨q4, hV4_6, s4, kV4_6, f4, r4⟩ := hV4_6; try simp only [q4] at kV4_6 f4 r4 ⊢
        replace xw := xw.trans hV4_6; replace c3_0 := hV4_6.cell c3_0; have c4_0 := kV4_6 0 _ rfl; have c4_2 := kV4_6 2 _ rfl; have c4_3 := kV4_6 3 _ rfl; clear kV4_6 hV4_6; clear r4; go_simp; refine hK _ _ ?_; clear hK K' gd; refine Wp.keep [2, 3, 4] ?_; rintro r40 ⟨e2_40, e3_40, e4_40, -⟩; simp [go_sem, e0_1, e1_1, e2_1] at e2_40 e3_40 e4_40; clear e0_1 e1_1 e2_1; refine sRg fun K' gd hK => ?_; go_simp; refine hK _ _ ?_; clear hK K' gd; refine Wp.keep [2, 4, 7] ?_; rintro r41 ⟨e2_41, e4_41, e7_41, -⟩; simp [go_sem, e2_40, e3_40, e4_40] at e2_41 e4_41 e7_41; clear e2_40 e3_40 e4_40; refine Wp.seq ?_; refine sRh fun K' gd hK hg => ?_; have g4 : gd 4 = some 16 := hg 4; have g11 : gd 11 = some 23 := hg 11; have g18 : gd 18 = some 30 := hg 18; clear hg; refine cu3 fun K1 hK1 => ?_; go_simp; refine Wcall (.inl rfl) (within_T h1 _) ?_; rintro v w2 ⟨rfl, hE⟩; go_simp; refine hK1 _ _ ?_; clear hK1 K1; replace xw := xw.trans hE; replace c4_2 := hE.cell c4_2; replace c4_3 := hE.cell c4_3; clear hE; refine cu6 fun K1 hK1 => ?_; go_simp; refine Wcall (.inl rfl) (within_T h2 _) ?_; rintro v w3 ⟨rfl, hE⟩; go_simp; refine hK1 _ _ ?_; clear hK1 K1
        replace xw := xw.trans hE; replace c4_3 := hE.cell c4_3; clear hE; refine cu7 fun K1 hK1 => ?_; go_simp; refine Wcall (.inl rfl) (within_F h3 _) ?_; rintro v w4 ⟨rfl, hE⟩; go_simp; refine hK1 _ _ ?_; clear hK1 K1; replace xw := xw.trans hE; clear hE; refine cu9 fun K1 hK1 => ?_; go_simp; refine hK1 _ _ ?_; clear hK1 K1; go_simp; refine hK _ _ ?_; clear hK K' gd g4 g11 g18; refine Wp.keep [4, 38] ?_; rintro r45 ⟨e4_45, e38_45, -⟩; simp [go_sem, e2_41, e4_41, e7_41] at e4_45 e38_45; clear e2_41 e4_41 e7_41; refine cTt ?_; refine sRg fun K' gd hK => ?_; go_simp; refine hK _ _ ?_; clear hK K' gd; refine Wp.keep [6] ?_; rintro r46 ⟨e6_46, -⟩; simp [go_sem, e4_45, e38_45] at e6_46; clear e4_45 e38_45; refine Wp.ret ?_; refine tRe ?_; refine endK_tmp Try.results87 (by decide) ?_; rw [e6_46]; exact ⟨by rw [decide_eq_false fun h => h3 (by rw [← hn]; exact h.2.2.1)], xw⟩
    · skip; refine sRg fun K' gd hK => ?_; refine cu1 fun K1 hK1 => ?_; go_simp; refine hK1 _ _ ?_; clear hK1 K1; refine Wops.absA fun V3_7 n3 hV3_7 => ?_; obtain ⟨q3, hV3_7, s3, kV3_7, f3, r3⟩ := hV3_7; try simp only [q3] at kV3_7 f3 r3 ⊢
      replace xw := xw.trans hV3_7; have c3_0 := kV3_7 0 _ rfl; clear kV3_7 hV3_7; clear r3; refine cu1 fun K1 hK1 => ?_; go_simp; refine hK1 _ _ ?_; clear hK1 K1; refine Wops.absA fun V4_8 n4 hV4_8 => ?_; obtain ⟨q4, hV4_8, s4, kV4_8, f4, r4⟩ := hV4_8; try simp only [q4] at kV4_8 f4 r4 ⊢
      replace xw := xw.trans hV4_8; replace c3_0 := hV4_8.cell c3_0; have c4_0 := kV4_8 0 _ rfl; have c4_2 := kV4_8 2 _ rfl; clear kV4_8 hV4_8; clear r4; go_simp; refine hK _ _ ?_; clear hK K' gd; refine Wp.keep [2, 3, 4] ?_; rintro r47 ⟨e2_47, e3_47, e4_47, -⟩; simp [go_sem, e0_1, e1_1, e2_1] at e2_47 e3_47 e4_47; clear e0_1 e1_1 e2_1; refine sRg fun K' gd hK => ?_; go_simp; refine hK _ _ ?_; clear hK K' gd; refine Wp.keep [2, 4, 7] ?_; rintro r48 ⟨e2_48, e4_48, e7_48, -⟩; simp [go_sem, e2_47, e3_47, e4_47] at e2_48 e4_48 e7_48; clear e2_47 e3_47 e4_47; refine Wp.seq ?_; refine sRh fun K' gd hK hg => ?_; have g4 : gd 4 = some 16 := hg 4; have g11 : gd 11 = some 23 := hg 11; have g18 : gd 18 = some 30 := hg 18; clear hg; refine cu3 fun K1 hK1 => ?_; go_simp; refine Wcall (.inl rfl) (within_T h1 _) ?_; rintro v w2 ⟨rfl, hE⟩; go_simp; refine hK1 _ _ ?_; clear hK1 K1; replace xw := xw.trans hE; replace c4_2 := hE.cell c4_2; clear hE; refine cu6 fun K1 hK1 => ?_; go_simp; refine Wcall (.inl rfl) (within_F h2 _) ?_; rintro v w3 ⟨rfl, hE⟩; go_simp; refine hK1 _ _ ?_; clear hK1 K1; replace xw := xw.trans hE; clear hE; refine cu7 fun K1 hK1 => ?_; go_simp; refine hK1 _ _ ?_; clear hK1 K1; refine cu9 fun K1 hK1 => ?_; go_simp; refine hK1 _ _ ?_; clear hK1 K1; go_simp; refine hK _ _ ?_; clear hK K' gd g4 g11 g18; refine Wp.keep [4, 38] ?_; rintro r51 ⟨e4_51, e38_51, -⟩; simp [go_sem, e2_48, e4_48, e7_48] at e4_51 e38_51; clear e2_48 e4_48 e7_48; refine cTt ?_; refine sRg fun K' gd hK => ?_; go_simp; refine hK _ _ ?_; clear hK K' gd; refine Wp.keep [6] ?_; rintro r52 ⟨e6_52, -⟩; simp [go_sem, e4_51, e38_51] at e6_52; clear e4_51 e38_51; refine Wp.ret ?_; refine tRe ?_; refine endK_tmp Try.results87 (by decide) ?_; rw [e6_52]; exact ⟨by rw [decide_eq_false fun h => h2 h.2.1], xw⟩
  · skip; refine sRg fun K' gd hK => ?_; refine cu1 fun K1 hK1 => ?_; go_simp; refine hK1 _ _ ?_; clear hK1 K1; refine Wops.absA fun V3_9 n3 hV3_9 => ?_; obtain ⟨q3, hV3_9, s3, kV3_9, f3, r3⟩ := hV3_9; try simp only [q3] at kV3_9 f3 r3 ⊢
    replace xw := xw.trans hV3_9; have c3_0 := kV3_9 0 _ rfl; clear kV3_9 hV3_9; clear r3; refine cu1 fun K1 hK1 => ?_; go_simp; refine hK1 _ _ ?_; clear hK1 K1; refine Wops.absA fun V4_10 n4 hV4_10 => ?_; obtain ⟨q4, hV4_10, s4, kV4_10, f4, r4⟩ := hV4_10; try simp only [q4] at kV4_10 f4 r4 ⊢
    replace xw := xw.trans hV4_10; replace c3_0 := hV4_10.cell c3_0; have c4_0 := kV4_10 0 _ rfl; clear kV4_10 hV4_10; clear r4; go_simp; refine hK _ _ ?_; clear hK K' gd; refine Wp.keep [2, 3, 4] ?_; rintro r53 ⟨e2_53, e3_53, e4_53, -⟩; simp [go_sem, e0_1, e1_1, e2_1] at e2_53 e3_53 e4_53; clear e0_1 e1_1 e2_1; refine sRg fun K' gd hK => ?_; go_simp; refine hK _ _ ?_; clear hK K' gd; refine Wp.keep [2, 4, 7] ?_; rintro r54 ⟨e2_54, e4_54, e7_54, -⟩; simp [go_sem, e2_53, e3_53, e4_53] at e2_54 e4_54 e7_54; clear e2_53 e3_53 e4_53; refine Wp.seq ?_; refine sRh fun K' gd hK hg => ?_; have g4 : gd 4 = some 16 := hg 4; have g11 : gd 11 = some 23 := hg 11; have g18 : gd 18 = some 30 := hg 18; clear hg; refine cu3 fun K1 hK1 => ?_; go_simp; refine Wcall (.inl rfl) (within_F h1 _) ?_; rintro v w2 ⟨rfl, hE⟩; go_simp; refine hK1 _ _ ?_; clear hK1 K1; replace xw := xw.trans hE; clear hE; refine cu6 fun K1 hK1 => ?_; go_simp; refine hK1 _ _ ?_; clear hK1 K1; refine cu7 fun K1 hK1 => ?_; go_simp; refine hK1 _ _ ?_; clear hK1 K1; refine cu9 fun K1 hK1 => ?_; go_simp; refine hK1 _ _ ?_; clear hK1 K1; go_simp; refine hK _ _ ?_; clear hK K' gd g4 g11 g18; refine Wp.keep [4, 38] ?_; rintro r56 ⟨e4_56, e38_56, -⟩; simp [go_sem, e2_54, e4_54, e7_54] at e4_56 e38_56; clear e2_54 e4_54 e7_54; refine cTt ?_; refine sRg fun K' gd hK => ?_; go_simp; refine hK _ _ ?_; clear hK K' gd; refine Wp.keep [6] ?_; rintro r57 ⟨e6_57, -⟩; simp [go_sem, e4_56, e38_56] at e6_57; clear e4_56 e38_56; refine Wp.ret ?_; refine tRe ?_; refine endK_tmp Try.results87 (by decide) ?_; rw [e6_57]; exact ⟨by rw [decide_eq_false fun h => h1 h.1], xw⟩
end Go.Proofs.Ytnjajbkkgfohaaa
namespace Go.Proofs.Ytnjajbkkgfohaaa
open Go.RowKit Go.Wk Go.Proofs
attribute [local irreducible] Go.Wk.Wops Go.Wk.Wp Go.Wk.Mtree Go.Wk.Mops
set_option maxHeartbeats 8000000
set_option maxRecDepth 20000
theorem drop_cons {α : Type} {l : List α} {k : Nat} (h : k < l.length) : l.drop k = l[k] :: l.drop (k + 1) := List.drop_eq_getElem_cons h
theorem take_snoc {α : Type} {l : List α} {k : Nat} (h : k < l.length) : l.take (k + 1) = l.take k ++ [l[k]] := by
  rw [List.take_add_one, List.getElem?_eq_getElem h]; rfl
theorem wf64 {x : Int} (h : 1 ≤ x ∧ x ≤ 1099511627776) : (Lit.int .i64 x).wf = true := by
  simp [Lit.wf, IntKind.min, IntKind.max, IntKind.signed, IntKind.bits]; omega
theorem right_T {v : Value} {s : Sh} {a : Alt} {last : Int} (h : RightA s.n a last) (w : World) (hV : SheetV w w.heap.size v s) (hf : FitS s) :
    CallsV Try.prog 87 #[v, .agg #[.int .i64 a.id, .int .i64 a.kind, .int .i64 a.day, .int .i64 a.frm, .int .i64 a.tu, .int .i64 a.word], .int .i64 last] w fun v w' => v = .bool true ∧ Ext w w' :=
  (right_c v s a last w hV hf).mono fun v w' ⟨h1, h2⟩ => ⟨by rw [h1, decide_eq_true h], h2⟩
theorem right_F {v : Value} {s : Sh} {a : Alt} {last : Int} (h : ¬ RightA s.n a last) (w : World) (hV : SheetV w w.heap.size v s) (hf : FitS s) :
    CallsV Try.prog 87 #[v, .agg #[.int .i64 a.id, .int .i64 a.kind, .int .i64 a.day, .int .i64 a.frm, .int .i64 a.tu, .int .i64 a.word], .int .i64 last] w fun v w' => v = .bool false ∧ Ext w w' :=
  (right_c v s a last w hV hf).mono fun v w' ⟨h1, h2⟩ => ⟨by rw [h1, decide_eq_false h], h2⟩
theorem check_c (v : Value) (s : Sh) (w : World) (hV : SheetV w w.heap.size v s) (hf : FitS s) :
    CallsV Try.prog 31 #[v] w fun v w' => v = .int .i64 (checkS s) ∧ Ext w w' := by
  obtain ⟨wv, av, rfl, hW, hAl⟩ := hV; have hV : SheetV w w.heap.size (.agg #[wv, av]) s := ⟨wv, av, rfl, hW, hAl⟩; obtain ⟨A, c, rfl, -, -⟩ := id hW; obtain ⟨A2, c2, rfl, -, -⟩ := id hAl; have hn : ∃ _u : Unit, s.n = s.words.length := ⟨(), rfl⟩; have hfa := hf.2; refine Wp.fn Try.func31 rfl Try.ntmps31 (by simp) ?_; have xw := Ext.refl w; refine Wp.keep [0] ?_; rintro r1 ⟨e0_1, -⟩; simp [go_sem] at e0_1
  by_cases h1 : 1 ≤ (s.words.length : Int) ∧ (s.words.length : Int) ≤ 40
  · skip; refine sRg fun K' gd hK => ?_; refine cu1 fun K1 hK1 => ?_; go_simp; refine hK1 _ _ ?_; clear hK1 K1; refine Wops.absA fun V1_1 n1 hV1_1 => ?_; obtain ⟨q1, hV1_1, s1, kV1_1, f1, r1⟩ := hV1_1; try simp only [q1] at kV1_1 f1 r1 ⊢
    replace xw := xw.trans hV1_1; have c1_0 := kV1_1 0 _ rfl; have c1_1 := kV1_1 1 _ rfl; clear kV1_1 hV1_1; clear r1; go_simp; refine hK _ _ ?_; clear hK K' gd; refine Wp.keep [1] ?_; rintro r2 ⟨e1_2, -⟩; simp [go_sem, e0_1] at e1_2; clear e0_1; refine Wp.seq ?_; refine sRh fun K' gd hK hg => ?_; have g5 : gd 5 = some 12 := hg 5; clear hg; refine cu4 fun K1 hK1 => ?_; go_simp; refine Wcall (.inl rfl) (within_T h1 _) ?_; rintro v w2 ⟨rfl, hE⟩; go_simp; refine hK1 _ _ ?_; clear hK1 K1; have z3 := Below.size hE; replace xw := xw.trans hE; replace c1_0 := hE.cell c1_0; replace c1_1 := hE.cell c1_1; clear hE; refine cu5 fun K1 hK1 => ?_; go_simp; refine Wcall (.inl rfl) (containsI_c _ s.words badW 86 _ (hW.ext xw) hf.1 (enters_of Try.func86 (by kernel_rfl) rfl) (fun x W _ => check1_c x W)) ?_; rintro v w3 ⟨rfl, hE⟩; go_simp; refine hK1 _ _ ?_; clear hK1 K1; have z4 := Below.size hE; replace xw := xw.trans hE; replace c1_0 := hE.cell c1_0; replace c1_1 := hE.cell c1_1; clear hE; go_simp; refine hK _ _ ?_; clear hK K' gd g5; refine Wp.keep [1, 16] ?_; rintro r5 ⟨e1_5, e16_5, -⟩; simp [go_sem, e1_2] at e1_5 e16_5; clear e1_2
    by_cases h2 : s.words.any badW = true
    · refine cTt ?_; refine sRg fun K' gd hK => ?_; go_simp; refine hK _ _ ?_; clear hK K' gd; refine Wp.keep [2] ?_; rintro r6 ⟨e2_6, -⟩; simp [go_sem, e1_5, e16_5] at e2_6; clear e1_5 e16_5; refine Wp.ret ?_; refine tRe ?_; refine endK_tmp Try.results31 (by decide) ?_; rw [e2_6]; exact ⟨by unfold checkS; rw [if_pos (.inr h2)], xw⟩
    · refine cFf ?_; refine skN ?_; refine Wp.seq ?_; refine sRg fun K' gd hK => ?_; go_simp; refine hK _ _ ?_; clear hK K' gd; refine Wp.keep [1, 20] ?_; rintro r7 ⟨e1_7, e20_7, -⟩; simp [go_sem, e1_5, e16_5] at e1_7 e20_7; clear e1_5 e16_5
      by_cases h3 : (40 : Int) < (s.alts.length : Int)
      · refine cTt ?_; refine sRg fun K' gd hK => ?_; go_simp; refine hK _ _ ?_; clear hK K' gd; refine Wp.keep [2] ?_; rintro r8 ⟨e2_8, -⟩; simp [go_sem, e1_7, e20_7] at e2_8; clear e1_7 e20_7; refine Wp.ret ?_; refine tRe ?_; refine endK_tmp Try.results31 (by decide) ?_; rw [e2_8]; exact ⟨by unfold checkS; rw [if_neg, if_pos]; omega; rintro (h | h); exact h (by obtain ⟨-, e⟩ := hn; omega); exact h2 h, xw⟩
      · refine cFf ?_; have hcs : checkS s = chkA s.n [] s.alts := by unfold checkS; rw [if_neg, if_neg]; omega; rintro (h | h); exact h (by obtain ⟨-, e⟩ := hn; omega); exact h2 h
        have xw_xa := xw; have c1_0_xa := c1_0; have c1_1_xa := c1_1; have xa := Ext.refl w3; refine skN ?_; refine sRg fun K' gd hK => ?_; refine cu1 fun K1 hK1 => ?_; go_simp; refine hK1 _ _ ?_; clear hK1 K1; refine Wops.absM fun V21_3 n21 hV21_3 => ?_; obtain ⟨q21, hV21_3, s21, m21⟩ := hV21_3; try simp only [q21] at m21 ⊢
        replace xa := xa.trans hV21_3; replace c1_1 := hV21_3.cell c1_1; clear hV21_3; go_simp; refine hK _ _ ?_; clear hK K' gd; refine Wp.keep [1, 3] ?_; rintro r9 ⟨e1_9, e3_9, -⟩; simp [go_sem, e1_7, e20_7] at e1_9 e3_9; clear e1_7 e20_7; refine sRg fun K' gd hK => ?_; go_simp; refine hK _ _ ?_; clear hK K' gd; refine Wp.keep [1, 3, 4] ?_; rintro r10 ⟨e1_10, e3_10, e4_10, -⟩; simp [go_sem, e1_9, e3_9] at e1_10 e3_10 e4_10; clear e1_9 e3_9; refine Wp.seq ?_; have hM := m21 Try.prog 3 4; clear m21; refine sRg fun K' gd hK => ?_; go_simp; refine hK _ _ ?_; clear hK K' gd; refine Wp.keep [1, 3, 4, 23, 24, 25] ?_; rintro r11 ⟨e1_11, e3_11, e4_11, e23_11, e24_11, e25_11, -⟩; simp [go_sem, e1_10, e3_10, e4_10] at e1_11 e3_11 e4_11 e23_11 e24_11 e25_11; clear e1_10 e3_10 e4_10; refine Wp.block ?_; refine Wp.loop (fun k ρ ds wk => AllEq [1, 3, 23, 24] ρ r11 ∧ ds = [] ∧ (Ext w3 wk) ∧ (∃ ids, ρ 25 = .int .i64 (k : Int) ∧ ρ 4 = .int .i64 (lastD (s.alts.take k)) ∧ IdMap Try.prog 3 4 wk n21 ids ∧ ids.length = k ∧ (∀ x, x ∈ ids ↔ ∃ a ∈ s.alts.take k, a.id = x) ∧ chkA s.n (s.alts.take k) (s.alts.drop k) = checkS s)) (s.alts.length) ?_ ?_
        · refine ⟨AllEq.refl _ _, rfl, xa, ?_⟩; exact ⟨[], by rw [e25_11]; rfl, by rw [e4_11]; rfl, hM, rfl, by simp, by rw [hcs]; rfl⟩
        · rintro k r12 _ wk hk ⟨hA, rfl, xo, ⟨ids, e25, e4, hM, hil, hix, hck⟩⟩; obtain ⟨e1_12, e3_12, e23_12, e24_12, -⟩ := hA; rw [e1_11] at e1_12; rw [e3_11] at e3_12; rw [e23_11] at e23_12; rw [e24_11] at e24_12; have xw := xw_xa; have c1_0 := c1_0_xa; have c1_1 := c1_1_xa; replace xw := Ext.trans xw xo; replace c1_0 := Ext.cell xo c1_0; replace c1_1 := Ext.cell xo c1_1; refine sRg fun K' gd hK => ?_; go_simp; refine hK _ _ ?_; clear hK K' gd; refine Wp.keep [1, 3, 4, 23, 24, 25, 26] ?_; rintro r13 ⟨e1_13, e3_13, e4_13, e23_13, e24_13, e25_13, e26_13, -⟩; simp [go_sem, e1_12, e3_12, e4, e23_12, e24_12, e25] at e1_13 e3_13 e4_13 e23_13 e24_13 e25_13 e26_13; clear e1_12 e3_12 e4 e23_12 e24_12 e25; refine Wp.seq ?_
          by_cases h : k < s.alts.length
          · refine cTt ?_; have hlM := hM.lt; obtain ⟨b, o, rfl, hb, y0, y1, y2, y3, y4, y5⟩ := AltsV.six hAl h; replace y0 := xw.cell y0; replace y1 := xw.cell y1; replace y2 := xw.cell y2; replace y3 := xw.cell y3; replace y4 := xw.cell y4; replace y5 := xw.cell y5; rw [drop_cons h] at hck
            by_cases h4 : RightA s.n s.alts[k] (lastD (s.alts.take k))
            · skip; refine skN ?_; refine sBk ?_; refine sRg fun K' gd hK => ?_; refine cu4 fun K1 hK1 => ?_; go_simp; refine hK1 _ _ ?_; clear hK1 K1; refine Wops.absA fun V6_5 n6 hV6_5 => ?_; obtain ⟨q6, hV6_5, s6, kV6_5, f6, r6⟩ := hV6_5; try simp only [q6] at kV6_5 f6 r6 ⊢
              replace hM := hM.ext hV6_5; replace xw := xw.trans hV6_5; replace xo := xo.trans hV6_5; replace c1_0 := hV6_5.cell c1_0; replace c1_1 := hV6_5.cell c1_1; have c6_0 := kV6_5 0 _ rfl; have c6_1 := kV6_5 1 _ rfl; have c6_2 := kV6_5 2 _ rfl; have c6_3 := kV6_5 3 _ rfl; have c6_4 := kV6_5 4 _ rfl; have c6_5 := kV6_5 5 _ rfl; clear kV6_5 hV6_5; clear r6; try simp only [Wops_nil, updO_some, updO_none]
              refine hK _ _ ?_; clear hK K' gd; refine Wp.keep [1, 3, 4, 6, 23, 24, 25] ?_; rintro r14 ⟨e1_14, e3_14, e4_14, e6_14, e23_14, e24_14, e25_14, -⟩; simp [go_sem, e1_13, e3_13, e4_13, e23_13, e24_13, e25_13, e26_13] at e1_14 e3_14 e4_14 e6_14 e23_14 e24_14 e25_14; clear e1_13 e3_13 e4_13 e23_13 e24_13 e25_13 e26_13; refine Wp.seq ?_; refine sRg fun K' gd hK => ?_; refine cu4 fun K1 hK1 => ?_; go_simp; refine Wcall (.inl rfl) (right_T h4 _ (hV.ext xw) hf) ?_; rintro v w4 ⟨rfl, hE⟩; go_simp; refine hK1 _ _ ?_; clear hK1 K1; replace hM := hM.ext hE; replace xw := xw.trans hE; replace xo := xo.trans hE; replace c6_0 := hE.cell c6_0; replace c6_2 := hE.cell c6_2; clear hE; go_simp; refine hK _ _ ?_; clear hK K' gd; refine Wp.keep [1, 3, 6, 23, 24, 25, 33] ?_; rintro r16 ⟨e1_16, e3_16, e6_16, e23_16, e24_16, e25_16, e33_16, -⟩; simp [go_sem, e1_14, e3_14, e4_14, e6_14, e23_14, e24_14, e25_14] at e1_16 e3_16 e6_16 e23_16 e24_16 e25_16 e33_16; clear e1_14 e3_14 e4_14 e6_14 e23_14 e24_14 e25_14; refine cFf ?_
              by_cases h5 : s.alts[k].id ∈ ids
              · skip; refine skN ?_; refine Wp.seq ?_; refine sRg fun K' gd hK => ?_; refine cu4 fun K1 hK1 => ?_; refine Wops.cut 3 fun K2 hK2 => ?_; simp only [tSC, tZ]; go_simp; refine hK2 _ _ ?_; clear hK2 K2; simp only [dSC, dZ]; obtain hrun := hM.look Try.underlying3 Try.underlying4 Try.underlying125 (by kernel_rfl) (wf64 h4.1); rw [decide_eq_true h5] at hrun; refine Wops.law rfl (exec_lookup2 rfl hrun (by go_simp) (by go_simp)) ?_; simp only [updO_some, Wops_nil]; refine hK1 _ _ ?_; clear hK1 K1; try simp only [Wops_nil, updO_some, updO_none]
                refine hK _ _ ?_; clear hK K' gd; refine Wp.keep [1, 3, 6, 23, 24, 25, 37] ?_; rintro r17 ⟨e1_17, e3_17, e6_17, e23_17, e24_17, e25_17, e37_17, -⟩; simp [go_sem, e1_16, e3_16, e6_16, e23_16, e24_16, e25_16, e33_16] at e1_17 e3_17 e6_17 e23_17 e24_17 e25_17 e37_17; clear e1_16 e3_16 e6_16 e23_16 e24_16 e25_16 e33_16; refine cTt ?_; refine sRg fun K' gd hK => ?_; go_simp; refine hK _ _ ?_; clear hK K' gd; refine Wp.keep [2] ?_; rintro r18 ⟨e2_18, -⟩; simp [go_sem, e1_17, e3_17, e6_17, e23_17, e24_17, e25_17, e37_17] at e2_18; clear e1_17 e3_17 e6_17 e23_17 e24_17 e25_17 e37_17; refine Wp.ret ?_; refine tRe ?_; refine bRe ?_; refine tRe ?_; refine tRe ?_; refine bRe ?_; refine tRe ?_; refine endK_tmp Try.results31 (by decide) ?_; rw [e2_18]; exact ⟨by rw [← hck, chkA, if_neg (not_not_intro h4), if_pos]; rw [List.any_eq_true]; obtain ⟨y, hy, e⟩ := (hix _).1 h5; exact ⟨y, hy, decide_eq_true e⟩, xw⟩
              · skip; refine skN ?_; refine Wp.seq ?_; refine sRg fun K' gd hK => ?_; refine cu4 fun K1 hK1 => ?_; refine Wops.cut 3 fun K2 hK2 => ?_; simp only [tSC, tZ]; go_simp; refine hK2 _ _ ?_; clear hK2 K2; simp only [dSC, dZ]; obtain hrun := hM.look Try.underlying3 Try.underlying4 Try.underlying125 (by kernel_rfl) (wf64 h4.1); rw [decide_eq_false h5] at hrun; refine Wops.law rfl (exec_lookup2 rfl hrun (by go_simp) (by go_simp)) ?_; simp only [updO_some, Wops_nil]; refine hK1 _ _ ?_; clear hK1 K1; try simp only [Wops_nil, updO_some, updO_none]
                refine hK _ _ ?_; clear hK K' gd; refine Wp.keep [1, 3, 6, 23, 24, 25, 37] ?_; rintro r19 ⟨e1_19, e3_19, e6_19, e23_19, e24_19, e25_19, e37_19, -⟩; simp [go_sem, e1_16, e3_16, e6_16, e23_16, e24_16, e25_16, e33_16] at e1_19 e3_19 e6_19 e23_19 e24_19 e25_19 e37_19; clear e1_16 e3_16 e6_16 e23_16 e24_16 e25_16 e33_16; refine cFf ?_; have hck2 : chkA s.n (s.alts.take (k + 1)) (s.alts.drop (k + 1)) = checkS s := by rw [← hck, take_snoc h]; conv => rhs; rw [chkA, if_neg (not_not_intro h4), if_neg (fun e => by rw [List.any_eq_true] at e; obtain ⟨y, hy, e⟩ := e; exact h5 ((hix _).2 ⟨y, hy, of_decide_eq_true e⟩))]
                have hlm : ids.length ≤ 1000 := by omega
                have hLT : ∀ k, some n21 = some k → n21 ≤ k ∧ k < n21 + 1 := fun k e => by injection e with e; subst e; exact ⟨Nat.le_refl _, Nat.lt_succ_self _⟩
                have hE0 : Ext w4 w4.drew := (Ext.refl _).drew; obtain ⟨w7, hrun, hM2, hgr⟩ := (hM.ext hE0).add Try.underlying3 Try.underlying4 Try.underlying125 hlm (wf64 h4.1); have k6 := Chg.cell (grown_chg hgr) (hE0.cell c6_2) (lt_off hLT (by omega)); have k7 := Chg.to (xo.trans hE0) (grown_chg hgr) (lt_ge hLT (by omega)); have k8 := Chg.to (xw.trans hE0) (grown_chg hgr) (lt_ge hLT (by omega)); refine skN ?_; refine Wp.loneDrawT (.inl rfl) mixed (.rd [0, 1, 2] (.both (.act 3 false (.both (.act 4 false (.act 5 true (.act 6 true .done))) (.act 5 true (.act 4 false (.act 6 true .done))))) (.act 5 true (.act 3 false (.act 4 false (.act 6 true .done)))))) (by kernel_rfl) (fun ρ W => AllEq [1, 3, 23, 24, 25] ρ r19 ∧ (ρ 4 = .int .i64 s.alts[k].day ∧ IdMap Try.prog 3 4 W n21 (s.alts[k].id :: ids) ∧ Ext w3 W ∧ Ext w W)) (fun K' gd hK hg => ?_) ?_
                · skip; clear hg; simp only [pickT, nth, List.map_cons, List.map_nil]; apply Mtree.reads
                  · intro w' hE'; have hC' := hE'.cellsS; go_simp; with_reducible rfl
                  repeat' first
                    | refine Mtree.two ?_ ?_
                    | (refine Mtree.fin ?_; refine hK _ _ ⟨by simp [AllEq, go_sem], ?_⟩; exact ⟨by go_simp, hM2, k7, k8⟩)
                    | (refine Mtree.stepT (o := ⟨none, _, _, _, _, _⟩) fun K1 hK1 => ?_; refine if_pos_of rfl (Wstep.lawS (exec_mapUpdate2 rfl hrun (by go_simp) (by go_simp) (by go_simp)) ?_); refine hK1 _ _ ?_; clear hK1 K1)
                    | (refine Mtree.stepT fun K1 hK1 => ?_; go_simp; refine hK1 _ _ ?_; clear hK1 K1)
                    | (refine Mtree.step fun K1 hK1 => ?_; go_simp; refine hK1 _ _ XA ?_; clear hK1 K1)
                · rintro r20 W ⟨hA, e4, hM2, xo, xw⟩; obtain ⟨e1_20, e3_20, e23_20, e24_20, e25_20, -⟩ := hA; rw [e1_19] at e1_20; rw [e3_19] at e3_20; rw [e23_19] at e23_20; rw [e24_19] at e24_20; rw [e25_19] at e25_20; clear e1_19 e3_19 e6_19 e23_19 e24_19 e25_19 e37_19; refine Ends.mk ?_; refine bNo ?_; refine tNo ?_; refine lRg fun K' gd hK => ?_; go_simp; refine hK _ _ ?_; clear hK K' gd; refine Ends.keep [1, 3, 4, 23, 24, 25] ?_; rintro r21 ⟨e1_21, e3_21, e4_21, e23_21, e24_21, e25_21, -⟩; simp [go_sem, e1_20, e3_20, e4, e23_20, e24_20, e25_20] at e1_21 e3_21 e4_21 e23_21 e24_21 e25_21; clear e1_20 e3_20 e4 e23_20 e24_20 e25_20; refine Ends.mk ?_; refine thenK_normal ⟨by omega, ⟨by rw [e1_21, e1_11], by rw [e3_21, e3_11], by rw [e23_21, e23_11], by rw [e24_21, e24_11], trivial⟩, rfl, xo, ?_⟩; exact ⟨_, by rw [e25_21, IntWalk.i64_in _ (by omega)]; rfl, by rw [e4_21, take_snoc h, lastD_snoc], hM2, by simp [hil], fun x => by rw [List.mem_cons, hix, take_snoc h]; simp only [List.mem_append, List.mem_singleton]; constructor; (rintro (rfl | ⟨a, ha, rfl⟩); exact ⟨_, .inr rfl, rfl⟩; exact ⟨a, .inl ha, rfl⟩); (rintro ⟨a, ha | rfl, rfl⟩; exact .inr ⟨a, ha, rfl⟩; exact .inl rfl), hck2⟩
            · skip; refine skN ?_; refine sBk ?_; refine sRg fun K' gd hK => ?_; refine cu4 fun K1 hK1 => ?_; go_simp; refine hK1 _ _ ?_; clear hK1 K1; refine Wops.absA fun V6_7 n6 hV6_7 => ?_; obtain ⟨q6, hV6_7, s6, kV6_7, f6, r6⟩ := hV6_7; try simp only [q6] at kV6_7 f6 r6 ⊢
              replace xw := xw.trans hV6_7; replace c1_0 := hV6_7.cell c1_0; replace c1_1 := hV6_7.cell c1_1; have c6_0 := kV6_7 0 _ rfl; have c6_1 := kV6_7 1 _ rfl; have c6_2 := kV6_7 2 _ rfl; have c6_3 := kV6_7 3 _ rfl; have c6_4 := kV6_7 4 _ rfl; have c6_5 := kV6_7 5 _ rfl; clear kV6_7 hV6_7; clear r6; try simp only [Wops_nil, updO_some, updO_none]
              refine hK _ _ ?_; clear hK K' gd; refine Wp.keep [1, 3, 4, 6, 23, 24, 25] ?_; rintro r22 ⟨e1_22, e3_22, e4_22, e6_22, e23_22, e24_22, e25_22, -⟩; simp [go_sem, e1_13, e3_13, e4_13, e23_13, e24_13, e25_13, e26_13] at e1_22 e3_22 e4_22 e6_22 e23_22 e24_22 e25_22; clear e1_13 e3_13 e4_13 e23_13 e24_13 e25_13 e26_13; refine Wp.seq ?_; refine sRg fun K' gd hK => ?_; refine cu4 fun K1 hK1 => ?_; go_simp; refine Wcall (.inl rfl) (right_F h4 _ (hV.ext xw) hf) ?_; rintro v w4 ⟨rfl, hE⟩; go_simp; refine hK1 _ _ ?_; clear hK1 K1; replace xw := xw.trans hE; clear hE; go_simp; refine hK _ _ ?_; clear hK K' gd; refine Wp.keep [1, 3, 6, 23, 24, 25, 33] ?_; rintro r24 ⟨e1_24, e3_24, e6_24, e23_24, e24_24, e25_24, e33_24, -⟩; simp [go_sem, e1_22, e3_22, e4_22, e6_22, e23_22, e24_22, e25_22] at e1_24 e3_24 e6_24 e23_24 e24_24 e25_24 e33_24; clear e1_22 e3_22 e4_22 e6_22 e23_22 e24_22 e25_22; refine cTt ?_; refine sRg fun K' gd hK => ?_; go_simp; refine hK _ _ ?_; clear hK K' gd; refine Wp.keep [2] ?_; rintro r25 ⟨e2_25, -⟩; simp [go_sem, e1_24, e3_24, e6_24, e23_24, e24_24, e25_24, e33_24] at e2_25; clear e1_24 e3_24 e6_24 e23_24 e24_24 e25_24 e33_24; refine Wp.ret ?_; refine tRe ?_; refine bRe ?_
              refine tRe ?_; refine tRe ?_; refine bRe ?_; refine tRe ?_; refine endK_tmp Try.results31 (by decide) ?_; rw [e2_25]; exact ⟨by rw [← hck, chkA, if_pos h4], xw⟩
          · refine cFf ?_; obtain rfl : k = s.alts.length := by have := List.length_drop (i := k) (l := s.alts); omega
            refine Wp.exit ?_; refine tEx ?_; refine tEx ?_; refine blockK_here ?_; refine tNo ?_; refine sRg fun K' gd hK => ?_; go_simp; refine hK _ _ ?_; clear hK K' gd; refine Wp.keep [2] ?_; rintro r26 ⟨e2_26, -⟩; simp [go_sem, e1_13, e3_13, e4_13, e23_13, e24_13, e25_13, e26_13] at e2_26; clear e1_13 e3_13 e4_13 e23_13 e24_13 e25_13 e26_13; refine Wp.ret ?_; refine endK_tmp Try.results31 (by decide) ?_; rw [e2_26]; exact ⟨by rw [← hck, List.drop_length]; rfl, xw⟩
  · skip; refine sRg fun K' gd hK => ?_; refine cu1 fun K1 hK1 => ?_; go_simp; refine hK1 _ _ ?_; clear hK1 K1; refine Wops.absA fun V1_8 n1 hV1_8 => ?_; obtain ⟨q1, hV1_8, s1, kV1_8, f1, r1⟩ := hV1_8; try simp only [q1] at kV1_8 f1 r1 ⊢
    replace xw := xw.trans hV1_8; have c1_0 := kV1_8 0 _ rfl; clear kV1_8 hV1_8; clear r1; go_simp; refine hK _ _ ?_; clear hK K' gd; refine Wp.keep [1] ?_; rintro r27 ⟨e1_27, -⟩; simp [go_sem, e0_1] at e1_27; clear e0_1; refine Wp.seq ?_; refine sRh fun K' gd hK hg => ?_; have g5 : gd 5 = some 12 := hg 5; clear hg; refine cu4 fun K1 hK1 => ?_; go_simp; refine Wcall (.inl rfl) (within_F h1 _) ?_; rintro v w2 ⟨rfl, hE⟩; go_simp; refine hK1 _ _ ?_; clear hK1 K1; replace xw := xw.trans hE; clear hE; refine cu5 fun K1 hK1 => ?_; go_simp; refine hK1 _ _ ?_; clear hK1 K1; go_simp; refine hK _ _ ?_; clear hK K' gd g5; refine Wp.keep [1, 16] ?_; rintro r29 ⟨e1_29, e16_29, -⟩; simp [go_sem, e1_27] at e1_29 e16_29; clear e1_27; refine cTt ?_; refine sRg fun K' gd hK => ?_; go_simp; refine hK _ _ ?_; clear hK K' gd; refine Wp.keep [2] ?_; rintro r30 ⟨e2_30, -⟩; simp [go_sem, e1_29, e16_29] at e2_30; clear e1_29 e16_29; refine Wp.ret ?_; refine tRe ?_; refine endK_tmp Try.results31 (by decide) ?_; rw [e2_30]; exact ⟨by unfold checkS; rw [if_pos (.inl fun h => h1 (by obtain ⟨-, e⟩ := hn; omega))], xw⟩
def lineS (s : Sh) (i : Int) : Int := if checkS s = 0 then (if 0 ≤ i ∧ i < (s.n : Int) then 0 else 1) else checkS s
theorem valid_c (v u : Value) (s : Sh) (c : Cp) (w : World) (hV : SheetV w w.heap.size v s) (hU : CopyV w w.heap.size u c) (hf : FitS s) (hg : FitC c) :
    CallsV Try.prog 89 #[v, u] w fun v w' => v = .bool (decide (ValidC s c)) ∧ Ext w w' := by
  obtain ⟨wv, av, rfl, ⟨A, c1, rfl, -, -⟩, -⟩ := id hV; obtain ⟨wu, rfl, hW⟩ := id hU; obtain ⟨A2, c2, rfl, -, -⟩ := id hW; have hn : ∃ _u : Unit, s.n = s.words.length := ⟨(), rfl⟩; have hL : ∃ _u : Unit, ((c.words.length : Nat) : Int) = (s.words.length : Int) ↔ c.words.length = s.n := ⟨(), by obtain ⟨-, e⟩ := hn; omega⟩; refine Wp.fn Try.func89 rfl Try.ntmps89 (by simp) ?_; have xw := Ext.refl w; refine Wp.keep [0, 1] ?_; rintro r1 ⟨e0_1, e1_1, -⟩; simp [go_sem] at e0_1 e1_1
  by_cases h1 : (c.words.length : Int) = (s.words.length : Int)
  · skip
    by_cases h2 : c.words.any badC = true
    · skip; refine sRg fun K' gd hK => ?_; refine cu1 fun K1 hK1 => ?_; go_simp; refine hK1 _ _ ?_; clear hK1 K1; refine Wops.absA fun V2_1 n2 hV2_1 => ?_; obtain ⟨q2, hV2_1, s2, kV2_1, f2, r2⟩ := hV2_1; try simp only [q2] at kV2_1 f2 r2 ⊢
      replace xw := xw.trans hV2_1; have c2_0 := kV2_1 0 _ rfl; clear kV2_1 hV2_1; clear r2; refine cu1 fun K1 hK1 => ?_; go_simp; refine hK1 _ _ ?_; clear hK1 K1; refine Wops.absA fun V3_2 n3 hV3_2 => ?_; obtain ⟨q3, hV3_2, s3, kV3_2, f3, r3⟩ := hV3_2; try simp only [q3] at kV3_2 f3 r3 ⊢
      replace xw := xw.trans hV3_2; replace c2_0 := hV3_2.cell c2_0; have c3_0 := kV3_2 0 _ rfl; clear kV3_2 hV3_2; clear r3; go_simp; refine hK _ _ ?_; clear hK K' gd; refine Wp.keep [2, 3] ?_; rintro r2 ⟨e2_2, e3_2, -⟩; simp [go_sem, e0_1, e1_1] at e2_2 e3_2; clear e0_1 e1_1; refine sRg fun K' gd hK => ?_; go_simp; refine hK _ _ ?_; clear hK K' gd; refine Wp.keep [2, 3, 5] ?_; rintro r3 ⟨e2_3, e3_3, e5_3, -⟩; simp [go_sem, e2_2, e3_2] at e2_3 e3_3 e5_3; clear e2_2 e3_2; refine sRh fun K' gd hK hg => ?_; have g7 : gd 7 = some 13 := hg 7; have g14 : gd 14 = some 20 := hg 14; have g21 : gd 21 = some 27 := hg 21; have g26 : gd 26 = some 32 := hg 26; clear hg; refine cu12 fun K1 hK1 => ?_; go_simp; refine Wcall (.inl rfl) (containsI_c _ c.words badC 131 _ (hW.ext xw) hg (enters_of Try.func131 (by kernel_rfl) rfl) (fun x W _ => valid1_c x W)) ?_; rintro v w3 ⟨rfl, hE⟩; go_simp; refine hK1 _ _ ?_; clear hK1 K1; replace xw := xw.trans hE; clear hE; refine cu8 fun K1 hK1 => ?_; go_simp; refine hK1 _ _ ?_; clear hK1 K1; refine cu10 fun K1 hK1 => ?_; go_simp; refine hK1 _ _ ?_; clear hK1 K1; go_simp; refine hK _ _ ?_; clear hK K' gd g7 g14 g21 g26; refine Wp.keep [4] ?_; rintro r5 ⟨e4_5, -⟩; simp [go_sem, e2_3, e3_3, e5_3] at e4_5; clear e2_3 e3_3 e5_3; refine Wp.ret ?_; refine endK_tmp Try.results89 (by decide) ?_; rw [e4_5]; exact ⟨by rw [decide_eq_false fun h => by have := h.2.1; rw [h2] at this; cases this], xw⟩
    · skip
      by_cases h3 : 0 ≤ c.b ∧ c.b ≤ c.e
      · skip
        by_cases h4 : c.e ≤ 730
        · skip
          by_cases h5 : 1 ≤ c.p ∧ c.p ≤ 40
          · skip; refine sRg fun K' gd hK => ?_; refine cu1 fun K1 hK1 => ?_; go_simp; refine hK1 _ _ ?_; clear hK1 K1; refine Wops.absA fun V2_3 n2 hV2_3 => ?_; obtain ⟨q2, hV2_3, s2, kV2_3, f2, r2⟩ := hV2_3; try simp only [q2] at kV2_3 f2 r2 ⊢
            replace xw := xw.trans hV2_3; have c2_0 := kV2_3 0 _ rfl; clear kV2_3 hV2_3; clear r2; refine cu1 fun K1 hK1 => ?_; go_simp; refine hK1 _ _ ?_; clear hK1 K1; refine Wops.absA fun V3_4 n3 hV3_4 => ?_; obtain ⟨q3, hV3_4, s3, kV3_4, f3, r3⟩ := hV3_4; try simp only [q3] at kV3_4 f3 r3 ⊢
            replace xw := xw.trans hV3_4; replace c2_0 := hV3_4.cell c2_0; have c3_0 := kV3_4 0 _ rfl; have c3_1 := kV3_4 1 _ rfl; have c3_2 := kV3_4 2 _ rfl; have c3_3 := kV3_4 3 _ rfl; clear kV3_4 hV3_4; clear r3; go_simp; refine hK _ _ ?_; clear hK K' gd; refine Wp.keep [2, 3] ?_; rintro r6 ⟨e2_6, e3_6, -⟩; simp [go_sem, e0_1, e1_1] at e2_6 e3_6; clear e0_1 e1_1; refine sRg fun K' gd hK => ?_; go_simp; refine hK _ _ ?_; clear hK K' gd; refine Wp.keep [2, 3, 5] ?_; rintro r7 ⟨e2_7, e3_7, e5_7, -⟩; simp [go_sem, e2_6, e3_6] at e2_7 e3_7 e5_7; clear e2_6 e3_6; refine sRh fun K' gd hK hg => ?_; have g7 : gd 7 = some 13 := hg 7; have g14 : gd 14 = some 20 := hg 14; have g21 : gd 21 = some 27 := hg 21; have g26 : gd 26 = some 32 := hg 26; clear hg; refine cu12 fun K1 hK1 => ?_; go_simp; refine Wcall (.inl rfl) (containsI_c _ c.words badC 131 _ (hW.ext xw) hg (enters_of Try.func131 (by kernel_rfl) rfl) (fun x W _ => valid1_c x W)) ?_; rintro v w3 ⟨rfl, hE⟩; go_simp; refine hK1 _ _ ?_; clear hK1 K1; replace xw := xw.trans hE; replace c3_1 := hE.cell c3_1; replace c3_2 := hE.cell c3_2; replace c3_3 := hE.cell c3_3; clear hE; refine cu8 fun K1 hK1 => ?_; go_simp; refine Wcall (.inl rfl) (within_T h3 _) ?_
            rintro v w4 ⟨rfl, hE⟩; go_simp; refine hK1 _ _ ?_; clear hK1 K1; replace xw := xw.trans hE; replace c3_2 := hE.cell c3_2; replace c3_3 := hE.cell c3_3; clear hE; refine cu10 fun K1 hK1 => ?_; go_simp; refine Wcall (.inl rfl) (within_T h5 _) ?_; rintro v w5 ⟨rfl, hE⟩; go_simp; refine hK1 _ _ ?_; clear hK1 K1; replace xw := xw.trans hE; clear hE; go_simp; refine hK _ _ ?_; clear hK K' gd g7 g14 g21 g26; refine Wp.keep [4] ?_; rintro r11 ⟨e4_11, -⟩; simp [go_sem, e2_7, e3_7, e5_7] at e4_11; clear e2_7 e3_7 e5_7; refine Wp.ret ?_; refine endK_tmp Try.results89 (by decide) ?_; rw [e4_11]; exact ⟨by rw [decide_eq_true (show ValidC s c from ⟨hL.choose_spec.1 h1, by simpa using h2, h3, h4, h5⟩)], xw⟩
          · skip; refine sRg fun K' gd hK => ?_; refine cu1 fun K1 hK1 => ?_; go_simp; refine hK1 _ _ ?_; clear hK1 K1; refine Wops.absA fun V2_5 n2 hV2_5 => ?_; obtain ⟨q2, hV2_5, s2, kV2_5, f2, r2⟩ := hV2_5; try simp only [q2] at kV2_5 f2 r2 ⊢
            replace xw := xw.trans hV2_5; have c2_0 := kV2_5 0 _ rfl; clear kV2_5 hV2_5; clear r2; refine cu1 fun K1 hK1 => ?_; go_simp; refine hK1 _ _ ?_; clear hK1 K1; refine Wops.absA fun V3_6 n3 hV3_6 => ?_; obtain ⟨q3, hV3_6, s3, kV3_6, f3, r3⟩ := hV3_6; try simp only [q3] at kV3_6 f3 r3 ⊢
            replace xw := xw.trans hV3_6; replace c2_0 := hV3_6.cell c2_0; have c3_0 := kV3_6 0 _ rfl; have c3_1 := kV3_6 1 _ rfl; have c3_2 := kV3_6 2 _ rfl; have c3_3 := kV3_6 3 _ rfl; clear kV3_6 hV3_6; clear r3; go_simp; refine hK _ _ ?_; clear hK K' gd; refine Wp.keep [2, 3] ?_; rintro r12 ⟨e2_12, e3_12, -⟩; simp [go_sem, e0_1, e1_1] at e2_12 e3_12; clear e0_1 e1_1; refine sRg fun K' gd hK => ?_; go_simp; refine hK _ _ ?_; clear hK K' gd; refine Wp.keep [2, 3, 5] ?_; rintro r13 ⟨e2_13, e3_13, e5_13, -⟩; simp [go_sem, e2_12, e3_12] at e2_13 e3_13 e5_13; clear e2_12 e3_12; refine sRh fun K' gd hK hg => ?_; have g7 : gd 7 = some 13 := hg 7; have g14 : gd 14 = some 20 := hg 14; have g21 : gd 21 = some 27 := hg 21; have g26 : gd 26 = some 32 := hg 26; clear hg; refine cu12 fun K1 hK1 => ?_; go_simp; refine Wcall (.inl rfl) (containsI_c _ c.words badC 131 _ (hW.ext xw) hg (enters_of Try.func131 (by kernel_rfl) rfl) (fun x W _ => valid1_c x W)) ?_; rintro v w3 ⟨rfl, hE⟩; go_simp; refine hK1 _ _ ?_; clear hK1 K1; replace xw := xw.trans hE; replace c3_1 := hE.cell c3_1; replace c3_2 := hE.cell c3_2; replace c3_3 := hE.cell c3_3; clear hE; refine cu8 fun K1 hK1 => ?_; go_simp
            refine Wcall (.inl rfl) (within_T h3 _) ?_; rintro v w4 ⟨rfl, hE⟩; go_simp; refine hK1 _ _ ?_; clear hK1 K1; replace xw := xw.trans hE; replace c3_2 := hE.cell c3_2; replace c3_3 := hE.cell c3_3; clear hE; refine cu10 fun K1 hK1 => ?_; go_simp; refine Wcall (.inl rfl) (within_F h5 _) ?_; rintro v w5 ⟨rfl, hE⟩; go_simp; refine hK1 _ _ ?_; clear hK1 K1; replace xw := xw.trans hE; clear hE; go_simp; refine hK _ _ ?_; clear hK K' gd g7 g14 g21 g26; refine Wp.keep [4] ?_; rintro r17 ⟨e4_17, -⟩; simp [go_sem, e2_13, e3_13, e5_13] at e4_17; clear e2_13 e3_13 e5_13; refine Wp.ret ?_; refine endK_tmp Try.results89 (by decide) ?_; rw [e4_17]; exact ⟨by rw [decide_eq_false fun h => h5 h.2.2.2.2], xw⟩
        · skip; refine sRg fun K' gd hK => ?_; refine cu1 fun K1 hK1 => ?_; go_simp; refine hK1 _ _ ?_; clear hK1 K1; refine Wops.absA fun V2_7 n2 hV2_7 => ?_; obtain ⟨q2, hV2_7, s2, kV2_7, f2, r2⟩ := hV2_7; try simp only [q2] at kV2_7 f2 r2 ⊢
          replace xw := xw.trans hV2_7; have c2_0 := kV2_7 0 _ rfl; clear kV2_7 hV2_7; clear r2; refine cu1 fun K1 hK1 => ?_; go_simp; refine hK1 _ _ ?_; clear hK1 K1; refine Wops.absA fun V3_8 n3 hV3_8 => ?_; obtain ⟨q3, hV3_8, s3, kV3_8, f3, r3⟩ := hV3_8; try simp only [q3] at kV3_8 f3 r3 ⊢
          replace xw := xw.trans hV3_8; replace c2_0 := hV3_8.cell c2_0; have c3_0 := kV3_8 0 _ rfl; have c3_1 := kV3_8 1 _ rfl; have c3_2 := kV3_8 2 _ rfl; clear kV3_8 hV3_8; clear r3; go_simp; refine hK _ _ ?_; clear hK K' gd; refine Wp.keep [2, 3] ?_; rintro r18 ⟨e2_18, e3_18, -⟩; simp [go_sem, e0_1, e1_1] at e2_18 e3_18; clear e0_1 e1_1; refine sRg fun K' gd hK => ?_; go_simp; refine hK _ _ ?_; clear hK K' gd; refine Wp.keep [2, 3, 5] ?_; rintro r19 ⟨e2_19, e3_19, e5_19, -⟩; simp [go_sem, e2_18, e3_18] at e2_19 e3_19 e5_19; clear e2_18 e3_18; refine sRh fun K' gd hK hg => ?_; have g7 : gd 7 = some 13 := hg 7; have g14 : gd 14 = some 20 := hg 14; have g21 : gd 21 = some 27 := hg 21; have g26 : gd 26 = some 32 := hg 26; clear hg; refine cu12 fun K1 hK1 => ?_; go_simp; refine Wcall (.inl rfl) (containsI_c _ c.words badC 131 _ (hW.ext xw) hg (enters_of Try.func131 (by kernel_rfl) rfl) (fun x W _ => valid1_c x W)) ?_; rintro v w3 ⟨rfl, hE⟩; go_simp; refine hK1 _ _ ?_; clear hK1 K1; replace xw := xw.trans hE; replace c3_1 := hE.cell c3_1; replace c3_2 := hE.cell c3_2; clear hE; refine cu8 fun K1 hK1 => ?_; go_simp; refine Wcall (.inl rfl) (within_T h3 _) ?_; rintro v w4 ⟨rfl, hE⟩
          go_simp; refine hK1 _ _ ?_; clear hK1 K1; replace xw := xw.trans hE; replace c3_2 := hE.cell c3_2; clear hE; refine cu10 fun K1 hK1 => ?_; go_simp; refine hK1 _ _ ?_; clear hK1 K1; go_simp; refine hK _ _ ?_; clear hK K' gd g7 g14 g21 g26; refine Wp.keep [4] ?_; rintro r22 ⟨e4_22, -⟩; simp [go_sem, e2_19, e3_19, e5_19] at e4_22; clear e2_19 e3_19 e5_19; refine Wp.ret ?_; refine endK_tmp Try.results89 (by decide) ?_; rw [e4_22]; exact ⟨by rw [decide_eq_false fun h => h4 h.2.2.2.1], xw⟩
      · skip; refine sRg fun K' gd hK => ?_; refine cu1 fun K1 hK1 => ?_; go_simp; refine hK1 _ _ ?_; clear hK1 K1; refine Wops.absA fun V2_9 n2 hV2_9 => ?_; obtain ⟨q2, hV2_9, s2, kV2_9, f2, r2⟩ := hV2_9; try simp only [q2] at kV2_9 f2 r2 ⊢
        replace xw := xw.trans hV2_9; have c2_0 := kV2_9 0 _ rfl; clear kV2_9 hV2_9; clear r2; refine cu1 fun K1 hK1 => ?_; go_simp; refine hK1 _ _ ?_; clear hK1 K1; refine Wops.absA fun V3_10 n3 hV3_10 => ?_; obtain ⟨q3, hV3_10, s3, kV3_10, f3, r3⟩ := hV3_10; try simp only [q3] at kV3_10 f3 r3 ⊢
        replace xw := xw.trans hV3_10; replace c2_0 := hV3_10.cell c2_0; have c3_0 := kV3_10 0 _ rfl; have c3_1 := kV3_10 1 _ rfl; have c3_2 := kV3_10 2 _ rfl; clear kV3_10 hV3_10; clear r3; go_simp; refine hK _ _ ?_; clear hK K' gd; refine Wp.keep [2, 3] ?_; rintro r23 ⟨e2_23, e3_23, -⟩; simp [go_sem, e0_1, e1_1] at e2_23 e3_23; clear e0_1 e1_1; refine sRg fun K' gd hK => ?_; go_simp; refine hK _ _ ?_; clear hK K' gd; refine Wp.keep [2, 3, 5] ?_; rintro r24 ⟨e2_24, e3_24, e5_24, -⟩; simp [go_sem, e2_23, e3_23] at e2_24 e3_24 e5_24; clear e2_23 e3_23; refine sRh fun K' gd hK hg => ?_; have g7 : gd 7 = some 13 := hg 7; have g14 : gd 14 = some 20 := hg 14; have g21 : gd 21 = some 27 := hg 21; have g26 : gd 26 = some 32 := hg 26; clear hg; refine cu12 fun K1 hK1 => ?_; go_simp; refine Wcall (.inl rfl) (containsI_c _ c.words badC 131 _ (hW.ext xw) hg (enters_of Try.func131 (by kernel_rfl) rfl) (fun x W _ => valid1_c x W)) ?_; rintro v w3 ⟨rfl, hE⟩; go_simp; refine hK1 _ _ ?_; clear hK1 K1; replace xw := xw.trans hE; replace c3_1 := hE.cell c3_1; replace c3_2 := hE.cell c3_2; clear hE; refine cu8 fun K1 hK1 => ?_; go_simp; refine Wcall (.inl rfl) (within_F h3 _) ?_; rintro v w4 ⟨rfl, hE⟩
        go_simp; refine hK1 _ _ ?_; clear hK1 K1; replace xw := xw.trans hE; clear hE; refine cu10 fun K1 hK1 => ?_; go_simp; refine hK1 _ _ ?_; clear hK1 K1; go_simp; refine hK _ _ ?_; clear hK K' gd g7 g14 g21 g26; refine Wp.keep [4] ?_; rintro r27 ⟨e4_27, -⟩; simp [go_sem, e2_24, e3_24, e5_24] at e4_27; clear e2_24 e3_24 e5_24; refine Wp.ret ?_; refine endK_tmp Try.results89 (by decide) ?_; rw [e4_27]; exact ⟨by rw [decide_eq_false fun h => h3 h.2.2.1], xw⟩
  · skip; refine sRg fun K' gd hK => ?_; refine cu1 fun K1 hK1 => ?_; go_simp; refine hK1 _ _ ?_; clear hK1 K1; refine Wops.absA fun V2_11 n2 hV2_11 => ?_; obtain ⟨q2, hV2_11, s2, kV2_11, f2, r2⟩ := hV2_11; try simp only [q2] at kV2_11 f2 r2 ⊢
    replace xw := xw.trans hV2_11; have c2_0 := kV2_11 0 _ rfl; clear kV2_11 hV2_11; clear r2; refine cu1 fun K1 hK1 => ?_; go_simp; refine hK1 _ _ ?_; clear hK1 K1; refine Wops.absA fun V3_12 n3 hV3_12 => ?_; obtain ⟨q3, hV3_12, s3, kV3_12, f3, r3⟩ := hV3_12; try simp only [q3] at kV3_12 f3 r3 ⊢
    replace xw := xw.trans hV3_12; replace c2_0 := hV3_12.cell c2_0; have c3_0 := kV3_12 0 _ rfl; clear kV3_12 hV3_12; clear r3; go_simp; refine hK _ _ ?_; clear hK K' gd; refine Wp.keep [2, 3] ?_; rintro r28 ⟨e2_28, e3_28, -⟩; simp [go_sem, e0_1, e1_1] at e2_28 e3_28; clear e0_1 e1_1; refine sRg fun K' gd hK => ?_; go_simp; refine hK _ _ ?_; clear hK K' gd; refine Wp.keep [2, 3, 5] ?_; rintro r29 ⟨e2_29, e3_29, e5_29, -⟩; simp [go_sem, e2_28, e3_28] at e2_29 e3_29 e5_29; clear e2_28 e3_28; refine sRh fun K' gd hK hg => ?_; have g7 : gd 7 = some 13 := hg 7; have g14 : gd 14 = some 20 := hg 14; have g21 : gd 21 = some 27 := hg 21; have g26 : gd 26 = some 32 := hg 26; clear hg; refine cu12 fun K1 hK1 => ?_; go_simp; refine hK1 _ _ ?_; clear hK1 K1; refine cu8 fun K1 hK1 => ?_; go_simp; refine hK1 _ _ ?_; clear hK1 K1; refine cu10 fun K1 hK1 => ?_; go_simp; refine hK1 _ _ ?_; clear hK1 K1; go_simp; refine hK _ _ ?_; clear hK K' gd g7 g14 g21 g26; refine Wp.keep [4] ?_; rintro r30 ⟨e4_30, -⟩; simp [go_sem, e2_29, e3_29, e5_29] at e4_30
    clear e2_29 e3_29 e5_29; refine Wp.ret ?_; refine endK_tmp Try.results89 (by decide) ?_; rw [e4_30]; exact ⟨by rw [decide_eq_false fun h => h1 (hL.choose_spec.2 h.1)], xw⟩
theorem copy_c (v u : Value) (s : Sh) (c : Cp) (w : World) (hV : SheetV w w.heap.size v s) (hU : CopyV w w.heap.size u c) (hf : FitS s) (hg : FitC c) :
    CallsV Try.prog 33 #[v, u] w fun v w' => v = .int .i64 (copyS s c) ∧ Ext w w' := by
  obtain ⟨wv, av, rfl, ⟨A, c1, rfl, -, -⟩, ⟨A3, c3, rfl, -, -⟩⟩ := id hV; obtain ⟨wu, rfl, ⟨A2, c2, rfl, -, -⟩⟩ := id hU; refine Wp.fn Try.func33 rfl Try.ntmps33 (by simp) ?_; have xw := Ext.refl w; refine Wp.keep [0, 1] ?_; rintro r1 ⟨e0_1, e1_1, -⟩; simp [go_sem] at e0_1 e1_1; refine sRg fun K' gd hK => ?_; refine cu1 fun K1 hK1 => ?_; go_simp; refine hK1 _ _ ?_; clear hK1 K1; refine Wops.absA fun V2_1 n2 hV2_1 => ?_; obtain ⟨q2, hV2_1, s2, kV2_1, f2, r2⟩ := hV2_1; try simp only [q2] at kV2_1 f2 r2 ⊢
  replace xw := xw.trans hV2_1; have c2_0 := kV2_1 0 _ rfl; have c2_1 := kV2_1 1 _ rfl; clear kV2_1 hV2_1; clear r2; refine cu1 fun K1 hK1 => ?_; go_simp; refine hK1 _ _ ?_; clear hK1 K1; refine Wops.absA fun V3_2 n3 hV3_2 => ?_; obtain ⟨q3, hV3_2, s3, kV3_2, f3, r3⟩ := hV3_2; try simp only [q3] at kV3_2 f3 r3 ⊢
  replace xw := xw.trans hV3_2; replace c2_0 := hV3_2.cell c2_0; replace c2_1 := hV3_2.cell c2_1; have c3_0 := kV3_2 0 _ rfl; have c3_1 := kV3_2 1 _ rfl; have c3_2 := kV3_2 2 _ rfl; have c3_3 := kV3_2 3 _ rfl; clear kV3_2 hV3_2; clear r3; go_simp; refine hK _ _ ?_; clear hK K' gd; refine Wp.keep [2, 3] ?_; rintro r2 ⟨e2_2, e3_2, -⟩; simp [go_sem, e0_1, e1_1] at e2_2 e3_2; clear e0_1 e1_1; refine Wp.seq ?_; refine sRg fun K' gd hK => ?_; refine cu2 fun K1 hK1 => ?_; go_simp; refine Wcall (.inl rfl) (check_c _ s _ (hV.ext xw) hf) ?_; rintro v w2 ⟨rfl, hE⟩; go_simp; refine hK1 _ _ ?_; clear hK1 K1; replace xw := xw.trans hE; replace c2_0 := hE.cell c2_0; replace c2_1 := hE.cell c2_1; replace c3_0 := hE.cell c3_0; replace c3_1 := hE.cell c3_1; replace c3_2 := hE.cell c3_2; replace c3_3 := hE.cell c3_3; clear hE; go_simp; refine hK _ _ ?_; clear hK K' gd; refine Wp.keep [2, 3, 5] ?_; rintro r4 ⟨e2_4, e3_4, e5_4, -⟩; simp [go_sem, e2_2, e3_2] at e2_4 e3_4 e5_4; clear e2_2 e3_2
  by_cases h0 : checkS s = 0
  · skip; refine sRg fun K' gd hK => ?_; go_simp; refine hK _ _ ?_; clear hK K' gd; refine Wp.keep [2, 3, 5, 9] ?_; rintro r5 ⟨e2_5, e3_5, e5_5, e9_5, -⟩; simp [go_sem, e2_4, e3_4, e5_4] at e2_5 e3_5 e5_5 e9_5; clear e2_4 e3_4 e5_4; refine cFf ?_; refine skN ?_; refine Wp.seq ?_; refine sRg fun K' gd hK => ?_; refine cu3 fun K1 hK1 => ?_; go_simp; refine Wcall (.inl rfl) (valid_c _ _ s c _ (hV.ext xw) (hU.ext xw) hf hg) ?_; rintro v w3 ⟨rfl, hE⟩; go_simp; refine hK1 _ _ ?_; clear hK1 K1; replace xw := xw.trans hE; clear hE; go_simp; refine hK _ _ ?_; clear hK K' gd; refine Wp.keep [14] ?_; rintro r7 ⟨e14_7, -⟩; simp [go_sem, e2_5, e3_5, e5_5, e9_5] at e14_7; clear e2_5 e3_5 e5_5 e9_5
    by_cases h1 : ValidC s c
    · skip; refine cFf ?_; refine skN ?_; refine sRg fun K' gd hK => ?_; go_simp; refine hK _ _ ?_; clear hK K' gd; refine Wp.keep [4] ?_; rintro r8 ⟨e4_8, -⟩; simp [go_sem, e14_7] at e4_8; clear e14_7; refine Wp.ret ?_; refine endK_tmp Try.results33 (by decide) ?_; rw [e4_8]; exact ⟨by rw [copyS, if_pos h0, if_pos h1], xw⟩
    · skip; refine cTt ?_; refine sRg fun K' gd hK => ?_; go_simp; refine hK _ _ ?_; clear hK K' gd; refine Wp.keep [4] ?_; rintro r9 ⟨e4_9, -⟩; simp [go_sem, e14_7] at e4_9; clear e14_7; refine Wp.ret ?_; refine tRe ?_; refine endK_tmp Try.results33 (by decide) ?_; rw [e4_9]; exact ⟨by rw [copyS, if_pos h0, if_neg h1], xw⟩
  · skip; refine sRg fun K' gd hK => ?_; go_simp; refine hK _ _ ?_; clear hK K' gd; refine Wp.keep [2, 3, 5, 9] ?_; rintro r10 ⟨e2_10, e3_10, e5_10, e9_10, -⟩; simp [go_sem, e2_4, e3_4, e5_4] at e2_10 e3_10 e5_10 e9_10; clear e2_4 e3_4 e5_4; refine cTt ?_; refine sRg fun K' gd hK => ?_; go_simp; refine hK _ _ ?_; clear hK K' gd; refine Wp.keep [4] ?_; rintro r11 ⟨e4_11, -⟩; simp [go_sem, e2_10, e3_10, e5_10, e9_10] at e4_11; clear e2_10 e3_10 e5_10 e9_10; refine Wp.ret ?_; refine tRe ?_; refine endK_tmp Try.results33 (by decide) ?_; rw [e4_11]; exact ⟨by rw [copyS, if_neg h0], xw⟩
theorem line_c (v : Value) (s : Sh) (i : Int) (w : World) (hV : SheetV w w.heap.size v s) (hf : FitS s) :
    CallsV Try.prog 75 #[v, .int .i64 i] w fun v w' => v = .int .i64 (lineS s i) ∧ Ext w w' := by
  obtain ⟨wv, av, rfl, ⟨A, c1, rfl, -, -⟩, ⟨A3, c3, rfl, -, -⟩⟩ := id hV; have hw1 : IntKind.i64.wrap ((s.words.length : Int) - 1) = (s.words.length : Int) - 1 := IntWalk.i64_in _ (by have := hf.1; omega); refine Wp.fn Try.func75 rfl Try.ntmps75 (by simp) ?_; have xw := Ext.refl w; refine Wp.keep [0, 1] ?_; rintro r1 ⟨e0_1, e1_1, -⟩; simp [go_sem] at e0_1 e1_1; refine sRg fun K' gd hK => ?_; refine cu1 fun K1 hK1 => ?_; go_simp; refine hK1 _ _ ?_; clear hK1 K1; refine Wops.absA fun V2_1 n2 hV2_1 => ?_; obtain ⟨q2, hV2_1, s2, kV2_1, f2, r2⟩ := hV2_1; try simp only [q2] at kV2_1 f2 r2 ⊢
  replace xw := xw.trans hV2_1; have c2_0 := kV2_1 0 _ rfl; have c2_1 := kV2_1 1 _ rfl; clear kV2_1 hV2_1; clear r2; go_simp; refine hK _ _ ?_; clear hK K' gd; refine Wp.keep [1, 2] ?_; rintro r2 ⟨e1_2, e2_2, -⟩; simp [go_sem, e0_1, e1_1] at e1_2 e2_2; clear e0_1 e1_1; refine Wp.seq ?_; refine sRg fun K' gd hK => ?_; refine cu2 fun K1 hK1 => ?_; go_simp; refine Wcall (.inl rfl) (check_c _ s _ (hV.ext xw) hf) ?_; rintro v w2 ⟨rfl, hE⟩; go_simp; refine hK1 _ _ ?_; clear hK1 K1; replace xw := xw.trans hE; replace c2_0 := hE.cell c2_0; clear hE; go_simp; refine hK _ _ ?_; clear hK K' gd; refine Wp.keep [1, 2, 5] ?_; rintro r4 ⟨e1_4, e2_4, e5_4, -⟩; simp [go_sem, e1_2, e2_2] at e1_4 e2_4 e5_4; clear e1_2 e2_2
  by_cases h0 : checkS s = 0
  · skip; refine sRg fun K' gd hK => ?_; go_simp; refine hK _ _ ?_; clear hK K' gd; refine Wp.keep [1, 2, 5, 9] ?_; rintro r5 ⟨e1_5, e2_5, e5_5, e9_5, -⟩; simp [go_sem, e1_4, e2_4, e5_4] at e1_5 e2_5 e5_5 e9_5; clear e1_4 e2_4 e5_4; refine cFf ?_
    by_cases h1 : 0 ≤ i ∧ i ≤ (s.words.length : Int) - 1
    · skip; refine skN ?_; refine Wp.seq ?_; refine sRg fun K' gd hK => ?_; refine cu6 fun K1 hK1 => ?_; go_simp; refine Wcall (.inl rfl) (within_T h1 _) ?_; rintro v w3 ⟨rfl, hE⟩; go_simp; refine hK1 _ _ ?_; clear hK1 K1; replace xw := xw.trans hE; clear hE; go_simp; refine hK _ _ ?_; clear hK K' gd; refine Wp.keep [17] ?_; rintro r7 ⟨e17_7, -⟩; simp [go_sem, e1_5, e2_5, e5_5, e9_5] at e17_7; clear e1_5 e2_5 e5_5 e9_5; refine cFf ?_; refine skN ?_; refine sRg fun K' gd hK => ?_; go_simp; refine hK _ _ ?_; clear hK K' gd; refine Wp.keep [4] ?_; rintro r8 ⟨e4_8, -⟩; simp [go_sem, e17_7] at e4_8; clear e17_7; refine Wp.ret ?_; refine endK_tmp Try.results75 (by decide) ?_; rw [e4_8]; exact ⟨by unfold lineS Sh.n; rw [if_pos h0, if_pos (by omega)], xw⟩
    · skip; refine skN ?_; refine Wp.seq ?_; refine sRg fun K' gd hK => ?_; refine cu6 fun K1 hK1 => ?_; go_simp; refine Wcall (.inl rfl) (within_F h1 _) ?_; rintro v w3 ⟨rfl, hE⟩; go_simp; refine hK1 _ _ ?_; clear hK1 K1; replace xw := xw.trans hE; clear hE; go_simp; refine hK _ _ ?_; clear hK K' gd; refine Wp.keep [17] ?_; rintro r10 ⟨e17_10, -⟩; simp [go_sem, e1_5, e2_5, e5_5, e9_5] at e17_10; clear e1_5 e2_5 e5_5 e9_5; refine cTt ?_; refine sRg fun K' gd hK => ?_; go_simp; refine hK _ _ ?_; clear hK K' gd; refine Wp.keep [4] ?_; rintro r11 ⟨e4_11, -⟩; simp [go_sem, e17_10] at e4_11; clear e17_10; refine Wp.ret ?_; refine tRe ?_; refine endK_tmp Try.results75 (by decide) ?_; rw [e4_11]; exact ⟨by unfold lineS Sh.n; rw [if_pos h0, if_neg (by omega)], xw⟩
  · skip; refine sRg fun K' gd hK => ?_; go_simp; refine hK _ _ ?_; clear hK K' gd; refine Wp.keep [1, 2, 5, 9] ?_; rintro r12 ⟨e1_12, e2_12, e5_12, e9_12, -⟩; simp [go_sem, e1_4, e2_4, e5_4] at e1_12 e2_12 e5_12 e9_12; clear e1_4 e2_4 e5_4; refine cTt ?_; refine sRg fun K' gd hK => ?_; go_simp; refine hK _ _ ?_; clear hK K' gd; refine Wp.keep [4] ?_; rintro r13 ⟨e4_13, -⟩; simp [go_sem, e1_12, e2_12, e5_12, e9_12] at e4_13; clear e1_12 e2_12 e5_12 e9_12; refine Wp.ret ?_; refine tRe ?_; refine endK_tmp Try.results75 (by decide) ?_; rw [e4_13]; exact ⟨by unfold lineS; rw [if_neg h0], xw⟩
theorem eqW (d : Nat) (a b a' b' : Int) (w : World) : (Op.equalIn (d + 2) 115 (.agg #[.int .i64 a, .int .i64 b]) (.agg #[.int .i64 a', .int .i64 b'])).run Try.prog w = .ok (decide (a = a') && decide (b = b')) w := by
  have e0 : ∀ (x y : Int) w, (Op.equalIn (d + 1) 3 (.int .i64 x) (.int .i64 y)).run Try.prog w = .ok (x == y) w := fun x y w => run_equalIn_int w d _ .i64 .i64 x y Try.underlying3; unfold Op.equalIn; simp [run_underlying Try.underlying115, List.range']
  by_cases h1 : a = a' <;> by_cases h2 : b = b' <;> simp [go_sem, e0, h1, h2]
@[go_sem] theorem eqW_run (a b a' b' : Int) (w : World) : (binOp .eql 115 (.agg #[.int .i64 a, .int .i64 b]) (.agg #[.int .i64 a', .int .i64 b'])).run Try.prog w = .ok (.bool (decide (a = a') && decide (b = b'))) w := by
  rw [run_eql_struct, eqW 9998]; rfl
@[go_sem] theorem eqW10 (a b a' b' : Int) (w : World) : (Op.equalIn 10000 115 (.agg #[.int .i64 a, .int .i64 b]) (.agg #[.int .i64 a', .int .i64 b'])).run Try.prog w = .ok (decide (a = a') && decide (b = b')) w := eqW 9998 a b a' b' w
@[go_sem] theorem eqW99 (a b a' b' : Int) (w : World) : (Op.equalIn 9999 115 (.agg #[.int .i64 a, .int .i64 b]) (.agg #[.int .i64 a', .int .i64 b'])).run Try.prog w = .ok (decide (a = a') && decide (b = b')) w := eqW 9997 a b a' b' w
@[go_sem] theorem eqF10 (a b a' b' : Int) (l l' : Bool) (w : World) : (Op.equalIn 10000 117 (.agg #[.int .i64 a, .int .i64 b, .bool l]) (.agg #[.int .i64 a', .int .i64 b', .bool l'])).run Try.prog w = .ok (decide (((a, b, l) : Face) = (a', b', l'))) w := by
  have e0 : ∀ (x y : Bool) w, (Op.equalIn 9999 4 (.bool x) (.bool y)).run Try.prog w = .ok (x == y) w := fun x y w => run_equalIn_bool' w 9998 _ x y Try.underlying4; rw [run_equalIn_agg w 9999 _ _ _ (by kernel_rfl) (by kernel_rfl)]; simp only [Program.fieldsOf, Try.underlying117]
  by_cases h1 : a = a' <;> by_cases h2 : b = b' <;> by_cases h3 : l = l' <;> simp [go_sem, Op.eqFields, eqW 9997, e0, h1, h2, h3]
@[go_sem] theorem eqF_run (a b a' b' : Int) (l l' : Bool) (w : World) : (binOp .eql 117 (.agg #[.int .i64 a, .int .i64 b, .bool l]) (.agg #[.int .i64 a', .int .i64 b', .bool l'])).run Try.prog w = .ok (.bool (decide (((a, b, l) : Face) = (a', b', l')))) w := by
  rw [run_eql_struct, eqF10]; rfl
theorem after_c (x y : Int) (z : Bool) (a : Alt) (w : World) :
    CallsV Try.prog 127 #[.agg #[.int .i64 x, .int .i64 y, .bool z], .agg #[.int .i64 a.id, .int .i64 a.kind, .int .i64 a.day, .int .i64 a.frm, .int .i64 a.tu, .int .i64 a.word]] w fun v w' =>
      v = .agg #[.int .i64 (aft (x, y, z) a).1, .int .i64 (aft (x, y, z) a).2.1, .bool (aft (x, y, z) a).2.2] ∧ Ext w w' := by
  refine Wp.fn Try.func127 rfl Try.ntmps127 (by simp) ?_; have xw := Ext.refl w; refine Wp.keep [0, 1] ?_; rintro r1 ⟨e0_1, e1_1, -⟩; simp [go_sem] at e0_1 e1_1
  by_cases h0 : z = true
  · skip; subst h0; refine sRg fun K' gd hK => ?_; refine cu1 fun K1 hK1 => ?_; go_simp; refine hK1 _ _ ?_; clear hK1 K1; refine Wops.absA fun V2_1 n2 hV2_1 => ?_; obtain ⟨q2, hV2_1, s2, kV2_1, f2, r2⟩ := hV2_1; try simp only [q2] at kV2_1 f2 r2 ⊢
    replace xw := xw.trans hV2_1; have c2_0 := kV2_1 0 _ rfl; have c2_1 := kV2_1 1 _ rfl; have c2_2 := kV2_1 2 _ rfl; clear kV2_1 hV2_1; clear r2; refine cu1 fun K1 hK1 => ?_; go_simp; refine hK1 _ _ ?_; clear hK1 K1; refine Wops.absA fun V3_2 n3 hV3_2 => ?_; obtain ⟨q3, hV3_2, s3, kV3_2, f3, r3⟩ := hV3_2; try simp only [q3] at kV3_2 f3 r3 ⊢
    replace xw := xw.trans hV3_2; replace c2_0 := hV3_2.cell c2_0; replace c2_1 := hV3_2.cell c2_1; replace c2_2 := hV3_2.cell c2_2; clear kV3_2 hV3_2; clear r3; refine cu1 fun K1 hK1 => ?_; go_simp; refine hK1 _ _ ?_; clear hK1 K1; refine Wops.absA fun V4_3 n4 hV4_3 => ?_; obtain ⟨q4, hV4_3, s4, kV4_3, f4, r4⟩ := hV4_3; try simp only [q4] at kV4_3 f4 r4 ⊢
    replace xw := xw.trans hV4_3; replace c2_0 := hV4_3.cell c2_0; replace c2_1 := hV4_3.cell c2_1; replace c2_2 := hV4_3.cell c2_2; have c4_0 := kV4_3 0 _ rfl; have c4_1 := kV4_3 1 _ rfl; have c4_2 := kV4_3 2 _ rfl; clear kV4_3 hV4_3; clear r4; try simp only [Wops_nil, updO_some, updO_none]
    refine hK _ _ ?_; clear hK K' gd; refine Wp.keep [2, 3, 4] ?_; rintro r2 ⟨e2_2, e3_2, e4_2, -⟩; simp [go_sem, e0_1, e1_1] at e2_2 e3_2 e4_2; clear e0_1 e1_1; refine Wp.seq ?_; refine sRg fun K' gd hK => ?_; go_simp; refine hK _ _ ?_; clear hK K' gd; refine Wp.keep [2, 3, 4, 6] ?_; rintro r3 ⟨e2_3, e3_3, e4_3, e6_3, -⟩; simp [go_sem, e2_2, e3_2, e4_2] at e2_3 e3_3 e4_3 e6_3; clear e2_2 e3_2 e4_2; refine cTt ?_; refine sRg fun K' gd hK => ?_; refine cu2 fun K1 hK1 => ?_; go_simp; refine hK1 _ _ ?_; clear hK1 K1; refine Wops.absS (b := n4) (i := 0) [_, _, _] (somes [cellVal c4_0, cellVal c4_1, cellVal c4_2] (by simp) (by intro j v hj; match j, hj with | 0, hj => (simp at hj; subst hj; exact c4_0) | 1, hj => (simp at hj; subst hj; exact c4_1) | 2, hj => (simp at hj; subst hj; exact c4_2))) fun P4 hP4 => ?_; replace xw := Put.to xw hP4 (by omega); clear c4_0; clear c4_1; clear c4_2; have c4_0 := hP4.new 0 _ rfl; try simp only [Nat.reduceAdd, Nat.zero_add, Nat.add_zero] at c4_0
    have c4_1 := hP4.new 1 _ rfl; try simp only [Nat.reduceAdd, Nat.zero_add, Nat.add_zero] at c4_1
    have c4_2 := hP4.new 2 _ rfl; try simp only [Nat.reduceAdd, Nat.zero_add, Nat.add_zero] at c4_2
    clear hP4; try simp only [Wops_nil, updO_some, updO_none]
    refine hK _ _ ?_; clear hK K' gd; refine Wp.keep [4] ?_; rintro r4 ⟨e4_4, -⟩; simp [go_sem, e2_3, e3_3, e4_3, e6_3] at e4_4; clear e2_3 e3_3 e4_3 e6_3; refine Wp.ret ?_; refine tRe ?_; refine endK_cell (v := .agg #[cellVal c4_0, cellVal c4_1, cellVal c4_2]) Try.results127 (by decide) e4_4 (by dsimp only [cellVal]; go_simp) ?_
    dsimp only [cellVal]
    exact ⟨by simp [aft], xw⟩
  · skip; obtain rfl : z = false := by simpa using h0
    refine sRg fun K' gd hK => ?_; refine cu1 fun K1 hK1 => ?_; go_simp; refine hK1 _ _ ?_; clear hK1 K1; refine Wops.absA fun V2_5 n2 hV2_5 => ?_; obtain ⟨q2, hV2_5, s2, kV2_5, f2, r2⟩ := hV2_5; try simp only [q2] at kV2_5 f2 r2 ⊢
    replace xw := xw.trans hV2_5; have c2_0 := kV2_5 0 _ rfl; have c2_1 := kV2_5 1 _ rfl; have c2_2 := kV2_5 2 _ rfl; clear kV2_5 hV2_5; clear r2; refine cu1 fun K1 hK1 => ?_; go_simp; refine hK1 _ _ ?_; clear hK1 K1; refine Wops.absA fun V3_6 n3 hV3_6 => ?_; obtain ⟨q3, hV3_6, s3, kV3_6, f3, r3⟩ := hV3_6; try simp only [q3] at kV3_6 f3 r3 ⊢
    replace f2 := hV3_6.fz c2_0 f2; replace xw := xw.trans hV3_6; replace c2_0 := hV3_6.cell c2_0; replace c2_1 := hV3_6.cell c2_1; replace c2_2 := hV3_6.cell c2_2; have c3_1 := kV3_6 1 _ rfl; have c3_5 := kV3_6 5 _ rfl; clear kV3_6 hV3_6; clear r3; refine cu1 fun K1 hK1 => ?_; go_simp; refine hK1 _ _ ?_; clear hK1 K1; refine Wops.absA fun V4_7 n4 hV4_7 => ?_; obtain ⟨q4, hV4_7, s4, kV4_7, f4, r4⟩ := hV4_7; try simp only [q4] at kV4_7 f4 r4 ⊢
    replace f2 := hV4_7.fz c2_0 f2; replace xw := xw.trans hV4_7; replace c2_0 := hV4_7.cell c2_0; replace c2_1 := hV4_7.cell c2_1; replace c2_2 := hV4_7.cell c2_2; replace c3_1 := hV4_7.cell c3_1; replace c3_5 := hV4_7.cell c3_5; have c4_0 := kV4_7 0 _ rfl; have c4_1 := kV4_7 1 _ rfl; have c4_2 := kV4_7 2 _ rfl; clear kV4_7 hV4_7; clear r4; try simp only [Wops_nil, updO_some, updO_none]
    refine hK _ _ ?_; clear hK K' gd; refine Wp.keep [2, 3, 4] ?_; rintro r5 ⟨e2_5, e3_5, e4_5, -⟩; simp [go_sem, e0_1, e1_1] at e2_5 e3_5 e4_5; clear e0_1 e1_1; refine Wp.seq ?_; refine sRg fun K' gd hK => ?_; go_simp; refine hK _ _ ?_; clear hK K' gd; refine Wp.keep [2, 3, 4, 6] ?_; rintro r6 ⟨e2_6, e3_6, e4_6, e6_6, -⟩; simp [go_sem, e2_5, e3_5, e4_5] at e2_6 e3_6 e4_6 e6_6; clear e2_5 e3_5 e4_5; refine cFf ?_; refine skN ?_; refine Wp.seq ?_; refine sRg fun K' gd hK => ?_; go_simp; refine hK _ _ ?_; clear hK K' gd; refine Wp.keep [2, 3, 4, 9] ?_; rintro r7 ⟨e2_7, e3_7, e4_7, e9_7, -⟩; simp [go_sem, e2_6, e3_6, e4_6, e6_6] at e2_7 e3_7 e4_7 e9_7; clear e2_6 e3_6 e4_6 e6_6; refine Wp.block ?_; refine sRg fun K' gd hK => ?_; go_simp; refine hK _ _ ?_; clear hK K' gd; refine Wp.keep [2, 3, 4, 9, 10] ?_; rintro r8 ⟨e2_8, e3_8, e4_8, e9_8, e10_8, -⟩; simp [go_sem, e2_7, e3_7, e4_7, e9_7] at e2_8 e3_8 e4_8 e9_8 e10_8; clear e2_7 e3_7 e4_7 e9_7
    by_cases k1 : a.kind = 1
    · refine cTt ?_; refine lRg fun K' gd hK => ?_; refine cu3 fun K1 hK1 => ?_; go_simp; refine hK1 _ _ ?_; clear hK1 K1; refine Wops.absS (b := n2) (i := 0) [_] (somes [cellVal c2_0] (by simp) (by intro j v hj; match j, hj with | 0, hj => (simp at hj; subst hj; exact c2_0))) fun P8 hP8 => ?_; replace f4 := hP8.frz f4; replace xw := Put.to xw hP8 (by omega); clear c2_0; replace c2_1 := Put.cellOff hP8 c2_1 (by simp); replace c2_2 := Put.cellOff hP8 c2_2 (by simp); replace c4_0 := hP8.cell c4_0 (by omega); replace c4_1 := hP8.cell c4_1 (by omega); replace c4_2 := hP8.cell c4_2 (by omega); have c2_0 := hP8.new 0 _ rfl; try simp only [Nat.reduceAdd, Nat.zero_add, Nat.add_zero] at c2_0
      clear hP8; try simp only [Wops_nil, updO_some, updO_none]
      refine hK _ _ ?_; clear hK K' gd; refine Ends.keep [2, 4] ?_; rintro r9 ⟨e2_9, e4_9, -⟩; simp [go_sem, e2_8, e3_8, e4_8, e9_8, e10_8] at e2_9 e4_9; clear e2_8 e3_8 e4_8 e9_8 e10_8; refine Ends.mk ?_; refine bNo ?_; refine tNo ?_; refine sRg fun K' gd hK => ?_; refine cu2 fun K1 hK1 => ?_; go_simp; refine hK1 _ _ ?_; clear hK1 K1; refine Wops.absS (b := n4) (i := 0) [_, _, _] (somes [cellVal c4_0, cellVal c4_1, cellVal c4_2] (by simp) (by intro j v hj; match j, hj with | 0, hj => (simp at hj; subst hj; exact c4_0) | 1, hj => (simp at hj; subst hj; exact c4_1) | 2, hj => (simp at hj; subst hj; exact c4_2))) fun P9 hP9 => ?_; replace xw := Put.to xw hP9 (by omega); clear c4_0; clear c4_1; clear c4_2; have c4_0 := hP9.new 0 _ rfl; try simp only [Nat.reduceAdd, Nat.zero_add, Nat.add_zero] at c4_0
      have c4_1 := hP9.new 1 _ rfl; try simp only [Nat.reduceAdd, Nat.zero_add, Nat.add_zero] at c4_1
      have c4_2 := hP9.new 2 _ rfl; try simp only [Nat.reduceAdd, Nat.zero_add, Nat.add_zero] at c4_2
      clear hP9; try simp only [Wops_nil, updO_some, updO_none]
      refine hK _ _ ?_; clear hK K' gd; refine Wp.keep [4] ?_; rintro r10 ⟨e4_10, -⟩; simp [go_sem, e2_9, e4_9] at e4_10; clear e2_9 e4_9; refine Wp.ret ?_; refine endK_cell (v := .agg #[cellVal c4_0, cellVal c4_1, cellVal c4_2]) Try.results127 (by decide) e4_10 (by dsimp only [cellVal]; go_simp) ?_
      dsimp only [cellVal]
      exact ⟨by simp [aft, k1], xw⟩
    · refine cFf ?_; refine sRg fun K' gd hK => ?_; go_simp; refine hK _ _ ?_; clear hK K' gd; refine Wp.keep [2, 3, 4, 9, 14] ?_; rintro r11 ⟨e2_11, e3_11, e4_11, e9_11, e14_11, -⟩; simp [go_sem, e2_8, e3_8, e4_8, e9_8, e10_8] at e2_11 e3_11 e4_11 e9_11 e14_11; clear e2_8 e3_8 e4_8 e9_8 e10_8
      by_cases k2 : a.kind = 2
      · refine cTt ?_; refine lRg fun K' gd hK => ?_; refine cu2 fun K1 hK1 => ?_; go_simp; refine hK1 _ _ ?_; clear hK1 K1; refine Wops.absS (b := n2) (i := 0) [_, _, _] (somes [cellVal c2_0, cellVal c2_1, cellVal c2_2] (by simp) (by intro j v hj; match j, hj with | 0, hj => (simp at hj; subst hj; exact c2_0) | 1, hj => (simp at hj; subst hj; exact c2_1) | 2, hj => (simp at hj; subst hj; exact c2_2))) fun P10 hP10 => ?_; replace f4 := hP10.frz f4; replace xw := Put.to xw hP10 (by omega); clear c2_0; clear c2_1; clear c2_2; replace c4_0 := hP10.cell c4_0 (by omega); replace c4_1 := hP10.cell c4_1 (by omega); replace c4_2 := hP10.cell c4_2 (by omega); have c2_0 := hP10.new 0 _ rfl; try simp only [Nat.reduceAdd, Nat.zero_add, Nat.add_zero] at c2_0
        have c2_1 := hP10.new 1 _ rfl; try simp only [Nat.reduceAdd, Nat.zero_add, Nat.add_zero] at c2_1
        have c2_2 := hP10.new 2 _ rfl; try simp only [Nat.reduceAdd, Nat.zero_add, Nat.add_zero] at c2_2
        clear hP10; try simp only [Wops_nil, updO_some, updO_none]
        refine hK _ _ ?_; clear hK K' gd; refine Ends.keep [2, 4] ?_; rintro r12 ⟨e2_12, e4_12, -⟩; simp [go_sem, e2_11, e3_11, e4_11, e9_11, e14_11] at e2_12 e4_12; clear e2_11 e3_11 e4_11 e9_11 e14_11; refine Ends.mk ?_; refine bNo ?_; refine tNo ?_; refine sRg fun K' gd hK => ?_; refine cu2 fun K1 hK1 => ?_; go_simp; refine hK1 _ _ ?_; clear hK1 K1; refine Wops.absS (b := n4) (i := 0) [_, _, _] (somes [cellVal c4_0, cellVal c4_1, cellVal c4_2] (by simp) (by intro j v hj; match j, hj with | 0, hj => (simp at hj; subst hj; exact c4_0) | 1, hj => (simp at hj; subst hj; exact c4_1) | 2, hj => (simp at hj; subst hj; exact c4_2))) fun P11 hP11 => ?_; replace xw := Put.to xw hP11 (by omega); clear c4_0; clear c4_1; clear c4_2; have c4_0 := hP11.new 0 _ rfl; try simp only [Nat.reduceAdd, Nat.zero_add, Nat.add_zero] at c4_0
        have c4_1 := hP11.new 1 _ rfl; try simp only [Nat.reduceAdd, Nat.zero_add, Nat.add_zero] at c4_1
        have c4_2 := hP11.new 2 _ rfl; try simp only [Nat.reduceAdd, Nat.zero_add, Nat.add_zero] at c4_2
        clear hP11; try simp only [Wops_nil, updO_some, updO_none]
        refine hK _ _ ?_; clear hK K' gd; refine Wp.keep [4] ?_; rintro r13 ⟨e4_13, -⟩; simp [go_sem, e2_12, e4_12] at e4_13; clear e2_12 e4_12; refine Wp.ret ?_; refine endK_cell (v := .agg #[cellVal c4_0, cellVal c4_1, cellVal c4_2]) Try.results127 (by decide) e4_13 (by dsimp only [cellVal]; go_simp) ?_
        dsimp only [cellVal]
        exact ⟨by simp [aft, k2], xw⟩
      · refine cFf ?_; refine sRg fun K' gd hK => ?_; go_simp; refine hK _ _ ?_; clear hK K' gd; refine Wp.keep [2, 3, 4, 9, 17] ?_; rintro r14 ⟨e2_14, e3_14, e4_14, e9_14, e17_14, -⟩; simp [go_sem, e2_11, e3_11, e4_11, e9_11, e14_11] at e2_14 e3_14 e4_14 e9_14 e17_14; clear e2_11 e3_11 e4_11 e9_11 e14_11
        by_cases k3 : a.kind = 3
        · refine cTt ?_; refine lRg fun K' gd hK => ?_; refine cu5 fun K1 hK1 => ?_; go_simp; refine hK1 _ _ ?_; clear hK1 K1; refine Wops.absS (b := n2) (i := 1) [_] (somes [cellVal c2_1] (by simp) (by intro j v hj; match j, hj with | 0, hj => (simp at hj; subst hj; exact c2_1))) fun P12 hP12 => ?_; replace f4 := hP12.frz f4; replace xw := Put.to xw hP12 (by omega); replace c2_0 := Put.cellOff hP12 c2_0 (by simp); clear c2_1; replace c2_2 := Put.cellOff hP12 c2_2 (by simp); replace c4_0 := hP12.cell c4_0 (by omega); replace c4_1 := hP12.cell c4_1 (by omega); replace c4_2 := hP12.cell c4_2 (by omega); have c2_1 := hP12.new 0 _ rfl; try simp only [Nat.reduceAdd, Nat.zero_add, Nat.add_zero] at c2_1
          clear hP12; try simp only [Wops_nil, updO_some, updO_none]
          refine hK _ _ ?_; clear hK K' gd; refine Ends.keep [2, 4] ?_; rintro r15 ⟨e2_15, e4_15, -⟩; simp [go_sem, e2_14, e3_14, e4_14, e9_14, e17_14] at e2_15 e4_15; clear e2_14 e3_14 e4_14 e9_14 e17_14; refine Ends.mk ?_; refine bNo ?_; refine tNo ?_; refine sRg fun K' gd hK => ?_; refine cu2 fun K1 hK1 => ?_; go_simp; refine hK1 _ _ ?_; clear hK1 K1; refine Wops.absS (b := n4) (i := 0) [_, _, _] (somes [cellVal c4_0, cellVal c4_1, cellVal c4_2] (by simp) (by intro j v hj; match j, hj with | 0, hj => (simp at hj; subst hj; exact c4_0) | 1, hj => (simp at hj; subst hj; exact c4_1) | 2, hj => (simp at hj; subst hj; exact c4_2))) fun P13 hP13 => ?_; replace xw := Put.to xw hP13 (by omega); clear c4_0; clear c4_1; clear c4_2; have c4_0 := hP13.new 0 _ rfl; try simp only [Nat.reduceAdd, Nat.zero_add, Nat.add_zero] at c4_0
          have c4_1 := hP13.new 1 _ rfl; try simp only [Nat.reduceAdd, Nat.zero_add, Nat.add_zero] at c4_1
          have c4_2 := hP13.new 2 _ rfl; try simp only [Nat.reduceAdd, Nat.zero_add, Nat.add_zero] at c4_2
          clear hP13; try simp only [Wops_nil, updO_some, updO_none]
          refine hK _ _ ?_; clear hK K' gd; refine Wp.keep [4] ?_; rintro r16 ⟨e4_16, -⟩; simp [go_sem, e2_15, e4_15] at e4_16; clear e2_15 e4_15; refine Wp.ret ?_; refine endK_cell (v := .agg #[cellVal c4_0, cellVal c4_1, cellVal c4_2]) Try.results127 (by decide) e4_16 (by dsimp only [cellVal]; go_simp) ?_
          dsimp only [cellVal]
          exact ⟨by simp [aft, k3], xw⟩
        · refine cFf ?_; refine sRg fun K' gd hK => ?_; go_simp; refine hK _ _ ?_; clear hK K' gd; refine Wp.keep [2, 3, 4, 23] ?_; rintro r17 ⟨e2_17, e3_17, e4_17, e23_17, -⟩; simp [go_sem, e2_14, e3_14, e4_14, e9_14, e17_14] at e2_17 e3_17 e4_17 e23_17; clear e2_14 e3_14 e4_14 e9_14 e17_14
          by_cases k4 : a.kind = 4
          · refine cTt ?_; refine lRg fun K' gd hK => ?_; refine cu5 fun K1 hK1 => ?_; go_simp; refine hK1 _ _ ?_; clear hK1 K1; refine Wops.absS (b := n2) (i := 0) [_, _] (somes [cellVal c2_0, cellVal c2_1] (by simp) (by intro j v hj; match j, hj with | 0, hj => (simp at hj; subst hj; exact c2_0) | 1, hj => (simp at hj; subst hj; exact c2_1))) fun P14 hP14 => ?_; replace f4 := hP14.frz f4; replace xw := Put.to xw hP14 (by omega); clear c2_0; clear c2_1; replace c2_2 := Put.cellOff hP14 c2_2 (by simp); replace c4_0 := hP14.cell c4_0 (by omega); replace c4_1 := hP14.cell c4_1 (by omega); replace c4_2 := hP14.cell c4_2 (by omega); have c2_0 := hP14.new 0 _ rfl; try simp only [Nat.reduceAdd, Nat.zero_add, Nat.add_zero] at c2_0
            have c2_1 := hP14.new 1 _ rfl; try simp only [Nat.reduceAdd, Nat.zero_add, Nat.add_zero] at c2_1
            clear hP14; try simp only [Wops_nil, updO_some, updO_none]
            refine hK _ _ ?_; clear hK K' gd; refine Ends.keep [2, 4] ?_; rintro r18 ⟨e2_18, e4_18, -⟩; simp [go_sem, e2_17, e3_17, e4_17, e23_17] at e2_18 e4_18; clear e2_17 e3_17 e4_17 e23_17; refine Ends.mk ?_; refine bNo ?_; refine tNo ?_; refine sRg fun K' gd hK => ?_; refine cu2 fun K1 hK1 => ?_; go_simp; refine hK1 _ _ ?_; clear hK1 K1; refine Wops.absS (b := n4) (i := 0) [_, _, _] (somes [cellVal c4_0, cellVal c4_1, cellVal c4_2] (by simp) (by intro j v hj; match j, hj with | 0, hj => (simp at hj; subst hj; exact c4_0) | 1, hj => (simp at hj; subst hj; exact c4_1) | 2, hj => (simp at hj; subst hj; exact c4_2))) fun P15 hP15 => ?_; replace xw := Put.to xw hP15 (by omega); clear c4_0; clear c4_1; clear c4_2; have c4_0 := hP15.new 0 _ rfl; try simp only [Nat.reduceAdd, Nat.zero_add, Nat.add_zero] at c4_0
            have c4_1 := hP15.new 1 _ rfl; try simp only [Nat.reduceAdd, Nat.zero_add, Nat.add_zero] at c4_1
            have c4_2 := hP15.new 2 _ rfl; try simp only [Nat.reduceAdd, Nat.zero_add, Nat.add_zero] at c4_2
            clear hP15; try simp only [Wops_nil, updO_some, updO_none]
            refine hK _ _ ?_; clear hK K' gd; refine Wp.keep [4] ?_; rintro r19 ⟨e4_19, -⟩; simp [go_sem, e2_18, e4_18] at e4_19; clear e2_18 e4_18; refine Wp.ret ?_; refine endK_cell (v := .agg #[cellVal c4_0, cellVal c4_1, cellVal c4_2]) Try.results127 (by decide) e4_19 (by dsimp only [cellVal]; go_simp) ?_
            dsimp only [cellVal]
            exact ⟨by simp [aft, k4], xw⟩
          · refine cFf ?_; refine Wp.skip ?_; refine bNo ?_; refine tNo ?_; refine sRg fun K' gd hK => ?_; refine cu2 fun K1 hK1 => ?_; go_simp; refine hK1 _ _ ?_; clear hK1 K1; refine Wops.absS (b := n4) (i := 0) [_, _, _] (somes [cellVal c4_0, cellVal c4_1, cellVal c4_2] (by simp) (by intro j v hj; match j, hj with | 0, hj => (simp at hj; subst hj; exact c4_0) | 1, hj => (simp at hj; subst hj; exact c4_1) | 2, hj => (simp at hj; subst hj; exact c4_2))) fun P16 hP16 => ?_; replace xw := Put.to xw hP16 (by omega); clear c4_0; clear c4_1; clear c4_2; have c4_0 := hP16.new 0 _ rfl; try simp only [Nat.reduceAdd, Nat.zero_add, Nat.add_zero] at c4_0
            have c4_1 := hP16.new 1 _ rfl; try simp only [Nat.reduceAdd, Nat.zero_add, Nat.add_zero] at c4_1
            have c4_2 := hP16.new 2 _ rfl; try simp only [Nat.reduceAdd, Nat.zero_add, Nat.add_zero] at c4_2
            clear hP16; try simp only [Wops_nil, updO_some, updO_none]
            refine hK _ _ ?_; clear hK K' gd; refine Wp.keep [4] ?_; rintro r20 ⟨e4_20, -⟩; simp [go_sem, e2_17, e3_17, e4_17, e23_17] at e4_20; clear e2_17 e3_17 e4_17 e23_17; refine Wp.ret ?_; refine endK_cell (v := .agg #[cellVal c4_0, cellVal c4_1, cellVal c4_2]) Try.results127 (by decide) e4_20 (by dsimp only [cellVal]; go_simp) ?_
            dsimp only [cellVal]
            exact ⟨by simp [aft, k1, k2, k3, k4], xw⟩
theorem reads_c (x y : Int) (z : Bool) (d : Int) (w : World) :
    CallsV Try.prog 129 #[.agg #[.int .i64 x, .int .i64 y, .bool z], .int .i64 d] w fun v w' => v = .bool (rds (x, y, z) d) ∧ Ext w w' := by
  refine Wp.fn Try.func129 rfl Try.ntmps129 (by simp) ?_; have xw := Ext.refl w; refine Wp.keep [0, 1] ?_; rintro r1 ⟨e0_1, e1_1, -⟩; simp [go_sem] at e0_1 e1_1; refine sRg fun K' gd hK => ?_; refine cu1 fun K1 hK1 => ?_; go_simp; refine hK1 _ _ ?_; clear hK1 K1; refine Wops.absA fun V2_1 n2 hV2_1 => ?_; obtain ⟨q2, hV2_1, s2, kV2_1, f2, r2⟩ := hV2_1; try simp only [q2] at kV2_1 f2 r2 ⊢
  replace xw := xw.trans hV2_1; have c2_0 := kV2_1 0 _ rfl; have c2_1 := kV2_1 1 _ rfl; clear kV2_1 hV2_1; clear r2; go_simp; refine hK _ _ ?_; clear hK K' gd; refine Wp.keep [1, 2] ?_; rintro r2 ⟨e1_2, e2_2, -⟩; simp [go_sem, e0_1, e1_1] at e1_2 e2_2; clear e0_1 e1_1; refine Wp.seq ?_; refine sRg fun K' gd hK => ?_; go_simp; refine hK _ _ ?_; clear hK K' gd; refine Wp.keep [1, 2, 6] ?_; rintro r3 ⟨e1_3, e2_3, e6_3, -⟩; simp [go_sem, e1_2, e2_2] at e1_3 e2_3 e6_3; clear e1_2 e2_2
  by_cases h : d = 0
  · refine cTt ?_; refine sRg fun K' gd hK => ?_; go_simp; refine hK _ _ ?_; clear hK K' gd; refine Wp.keep [4] ?_; rintro r4 ⟨e4_4, -⟩; simp [go_sem, e1_3, e2_3, e6_3] at e4_4; clear e1_3 e2_3 e6_3; refine Wp.ret ?_; refine tRe ?_; refine endK_tmp Try.results129 (by decide) ?_; rw [e4_4]; exact ⟨by simp [rds, h], xw⟩
  · refine cFf ?_
    by_cases h1 : x = d
    · skip; refine skN ?_; refine sRh fun K' gd hK hg => ?_; have g5 : gd 5 = some 16 := hg 5; clear hg; go_simp; refine hK _ _ ?_; clear hK K' gd g5; refine Wp.keep [4] ?_; rintro r5 ⟨e4_5, -⟩; simp [go_sem, e1_3, e2_3, e6_3] at e4_5; clear e1_3 e2_3 e6_3; refine Wp.ret ?_; refine endK_tmp Try.results129 (by decide) ?_; rw [e4_5]; exact ⟨by simp [rds, h, h1], xw⟩
    · skip; refine skN ?_; refine sRh fun K' gd hK hg => ?_; have g5 : gd 5 = some 16 := hg 5; clear hg; go_simp; refine hK _ _ ?_; clear hK K' gd g5; refine Wp.keep [4] ?_; rintro r6 ⟨e4_6, -⟩; simp [go_sem, e1_3, e2_3, e6_3] at e4_6; clear e1_3 e2_3 e6_3; refine Wp.ret ?_; refine endK_tmp Try.results129 (by decide) ?_; rw [e4_6]; exact ⟨by by_cases e : y = d <;> simp [rds, h, h1, e], xw⟩
theorem faces_c (v : Value) (i : Int) (w : World) (A B : Value) (hv : v = .agg #[A, B]) (h1 : A.oneCell' = true) (h2 : B.oneCell' = true) : CallsV Try.prog 77 #[v, .int .i64 i] w fun v w' => ∃ bs bi, v = .func (.func 126) #[] #[.pointer (some ⟨bs, 0, none⟩), .pointer (some ⟨bi, 0, none⟩)] ∧
    Ext w w' ∧ w'.cell? ⟨bs, 0, none⟩ = some A ∧ w'.cell? ⟨bs, 1, none⟩ = some B ∧ w'.cell? ⟨bi, 0, none⟩ = some (.int .i64 i) ∧ w.heap.size ≤ bs ∧ w.heap.size ≤ bi := by
  subst hv; refine Wp.fn Try.func77 rfl Try.ntmps77 (by simp) ?_; have xw := Ext.refl w; refine Wp.keep [0, 1] ?_; rintro r1 ⟨e0_1, e1_1, -⟩; simp [go_sem] at e0_1 e1_1; refine sRg fun K' gd hK => ?_; refine cu1 fun K1 hK1 => ?_; go_simp; refine hK1 _ _ ?_; clear hK1 K1; refine Wops.absA fun V2_1 n2 hV2_1 => ?_; obtain ⟨q2, hV2_1, s2, kV2_1, f2, r2⟩ := hV2_1; try simp only [q2] at kV2_1 f2 r2 ⊢
  replace xw := xw.trans hV2_1; have c2_0 := kV2_1 0 _ rfl; have c2_1 := kV2_1 1 _ rfl; clear kV2_1 hV2_1; clear r2; refine cu1 fun K1 hK1 => ?_; go_simp; refine hK1 _ _ ?_; clear hK1 K1; refine Wops.absA fun V3_2 n3 hV3_2 => ?_; obtain ⟨q3, hV3_2, s3, kV3_2, f3, r3⟩ := hV3_2; try simp only [q3] at kV3_2 f3 r3 ⊢
  replace xw := xw.trans hV3_2; replace c2_0 := hV3_2.cell c2_0; replace c2_1 := hV3_2.cell c2_1; have c3_0 := kV3_2 0 _ rfl; clear kV3_2 hV3_2; clear r3; go_simp; refine hK _ _ ?_; clear hK K' gd; refine Wp.keep [2, 3] ?_; rintro r2 ⟨e2_2, e3_2, -⟩; simp [go_sem, e0_1, e1_1] at e2_2 e3_2; clear e0_1 e1_1; refine sRg fun K' gd hK => ?_; go_simp; refine hK _ _ ?_; clear hK K' gd; refine Wp.keep [4] ?_; rintro r3 ⟨e4_3, -⟩; simp [go_sem, e2_2, e3_2] at e4_3; clear e2_2 e3_2; refine Wp.ret ?_; refine endK_tmp Try.results77 (by decide) ?_; rw [e4_3]; exact ⟨_, _, rfl, xw, c2_0, c2_1, c3_0, by omega, by omega⟩
def encF (_ : Nat) (x : Int × Int × Face) : Array Value := #[.agg #[.int .i64 x.1, .int .i64 x.2.1], .agg #[.int .i64 x.2.2.1, .int .i64 x.2.2.2.1, .bool x.2.2.2.2]]
def TyB (W : World) (b : Nat) (t : TypeId) : Prop := ∃ cs, W.heap[b]? = some (.cells cs t (0, 0))
section
variable {W V : World} {b : Nat} {t : TypeId}
theorem TyB.of {cs : List Value} (h : RowC W b t cs) : TyB W b t := ⟨_, h⟩
theorem TyB.ext (h : TyB W b t) (hE : Ext W V) : TyB V b t := by obtain ⟨cs, h⟩ := h; exact ⟨cs, (Below.block hE b (Array.getElem?_eq_some_iff.1 h).1).trans h⟩
theorem TyB.adm {m : Nat} (h : TyB W b t) (hE : Adm m W V) : TyB V b t := by obtain ⟨cs, h⟩ := h; exact ⟨cs, hE.heap h⟩
theorem TyB.chg {L : List Nat} (h : TyB W b t) (hE : Chg L W V) (hL : b ∉ L) : TyB V b t := by obtain ⟨cs, h⟩ := h; exact ⟨cs, (hE.block b (Array.getElem?_eq_some_iff.1 h).1 hL).trans h⟩
theorem TyB.put {k i : Nat} {vs : List Value} (h : TyB W b t) (p : Put W V k i vs) (_ : 0 = 0) : TyB V b t := by
  by_cases e : b = k
  · subst e; obtain ⟨cs, h⟩ := h; obtain ⟨cs', h1, -⟩ := p.row cs t h; exact ⟨cs', h1⟩
  · exact h.chg p.chg (by simpa using e)
theorem TyB.held {X Y : World} (h : TyB W b t) (hK : Held X W Y) (hb : X.heap.size ≤ b) : TyB Y b t := by obtain ⟨cs, h⟩ := h; exact ⟨cs, hK b _ hb h rfl⟩
theorem TyB.own {base e size n : Nat} {v : Value} {xs : List Value} (h : TyB W b t) (ho : W.ownsRow base e size v n xs) (he : e ≠ t) : v.ownBlock ≠ some b := by
  rcases ho.2 with ⟨rfl, -⟩ | ⟨g, cap, cur, rfl, -, hg, -⟩
  · simp [Value.ownBlock]
  · intro e'; simp only [Value.ownBlock, Option.some.injEq] at e'; subst e'; obtain ⟨cs, h⟩ := h; rw [hg] at h
    injection h with h; injection h with _ h
    exact he h
end
def FaceC (W : World) (g : Nat) (f : Face) : Prop := (W.cell? ⟨g, 0, none⟩ = some (.int .i64 f.1) ∧ W.cell? ⟨g, 1, none⟩ = some (.int .i64 f.2.1) ∧ W.cell? ⟨g, 2, none⟩ = some (.bool f.2.2)) ∧ (∀ k, W.frozen? ⟨g, k, none⟩ = false) ∧ TyB W g 117
def facC (W : World) (g : Nat) (x : Int × Int × Face) : Prop := FaceC W g x.2.2
theorem FaceC.ext {W V : World} {g : Nat} {f : Face} (h : FaceC W g f) (hE : Ext W V) : FaceC V g f := ⟨⟨hE.cell h.1.1, hE.cell h.1.2.1, hE.cell h.1.2.2⟩, hE.fz h.1.1 h.2.1, h.2.2.ext hE⟩
theorem FaceC.adm {m : Nat} {W V : World} {g : Nat} {f : Face} (h : FaceC W g f) (hE : Adm m W V) : FaceC V g f := ⟨⟨hE.cell h.1.1, hE.cell h.1.2.1, hE.cell h.1.2.2⟩, Adm.fz hE h.1.1 h.2.1, h.2.2.adm hE⟩
theorem FaceC.chg {L : List Nat} {W V : World} {g : Nat} {f : Face} (h : FaceC W g f) (hE : Chg L W V) (hL : g ∉ L) : FaceC V g f := ⟨⟨Chg.cell hE h.1.1 hL, Chg.cell hE h.1.2.1 hL, Chg.cell hE h.1.2.2 hL⟩, Chg.fz hE h.1.1 h.2.1 hL, h.2.2.chg hE hL⟩
theorem FaceC.put {W V : World} {g b i : Nat} {vs : List Value} {f : Face} (h : FaceC W g f) (p : Put W V b i vs) (hb : g ≠ b) : FaceC V g f := h.chg p.chg (by simpa using hb)
theorem facC.ext {W V : World} {g : Nat} {f : Int × Int × Face} (h : facC W g f) (hE : Ext W V) : facC V g f := FaceC.ext h hE
theorem facC.adm {m : Nat} {W V : World} {g : Nat} {f : Int × Int × Face} (h : facC W g f) (hE : Adm m W V) : facC V g f := FaceC.adm h hE
theorem facC.chg {L : List Nat} {W V : World} {g : Nat} {f : Int × Int × Face} (h : facC W g f) (hE : Chg L W V) (hL : g ∉ L) : facC V g f := FaceC.chg h hE hL
theorem facC.put {W V : World} {g b i : Nat} {vs : List Value} {f : Int × Int × Face} (h : facC W g f) (p : Put W V b i vs) (hb : g ≠ b) : facC V g f := FaceC.put h p hb
theorem FaceC.lt {W : World} {g : Nat} {f : Face} (h : FaceC W g f) : g < W.heap.size := cell_lt h.1.1
structure FacesD (W : World) (bs bi : Nat) (s : Sh) (i : Nat) (b o n c : Nat) (A : Option Addr) (c2 : Nat) : Prop where
  c0 : W.cell? ⟨bs, 0, none⟩ = some (.slice (some ⟨b, o, none⟩) n c)
  c1 : W.cell? ⟨bs, 1, none⟩ = some (.slice A s.alts.length c2)
  ci : W.cell? ⟨bi, 0, none⟩ = some (.int .i64 (i : Int))
  cw : W.cell? ⟨b, o + i, none⟩ = some (.int .i64 (s.W i))
  ca : AltsV W W.heap.size (.slice A s.alts.length c2) s.alts
theorem after_c2 {x y : Int} {z : Bool} {a : Alt} {x2 y2 : Int} {z2 : Bool} (h : aft (x, y, z) a = (x2, y2, z2)) (w : World) :
    CallsV Try.prog 127 #[.agg #[.int .i64 x, .int .i64 y, .bool z], .agg #[.int .i64 a.id, .int .i64 a.kind, .int .i64 a.day, .int .i64 a.frm, .int .i64 a.tu, .int .i64 a.word]] w fun v w' =>
      v = .agg #[.int .i64 x2, .int .i64 y2, .bool z2] ∧ Ext w w' := by
  have := after_c x y z a w; rw [h] at this; exact this
theorem faces_step {i : Int} {a : Alt} {l : List Alt} {f : Face} {d : Int} : facesL i (a :: l) f d = if nxt i f a = f then facesL i l f d else if d < a.day then (d, a.day - 1, f) :: facesL i l (nxt i f a) a.day else facesL i l (nxt i f a) a.day := rfl
theorem drop_next {α : Type} {l m : List α} {j : Nat} {x : α} (h : l.drop j = x :: m) : l[j]? = some x ∧ l.drop (j + 1) = m := by
  constructor
  · have := List.getElem?_drop (xs := l) (i := j) (j := 0); rw [h] at this; simpa using this.symm
  · rw [← List.drop_drop (i := 1), h]; rfl
theorem face_set {w : World} {g : Nat} {f : Face} {x2 y2 : Int} {z2 : Bool} (h : FaceC w g f) {b o : Nat} {v : Value} (hb : w.cell? ⟨b, o, none⟩ = some v) (hne : b ≠ g) :
    FaceC (((w.drew.setCell ⟨g, 0, none⟩ (.int .i64 x2)).setCell ⟨g, 1, none⟩ (.int .i64 y2)).setCell ⟨g, 2, none⟩ (.bool z2)) g (x2, y2, z2) ∧
    Chg [g] w (((w.drew.setCell ⟨g, 0, none⟩ (.int .i64 x2)).setCell ⟨g, 1, none⟩ (.int .i64 y2)).setCell ⟨g, 2, none⟩ (.bool z2)) ∧
    ∀ v0 v1 v2, (((w.drew.setCell ⟨g, 0, none⟩ v0).setCell ⟨g, 1, none⟩ v1).setCell ⟨g, 2, none⟩ v2).cell? ⟨b, o, none⟩ = some v := by
  have p := setL_put (w := w.drew) (b := g) (i := 0) (vs := [.int .i64 x2, .int .i64 y2, .bool z2]) (by
    intro j hj
    match j, hj with
    | 0, _ => simp [cell_drew h.1.1]
    | 1, _ => simp [cell_drew h.1.2.1]
    | 2, _ => simp [cell_drew h.1.2.2])
  refine ⟨⟨⟨p.new 0 _ rfl, p.new 1 _ rfl, p.new 2 _ rfl⟩, fun k => (p.fz _).trans (h.2.1 k), TyB.put (V := ((w.drew.setCell _ _).setCell _ _).setCell _ _) (h.2.2.ext (Ext.refl _).drew) p rfl⟩, (((Chg.refl [g] w).drew.setC (by simp)).setC (by simp)).setC (by simp), fun v0 v1 v2 => ?_⟩; rw [World.cell?_setCell_other _ _ _ _ (by intro e; injection e with e _; exact hne e.symm), World.cell?_setCell_other _ _ _ _ (by intro e; injection e with e _; exact hne e.symm), World.cell?_setCell_other _ _ _ _ (by intro e; injection e with e _; exact hne e.symm)]; exact hb
theorem faces_it (s : Sh) (i : Nat) (bs bi b o n c : Nat) (A : Option Addr) (c2 : Nat) (hi : i < n) (hl : s.alts.length ≤ 1000000000000000) (hd : ∀ a ∈ s.alts, 0 ≤ a.day ∧ a.day ≤ 730) :
    IterH Try.prog 126 #[.pointer (some ⟨bs, 0, none⟩), .pointer (some ⟨bi, 0, none⟩)] encF facC (fun W => FacesD W bs bi s i b o n c A c2) (s.faces i) := by
  intro l J Jx w hD hJE hJxE hJg h0 hY
  show CallsV _ _ #[.func (.yield l) #[] #[], .pointer (some ⟨bs, 0, none⟩), .pointer (some ⟨bi, 0, none⟩)] _ _
  have hin : (i : Int) < (n : Int) := by omega
  have d00 := hD _ _ _ (h0 w.heap.size w (Nat.le_refl _) (Ext.refl _)); have y0 := d00.c0; have y1 := d00.c1; have yi := d00.ci; have yw := d00.cw; clear d00; refine Wp.fn Try.func126 rfl Try.ntmps126 (by simp) ?_; have xw := Ext.refl w; refine Wp.keep [0, 1, 2] ?_; rintro r1 ⟨e0_1, e1_1, e2_1, -⟩; simp [go_sem] at e0_1 e1_1 e2_1; refine sRg fun K' gd hK => ?_; refine cu9 fun K1 hK1 => ?_; go_simp; refine hK1 _ _ ?_; clear hK1 K1; refine Wops.absT fun V4_1 n4 hV4_1 R4 => ?_; obtain ⟨q4, hV4_1, s4, kV4_1, f4, r4⟩ := hV4_1; try simp only [q4] at kV4_1 f4 r4 ⊢
  replace R4 := (show RowC _ _ _ _ from R4); replace xw := xw.trans hV4_1; replace y1 := hV4_1.cell y1; have c4_0 := kV4_1 0 _ rfl; have c4_1 := kV4_1 1 _ rfl; have c4_2 := kV4_1 2 _ rfl; clear kV4_1 hV4_1; clear r4; try simp only [Wops_nil, updO_some, updO_none]
  refine hK _ _ ?_; clear hK K' gd; refine Wp.keep [0, 1, 2, 4] ?_; rintro r2 ⟨e0_2, e1_2, e2_2, e4_2, -⟩; simp [go_sem, e0_1, e1_1, e2_1] at e0_2 e1_2 e2_2 e4_2; clear e0_1 e1_1 e2_1; have t4 := TyB.of R4; refine sRg fun K' gd hK => ?_; go_simp; refine hK _ _ ?_; clear hK K' gd; refine Wp.keep [0, 1, 2, 4, 5] ?_; rintro r3 ⟨e0_3, e1_3, e2_3, e4_3, e5_3, -⟩; simp [go_sem, e0_2, e1_2, e2_2, e4_2] at e0_3 e1_3 e2_3 e4_3 e5_3; clear e0_2 e1_2 e2_2 e4_2; refine Wp.seq ?_; refine sRg fun K' gd hK => ?_; go_simp; refine hK _ _ ?_; clear hK K' gd; refine Wp.keep [0, 2, 4, 5, 17, 18, 19] ?_; rintro r4 ⟨e0_4, e2_4, e4_4, e5_4, e17_4, e18_4, e19_4, -⟩; simp [go_sem, e0_3, e1_3, e2_3, e4_3, e5_3] at e0_4 e2_4 e4_4 e5_4 e17_4 e18_4 e19_4; clear e0_3 e1_3 e2_3 e4_3 e5_3; refine Wp.block ?_; refine Wp.loop (fun k ρ ds wk => AllEq [0, 2, 4, 17, 18] ρ r4 ∧ ds = [] ∧ True ∧ (∃ x y z d j, ρ 19 = .int .i64 (k : Int) ∧ ρ 5 = .int .i64 d ∧ J n4 j wk ∧ FaceC wk n4 (x, y, z) ∧ (s.faces i).drop j = facesL i (s.alts.drop k) (x, y, z) d)) (s.alts.length) ?_ ?_
  · refine ⟨AllEq.refl _ _, rfl, trivial, ?_⟩; exact ⟨_, _, _, _, 0, by rw [e19_4]; rfl, e5_4, h0 _ _ (by omega) xw, ⟨⟨c4_0, c4_1, c4_2⟩, f4, t4⟩, rfl⟩
  · skip; try clear t4
    try clear f4
    try clear c4_2
    try clear c4_1
    try clear c4_0
    try clear yw
    try clear yi
    try clear y1
    try clear y0
    try clear xw
    rintro k r5 _ wk hk ⟨hA, rfl, -, ⟨x, y, z, d, j, e19, e5, hJ, hC, hdr⟩⟩; obtain ⟨e0_5, e2_5, e4_5, e17_5, e18_5, -⟩ := hA; rw [e0_4] at e0_5; rw [e2_4] at e2_5; rw [e4_4] at e4_5; rw [e17_4] at e17_5; rw [e18_4] at e18_5; have xo := Ext.refl wk; refine sRg fun K' gd hK => ?_; go_simp; refine hK _ _ ?_; clear hK K' gd; refine Wp.keep [0, 2, 4, 5, 17, 18, 19, 20] ?_; rintro r6 ⟨e0_6, e2_6, e4_6, e5_6, e17_6, e18_6, e19_6, e20_6, -⟩; simp [go_sem, e0_5, e2_5, e4_5, e5, e17_5, e18_5, e19] at e0_6 e2_6 e4_6 e5_6 e17_6 e18_6 e19_6 e20_6; clear e0_5 e2_5 e4_5 e5 e17_5 e18_5 e19; refine Wp.seq ?_
    by_cases h : k < s.alts.length
    · refine cTt ?_; have dk := hD _ _ _ hJ; obtain ⟨b2, o2, rfl, hb2, u0, u1, u2, u3, u4, u5⟩ := AltsV.six dk.ca h; have ui := dk.ci; clear dk; rw [drop_cons h, faces_step] at hdr; obtain ⟨⟨c4_0, c4_1, c4_2⟩, f4, t4⟩ := hC
      dsimp only at c4_0 c4_1 c4_2
      have lbi : bi < wk.heap.size := cell_lt ui; have l4 : n4 < wk.heap.size := cell_lt c4_0; have hda := hd _ (List.getElem_mem h); have hw1 : IntKind.i64.wrap (s.alts[k].day - 1) = s.alts[k].day - 1 := IntWalk.i64_in _ (by omega)
      by_cases hh : s.alts[k].frm ≤ (i : Int) ∧ (i : Int) ≤ s.alts[k].tu
      · skip; obtain ⟨x2, y2, z2, hx2⟩ : ∃ x2 y2 z2, aft (x, y, z) s.alts[k] = (x2, y2, z2) := ⟨_, _, _, rfl⟩; have hnx : ∃ _u : Unit, nxt i (x, y, z) s.alts[k] = (x2, y2, z2) := ⟨(), by unfold nxt; rw [if_pos hh, hx2]⟩; refine skN ?_; refine sBk ?_; refine sRg fun K' gd hK => ?_; refine cu4 fun K1 hK1 => ?_; go_simp; refine hK1 _ _ ?_; clear hK1 K1; refine Wops.absT fun V7_3 n7 hV7_3 R7 => ?_; obtain ⟨q7, hV7_3, s7, kV7_3, f7, r7⟩ := hV7_3; try simp only [q7] at kV7_3 f7 r7 ⊢
        replace f4 := hV7_3.fz c4_0 f4; replace t4 := t4.ext hV7_3; replace xo := xo.trans hV7_3; replace c4_0 := hV7_3.cell c4_0; replace c4_1 := hV7_3.cell c4_1; replace c4_2 := hV7_3.cell c4_2; replace ui := hV7_3.cell ui; have c7_0 := kV7_3 0 _ rfl; have c7_1 := kV7_3 1 _ rfl; have c7_2 := kV7_3 2 _ rfl; have c7_3 := kV7_3 3 _ rfl; have c7_4 := kV7_3 4 _ rfl; have c7_5 := kV7_3 5 _ rfl; clear kV7_3 hV7_3; clear r7; try simp only [Wops_nil, updO_some, updO_none]
        refine hK _ _ ?_; clear hK K' gd; refine Wp.keep [0, 2, 4, 5, 7, 17, 18, 19] ?_; rintro r7 ⟨e0_7, e2_7, e4_7, e5_7, e7_7, e17_7, e18_7, e19_7, -⟩; simp [go_sem, e0_6, e2_6, e4_6, e5_6, e17_6, e18_6, e19_6, e20_6] at e0_7 e2_7 e4_7 e5_7 e7_7 e17_7 e18_7 e19_7; clear e0_6 e2_6 e4_6 e5_6 e17_6 e18_6 e19_6 e20_6; refine sRg fun K' gd hK => ?_; refine cu3 fun K1 hK1 => ?_; go_simp; refine hK1 _ _ ?_; clear hK1 K1; refine Wops.absT fun V8_4 n8 hV8_4 R8 => ?_; obtain ⟨q8, hV8_4, s8, kV8_4, f8, r8⟩ := hV8_4; try simp only [q8] at kV8_4 f8 r8 ⊢
        replace R8 := (show RowC _ _ _ _ from R8); replace f4 := hV8_4.fz c4_0 f4; replace t4 := t4.ext hV8_4; replace xo := xo.trans hV8_4; replace c4_0 := hV8_4.cell c4_0; replace c4_1 := hV8_4.cell c4_1; replace c4_2 := hV8_4.cell c4_2; replace ui := hV8_4.cell ui; replace c7_0 := hV8_4.cell c7_0; replace c7_1 := hV8_4.cell c7_1; replace c7_2 := hV8_4.cell c7_2; replace c7_3 := hV8_4.cell c7_3; replace c7_4 := hV8_4.cell c7_4; replace c7_5 := hV8_4.cell c7_5; have c8_0 := kV8_4 0 _ rfl; have c8_1 := kV8_4 1 _ rfl; have c8_2 := kV8_4 2 _ rfl; clear kV8_4 hV8_4; clear r8; try simp only [Wops_nil, updO_some, updO_none]
        refine hK _ _ ?_; clear hK K' gd; refine Wp.keep [0, 2, 4, 5, 7, 8, 17, 18, 19] ?_; rintro r8 ⟨e0_8, e2_8, e4_8, e5_8, e7_8, e8_8, e17_8, e18_8, e19_8, -⟩; simp [go_sem, e0_7, e2_7, e4_7, e5_7, e7_7, e17_7, e18_7, e19_7] at e0_8 e2_8 e4_8 e5_8 e7_8 e8_8 e17_8 e18_8 e19_8; clear e0_7 e2_7 e4_7 e5_7 e7_7 e17_7 e18_7 e19_7; refine Wp.seq ?_; refine sRg fun K' gd hK => ?_; refine cu6 fun K1 hK1 => ?_; go_simp; refine Wcall (.inl rfl) (within_T hh _) ?_; rintro v w4 ⟨rfl, hE⟩; go_simp; refine hK1 _ _ ?_; clear hK1 K1; replace f4 := hE.fz c4_0 f4; replace f8 := hE.fz c8_0 f8; replace t4 := t4.ext hE; replace xo := xo.trans hE; replace c4_0 := hE.cell c4_0; replace c4_1 := hE.cell c4_1; replace c4_2 := hE.cell c4_2; replace c7_0 := hE.cell c7_0; replace c7_1 := hE.cell c7_1; replace c7_2 := hE.cell c7_2; replace c7_3 := hE.cell c7_3; replace c7_4 := hE.cell c7_4; replace c7_5 := hE.cell c7_5; replace c8_0 := hE.cell c8_0; replace c8_1 := hE.cell c8_1; replace c8_2 := hE.cell c8_2; clear hE; try simp only [Wops_nil, updO_some, updO_none]
        refine hK _ _ ?_; clear hK K' gd; refine Wp.keep [0, 2, 4, 5, 7, 8, 17, 18, 19, 29] ?_; rintro r10 ⟨e0_10, e2_10, e4_10, e5_10, e7_10, e8_10, e17_10, e18_10, e19_10, e29_10, -⟩; simp [go_sem, e0_8, e2_8, e4_8, e5_8, e7_8, e8_8, e17_8, e18_8, e19_8] at e0_10 e2_10 e4_10 e5_10 e7_10 e8_10 e17_10 e18_10 e19_10 e29_10; clear e0_8 e2_8 e4_8 e5_8 e7_8 e8_8 e17_8 e18_8 e19_8; refine cTt ?_; refine lRg fun K' gd hK => ?_; refine cu3 fun K1 hK1 => ?_; go_simp; refine Wcall (.inl rfl) (after_c2 hx2 _) ?_; rintro v w5 ⟨rfl, hE⟩; go_simp; refine hK1 _ _ ?_; clear hK1 K1; replace f4 := hE.fz c4_0 f4; replace f8 := hE.fz c8_0 f8; replace t4 := t4.ext hE; replace xo := xo.trans hE; replace c4_0 := hE.cell c4_0; replace c4_1 := hE.cell c4_1; replace c4_2 := hE.cell c4_2; replace c7_2 := hE.cell c7_2; replace c8_0 := hE.cell c8_0; replace c8_1 := hE.cell c8_1; replace c8_2 := hE.cell c8_2; clear hE; refine cu1 fun K1 hK1 => ?_; go_simp; refine hK1 _ _ ?_; clear hK1 K1; refine Wops.absS (b := n8) (i := 0) [_, _, _] (somes [cellVal c8_0, cellVal c8_1, cellVal c8_2] (by simp) (by intro j v hj; match j, hj with | 0, hj => (simp at hj; subst hj; exact c8_0) | 1, hj => (simp at hj; subst hj; exact c8_1) | 2, hj => (simp at hj; subst hj; exact c8_2))) fun P5 hP5 => ?_
        replace f4 := hP5.frz f4; replace t4 := t4.put hP5 (by omega); replace xo := Put.to xo hP5 (by omega); replace c4_0 := hP5.cell c4_0 (by omega); replace c4_1 := hP5.cell c4_1 (by omega); replace c4_2 := hP5.cell c4_2 (by omega); replace c7_2 := hP5.cell c7_2 (by omega); clear c8_0; clear c8_1; clear c8_2; have c8_0 := hP5.new 0 _ rfl; try simp only [Nat.reduceAdd, Nat.zero_add, Nat.add_zero] at c8_0
        have c8_1 := hP5.new 1 _ rfl; try simp only [Nat.reduceAdd, Nat.zero_add, Nat.add_zero] at c8_1
        have c8_2 := hP5.new 2 _ rfl; try simp only [Nat.reduceAdd, Nat.zero_add, Nat.add_zero] at c8_2
        clear hP5; try simp only [Wops_nil, updO_some, updO_none]
        refine hK _ _ ?_; clear hK K' gd; refine Ends.keep [0, 2, 4, 5, 7, 8, 17, 18, 19] ?_; rintro r12 ⟨e0_12, e2_12, e4_12, e5_12, e7_12, e8_12, e17_12, e18_12, e19_12, -⟩; simp [go_sem, e0_10, e2_10, e4_10, e5_10, e7_10, e8_10, e17_10, e18_10, e19_10, e29_10] at e0_12 e2_12 e4_12 e5_12 e7_12 e8_12 e17_12 e18_12 e19_12; clear e0_10 e2_10 e4_10 e5_10 e7_10 e8_10 e17_10 e18_10 e19_10 e29_10; refine Ends.mk ?_; refine tNo ?_
        by_cases hn : x2 = x ∧ y2 = y ∧ z2 = z
        · skip; obtain ⟨rfl, rfl, rfl⟩ := hn; rw [if_pos hnx.choose_spec] at hdr; refine Wp.seq ?_; refine sRg fun K' gd hK => ?_; go_simp; refine hK _ _ ?_; clear hK K' gd; refine Wp.keep [0, 2, 4, 5, 7, 8, 17, 18, 19, 35] ?_; rintro r13 ⟨e0_13, e2_13, e4_13, e5_13, e7_13, e8_13, e17_13, e18_13, e19_13, e35_13, -⟩; simp [go_sem, e0_12, e2_12, e4_12, e5_12, e7_12, e8_12, e17_12, e18_12, e19_12] at e0_13 e2_13 e4_13 e5_13 e7_13 e8_13 e17_13 e18_13 e19_13 e35_13; clear e0_12 e2_12 e4_12 e5_12 e7_12 e8_12 e17_12 e18_12 e19_12; refine cTt ?_; refine Wp.exit ?_; refine tEx ?_; refine blockK_here ?_; refine tNo ?_; refine lRg fun K' gd hK => ?_; go_simp; refine hK _ _ ?_; clear hK K' gd; refine Ends.keep [0, 2, 4, 5, 17, 18, 19] ?_; rintro r14 ⟨e0_14, e2_14, e4_14, e5_14, e17_14, e18_14, e19_14, -⟩; simp [go_sem, e0_13, e2_13, e4_13, e5_13, e7_13, e8_13, e17_13, e18_13, e19_13, e35_13] at e0_14 e2_14 e4_14 e5_14 e17_14 e18_14 e19_14; clear e0_13 e2_13 e4_13 e5_13 e7_13 e8_13 e17_13 e18_13 e19_13 e35_13; refine Ends.mk ?_; refine thenK_normal ⟨by omega, ⟨by rw [e0_14, e0_4], by rw [e2_14, e2_4], by rw [e4_14, e4_4], by rw [e17_14, e17_4], by rw [e18_14, e18_4], trivial⟩, rfl, trivial, ?_⟩; exact ⟨_, _, _, d, j, by rw [e19_14, IntWalk.i64_in _ (by omega)]; rfl, e5_14, hJE _ _ _ _ xo hJ, ⟨⟨c4_0, c4_1, c4_2⟩, f4, t4⟩, hdr⟩
        · skip; rw [if_neg (by rw [hnx.choose_spec]; intro e; injection e with e1 e; injection e with e2 e3; exact hn ⟨e1, e2, e3⟩), hnx.choose_spec] at hdr; have hif : ∀ (R1 R2 : Result Next) [Decidable (x2 = x → ¬ y2 = y)] [Decidable (z2 = z)], (if x2 = x → ¬ y2 = y then R1 else if z2 = z then R2 else R1) = R1 := fun R1 R2 _ _ => by split; rfl; split; (exact absurd ⟨Classical.byContradiction fun h1 => absurd (fun h2 => absurd h2 h1) ‹_›, Classical.byContradiction fun h1 => absurd (fun _ => h1) ‹_›, ‹_›⟩ hn); rfl
          refine Wp.seq ?_; refine sRg fun K' gd hK => ?_; go_simp; refine hK _ _ ?_; clear hK K' gd; refine Wp.keep [0, 2, 4, 5, 7, 8, 17, 18, 19, 35] ?_; rintro r15 ⟨e0_15, e2_15, e4_15, e5_15, e7_15, e8_15, e17_15, e18_15, e19_15, e35_15, -⟩; simp [go_sem, e0_12, e2_12, e4_12, e5_12, e7_12, e8_12, e17_12, e18_12, e19_12] at e0_15 e2_15 e4_15 e5_15 e7_15 e8_15 e17_15 e18_15 e19_15 e35_15; clear e0_12 e2_12 e4_12 e5_12 e7_12 e8_12 e17_12 e18_12 e19_12; refine cFf ?_
          by_cases hlt : d < s.alts[k].day
          · skip; rw [if_pos hlt] at hdr; obtain ⟨hj1, hj2⟩ := drop_next hdr; obtain ⟨fn, tmps, as_, bo, hy, hR1⟩ := hY n4 j _ wk P5 hj1 hJ xo ⟨⟨c4_0, c4_1, c4_2⟩, f4, t4⟩; simp only [encF] at hy; refine skN ?_; refine Wp.seq ?_; refine sRh fun K' gd hK hg => ?_; have g4 : gd 4 = some 40 := hg 4; clear hg; refine cu13 fun K1 hK1 => ?_; go_simp; refine Wyield (hR1) ?_; rintro e w1 (⟨rfl, ⟨hJ2, hC2, hKp⟩⟩ | ⟨rfl, hJx⟩)
            · refine ⟨_, rfl, ?_⟩; clear f4; clear t4; clear xo; clear c4_0; clear c4_1; clear c4_2; clear ui; clear u0; clear u1; clear u2; clear u3; clear u4; clear u5; replace c7_2 := Held.cell hKp (by omega) c7_2; replace c8_0 := Held.cell hKp (by omega) c8_0; replace c8_1 := Held.cell hKp (by omega) c8_1; replace c8_2 := Held.cell hKp (by omega) c8_2; obtain ⟨⟨c4_0, c4_1, c4_2⟩, f4, t4⟩ := hC2
              dsimp only at c4_0 c4_1 c4_2
              go_simp; refine hK1 _ _ ?_; clear hK1 K1; go_simp; refine hK _ _ ?_; clear hK K' gd g4; refine Wp.keep [0, 2, 4, 7, 8, 17, 18, 19, 50] ?_; rintro r16 ⟨e0_16, e2_16, e4_16, e7_16, e8_16, e17_16, e18_16, e19_16, e50_16, -⟩; simp [go_sem, e0_15, e2_15, e4_15, e5_15, e7_15, e8_15, e17_15, e18_15, e19_15, e35_15] at e0_16 e2_16 e4_16 e7_16 e8_16 e17_16 e18_16 e19_16 e50_16; clear e0_15 e2_15 e4_15 e5_15 e7_15 e8_15 e17_15 e18_15 e19_15 e35_15; refine cFf ?_; obtain ⟨hS1, hS2, k6⟩ := face_set (x2 := x2) (y2 := y2) (z2 := z2) (show FaceC w1 n4 (x, y, z) from ⟨⟨c4_0, c4_1, c4_2⟩, f4, t4⟩) c7_2 (show n7 ≠ n4 by omega); refine skN ?_; refine Wp.loneDrawT (.inl rfl) mixed (.rd [0] (.both (.act 1 false (.both (.act 2 false (.act 3 true (.act 4 true .done))) (.act 3 true (.act 2 false (.act 4 true .done))))) (.act 3 true (.act 1 false (.act 2 false (.act 4 true .done)))))) (by kernel_rfl) (fun ρ W => AllEq [0, 2, 4, 17, 18, 19] ρ r16 ∧ (ρ 5 = .int .i64 s.alts[k].day ∧ FaceC W n4 (x2, y2, z2) ∧ Chg [n4] w1 W)) (fun K' gd hK hg => ?_) ?_
              · skip; clear hg; simp only [pickT, nth, List.map_cons, List.map_nil]; apply Mtree.reads
                · intro w' hE'; have hC' := hE'.cellsS; go_simp; with_reducible rfl
                repeat' first
                  | refine Mtree.two ?_ ?_
                  | (refine Mtree.fin ?_; refine hK _ _ ⟨by simp [AllEq, go_sem], ?_⟩; exact ⟨by go_simp, hS1, hS2⟩)
                  | (refine Mtree.stepT fun K1 hK1 => ?_; go_simp; refine hK1 _ _ ?_; clear hK1 K1)
                  | (refine Mtree.step fun K1 hK1 => ?_; go_simp; refine hK1 _ _ XA ?_; clear hK1 K1)
              · rintro r17 W ⟨hA, e5, hC3, xg⟩; obtain ⟨e0_17, e2_17, e4_17, e17_17, e18_17, e19_17, -⟩ := hA; rw [e0_16] at e0_17; rw [e2_16] at e2_17; rw [e4_16] at e4_17; rw [e17_16] at e17_17; rw [e18_16] at e18_17; rw [e19_16] at e19_17; clear e0_16 e2_16 e4_16 e7_16 e8_16 e17_16 e18_16 e19_16 e50_16; refine Ends.mk ?_; refine bNo ?_; refine tNo ?_; refine lRg fun K' gd hK => ?_; go_simp; refine hK _ _ ?_; clear hK K' gd; refine Ends.keep [0, 2, 4, 5, 17, 18, 19] ?_; rintro r18 ⟨e0_18, e2_18, e4_18, e5_18, e17_18, e18_18, e19_18, -⟩; simp [go_sem, e0_17, e2_17, e4_17, e5, e17_17, e18_17, e19_17] at e0_18 e2_18 e4_18 e5_18 e17_18 e18_18 e19_18; clear e0_17 e2_17 e4_17 e5 e17_17 e18_17 e19_17; refine Ends.mk ?_; refine thenK_normal ⟨by omega, ⟨by rw [e0_18, e0_4], by rw [e2_18, e2_4], by rw [e4_18, e4_4], by rw [e17_18, e17_4], by rw [e18_18, e18_4], trivial⟩, rfl, trivial, ?_⟩; exact ⟨_, _, _, _, j + 1, by rw [e19_18, IntWalk.i64_in _ (by omega)]; rfl, e5_18, hJg _ _ _ _ xg hJ2, hC3, hj2⟩
            · refine ⟨_, rfl, ?_⟩; clear f4; clear f7; clear f8; clear t4; clear xo; clear c4_0; clear c4_1; clear c4_2; clear ui; clear u0; clear u1; clear u2; clear u3; clear u4; clear u5; clear c7_0; clear c7_1; clear c7_2; clear c7_3; clear c7_4; clear c7_5; clear c8_0; clear c8_1; clear c8_2; go_simp; refine hK1 _ _ ?_; clear hK1 K1; go_simp; refine hK _ _ ?_; clear hK K' gd g4; refine Wp.keep [0, 2, 4, 7, 8, 17, 18, 19, 50] ?_; rintro r19 ⟨e0_19, e2_19, e4_19, e7_19, e8_19, e17_19, e18_19, e19_19, e50_19, -⟩; simp [go_sem, e0_15, e2_15, e4_15, e5_15, e7_15, e8_15, e17_15, e18_15, e19_15, e35_15] at e0_19 e2_19 e4_19 e7_19 e8_19 e17_19 e18_19 e19_19 e50_19; clear e0_15 e2_15 e4_15 e5_15 e7_15 e8_15 e17_15 e18_15 e19_15 e35_15; refine cTt ?_; refine Wp.ret ?_; refine tRe ?_; refine bRe ?_; refine tRe ?_; refine tRe ?_; refine bRe ?_; refine tRe ?_; refine endK_none Try.results126 ?_; exact .inr hJx
          · skip; rw [if_neg hlt] at hdr; refine skN ?_; refine Wp.seq ?_; refine sRh fun K' gd hK hg => ?_; have g4 : gd 4 = some 40 := hg 4; clear hg; refine cu13 fun K1 hK1 => ?_; go_simp; refine hK1 _ _ ?_; clear hK1 K1; go_simp; refine hK _ _ ?_; clear hK K' gd g4; refine Wp.keep [0, 2, 4, 7, 8, 17, 18, 19, 50] ?_; rintro r20 ⟨e0_20, e2_20, e4_20, e7_20, e8_20, e17_20, e18_20, e19_20, e50_20, -⟩; simp [go_sem, e0_15, e2_15, e4_15, e5_15, e7_15, e8_15, e17_15, e18_15, e19_15, e35_15] at e0_20 e2_20 e4_20 e7_20 e8_20 e17_20 e18_20 e19_20 e50_20; clear e0_15 e2_15 e4_15 e5_15 e7_15 e8_15 e17_15 e18_15 e19_15 e35_15; refine cFf ?_; obtain ⟨hS1, hS2, k6⟩ := face_set (x2 := x2) (y2 := y2) (z2 := z2) (show FaceC P5 n4 (x, y, z) from ⟨⟨c4_0, c4_1, c4_2⟩, f4, t4⟩) c7_2 (show n7 ≠ n4 by omega); refine skN ?_; refine Wp.loneDrawT (.inl rfl) mixed (.rd [0] (.both (.act 1 false (.both (.act 2 false (.act 3 true (.act 4 true .done))) (.act 3 true (.act 2 false (.act 4 true .done))))) (.act 3 true (.act 1 false (.act 2 false (.act 4 true .done)))))) (by kernel_rfl) (fun ρ W => AllEq [0, 2, 4, 17, 18, 19] ρ r20 ∧ (ρ 5 = .int .i64 s.alts[k].day ∧ FaceC W n4 (x2, y2, z2) ∧ Chg [n4] P5 W)) (fun K' gd hK hg => ?_) ?_
            · skip; clear hg; simp only [pickT, nth, List.map_cons, List.map_nil]; apply Mtree.reads
              · intro w' hE'; have hC' := hE'.cellsS; go_simp; with_reducible rfl
              repeat' first
                | refine Mtree.two ?_ ?_
                | (refine Mtree.fin ?_; refine hK _ _ ⟨by simp [AllEq, go_sem], ?_⟩; exact ⟨by go_simp, hS1, hS2⟩)
                | (refine Mtree.stepT fun K1 hK1 => ?_; go_simp; refine hK1 _ _ ?_; clear hK1 K1)
                | (refine Mtree.step fun K1 hK1 => ?_; go_simp; refine hK1 _ _ XA ?_; clear hK1 K1)
            · rintro r21 W ⟨hA, e5, hC3, xg⟩; obtain ⟨e0_21, e2_21, e4_21, e17_21, e18_21, e19_21, -⟩ := hA; rw [e0_20] at e0_21; rw [e2_20] at e2_21; rw [e4_20] at e4_21; rw [e17_20] at e17_21; rw [e18_20] at e18_21; rw [e19_20] at e19_21; clear e0_20 e2_20 e4_20 e7_20 e8_20 e17_20 e18_20 e19_20 e50_20; refine Ends.mk ?_; refine bNo ?_; refine tNo ?_; refine lRg fun K' gd hK => ?_; go_simp; refine hK _ _ ?_; clear hK K' gd; refine Ends.keep [0, 2, 4, 5, 17, 18, 19] ?_; rintro r22 ⟨e0_22, e2_22, e4_22, e5_22, e17_22, e18_22, e19_22, -⟩; simp [go_sem, e0_21, e2_21, e4_21, e5, e17_21, e18_21, e19_21] at e0_22 e2_22 e4_22 e5_22 e17_22 e18_22 e19_22; clear e0_21 e2_21 e4_21 e5 e17_21 e18_21 e19_21; refine Ends.mk ?_; refine thenK_normal ⟨by omega, ⟨by rw [e0_22, e0_4], by rw [e2_22, e2_4], by rw [e4_22, e4_4], by rw [e17_22, e17_4], by rw [e18_22, e18_4], trivial⟩, rfl, trivial, ?_⟩; exact ⟨_, _, _, _, j, by rw [e19_22, IntWalk.i64_in _ (by omega)]; rfl, e5_22, hJg _ _ _ _ xg (hJE _ _ _ _ xo hJ), hC3, hdr⟩
      · skip; refine skN ?_; refine sBk ?_; refine sRg fun K' gd hK => ?_; refine cu4 fun K1 hK1 => ?_; go_simp; refine hK1 _ _ ?_; clear hK1 K1; refine Wops.absT fun V7_8 n7 hV7_8 R7 => ?_; obtain ⟨q7, hV7_8, s7, kV7_8, f7, r7⟩ := hV7_8; try simp only [q7] at kV7_8 f7 r7 ⊢
        replace f4 := hV7_8.fz c4_0 f4; replace t4 := t4.ext hV7_8; replace xo := xo.trans hV7_8; replace c4_0 := hV7_8.cell c4_0; replace c4_1 := hV7_8.cell c4_1; replace c4_2 := hV7_8.cell c4_2; replace ui := hV7_8.cell ui; have c7_3 := kV7_8 3 _ rfl; have c7_4 := kV7_8 4 _ rfl; clear kV7_8 hV7_8; clear r7; try simp only [Wops_nil, updO_some, updO_none]
        refine hK _ _ ?_; clear hK K' gd; refine Wp.keep [0, 2, 4, 5, 7, 17, 18, 19] ?_; rintro r23 ⟨e0_23, e2_23, e4_23, e5_23, e7_23, e17_23, e18_23, e19_23, -⟩; simp [go_sem, e0_6, e2_6, e4_6, e5_6, e17_6, e18_6, e19_6, e20_6] at e0_23 e2_23 e4_23 e5_23 e7_23 e17_23 e18_23 e19_23; clear e0_6 e2_6 e4_6 e5_6 e17_6 e18_6 e19_6 e20_6; refine sRg fun K' gd hK => ?_; refine cu3 fun K1 hK1 => ?_; go_simp; refine hK1 _ _ ?_; clear hK1 K1; refine Wops.absT fun V8_9 n8 hV8_9 R8 => ?_; obtain ⟨q8, hV8_9, s8, kV8_9, f8, r8⟩ := hV8_9; try simp only [q8] at kV8_9 f8 r8 ⊢
        replace f4 := hV8_9.fz c4_0 f4; replace t4 := t4.ext hV8_9; replace xo := xo.trans hV8_9; replace c4_0 := hV8_9.cell c4_0; replace c4_1 := hV8_9.cell c4_1; replace c4_2 := hV8_9.cell c4_2; replace ui := hV8_9.cell ui; replace c7_3 := hV8_9.cell c7_3; replace c7_4 := hV8_9.cell c7_4; have c8_0 := kV8_9 0 _ rfl; have c8_1 := kV8_9 1 _ rfl; have c8_2 := kV8_9 2 _ rfl; clear kV8_9 hV8_9; clear r8; try simp only [Wops_nil, updO_some, updO_none]
        refine hK _ _ ?_; clear hK K' gd; refine Wp.keep [0, 2, 4, 5, 7, 8, 17, 18, 19] ?_; rintro r24 ⟨e0_24, e2_24, e4_24, e5_24, e7_24, e8_24, e17_24, e18_24, e19_24, -⟩; simp [go_sem, e0_23, e2_23, e4_23, e5_23, e7_23, e17_23, e18_23, e19_23] at e0_24 e2_24 e4_24 e5_24 e7_24 e8_24 e17_24 e18_24 e19_24; clear e0_23 e2_23 e4_23 e5_23 e7_23 e17_23 e18_23 e19_23; refine Wp.seq ?_; refine sRg fun K' gd hK => ?_; refine cu6 fun K1 hK1 => ?_; go_simp; refine Wcall (.inl rfl) (within_F hh _) ?_; rintro v w4 ⟨rfl, hE⟩; go_simp; refine hK1 _ _ ?_; clear hK1 K1; replace f4 := hE.fz c4_0 f4; replace t4 := t4.ext hE; replace xo := xo.trans hE; replace c4_0 := hE.cell c4_0; replace c4_1 := hE.cell c4_1; replace c4_2 := hE.cell c4_2; replace c8_0 := hE.cell c8_0; replace c8_1 := hE.cell c8_1; replace c8_2 := hE.cell c8_2; clear hE; try simp only [Wops_nil, updO_some, updO_none]
        refine hK _ _ ?_; clear hK K' gd; refine Wp.keep [0, 2, 4, 5, 7, 8, 17, 18, 19, 29] ?_; rintro r26 ⟨e0_26, e2_26, e4_26, e5_26, e7_26, e8_26, e17_26, e18_26, e19_26, e29_26, -⟩; simp [go_sem, e0_24, e2_24, e4_24, e5_24, e7_24, e8_24, e17_24, e18_24, e19_24] at e0_26 e2_26 e4_26 e5_26 e7_26 e8_26 e17_26 e18_26 e19_26 e29_26; clear e0_24 e2_24 e4_24 e5_24 e7_24 e8_24 e17_24 e18_24 e19_24; refine cFf ?_; refine skN ?_; refine Wp.seq ?_; refine sRg fun K' gd hK => ?_; go_simp; refine hK _ _ ?_; clear hK K' gd; refine Wp.keep [0, 2, 4, 5, 7, 8, 17, 18, 19, 35] ?_; rintro r27 ⟨e0_27, e2_27, e4_27, e5_27, e7_27, e8_27, e17_27, e18_27, e19_27, e35_27, -⟩; simp [go_sem, e0_26, e2_26, e4_26, e5_26, e7_26, e8_26, e17_26, e18_26, e19_26, e29_26] at e0_27 e2_27 e4_27 e5_27 e7_27 e8_27 e17_27 e18_27 e19_27 e35_27; clear e0_26 e2_26 e4_26 e5_26 e7_26 e8_26 e17_26 e18_26 e19_26 e29_26; refine cTt ?_; refine Wp.exit ?_; refine tEx ?_; refine blockK_here ?_; refine tNo ?_; refine lRg fun K' gd hK => ?_; go_simp; refine hK _ _ ?_; clear hK K' gd; refine Ends.keep [0, 2, 4, 5, 17, 18, 19] ?_; rintro r28 ⟨e0_28, e2_28, e4_28, e5_28, e17_28, e18_28, e19_28, -⟩; simp [go_sem, e0_27, e2_27, e4_27, e5_27, e7_27, e8_27, e17_27, e18_27, e19_27, e35_27] at e0_28 e2_28 e4_28 e5_28 e17_28 e18_28 e19_28
        clear e0_27 e2_27 e4_27 e5_27 e7_27 e8_27 e17_27 e18_27 e19_27 e35_27; refine Ends.mk ?_; refine thenK_normal ⟨by omega, ⟨by rw [e0_28, e0_4], by rw [e2_28, e2_4], by rw [e4_28, e4_4], by rw [e17_28, e17_4], by rw [e18_28, e18_4], trivial⟩, rfl, trivial, ?_⟩; exact ⟨_, _, _, d, j, by rw [e19_28, IntWalk.i64_in _ (by omega)]; rfl, e5_28, hJE _ _ _ _ xo hJ, ⟨⟨c4_0, c4_1, c4_2⟩, f4, t4⟩, by rw [hdr, if_pos (by unfold nxt; rw [if_neg hh])]⟩
    · refine cFf ?_; obtain rfl : k = s.alts.length := by omega
      rw [List.drop_length, facesL] at hdr; obtain ⟨⟨c4_0, c4_1, c4_2⟩, f4, t4⟩ := hC
      dsimp only at c4_0 c4_1 c4_2
      obtain ⟨hj1, hj2⟩ := drop_next hdr; obtain ⟨fn, tmps, as_, bo, hy, hR1⟩ := hY n4 j _ wk wk hj1 hJ xo ⟨⟨c4_0, c4_1, c4_2⟩, f4, t4⟩; simp only [encF] at hy; refine Wp.exit ?_; refine tEx ?_; refine tEx ?_; refine blockK_here ?_; refine tNo ?_; refine lRg fun K' gd hK => ?_; refine cu5 fun K1 hK1 => ?_; go_simp; refine Wyield (hR1) ?_; rintro e w1 (⟨rfl, ⟨hJ2, hC2, hKp⟩⟩ | ⟨rfl, hJx⟩)
      · refine ⟨_, rfl, ?_⟩; clear f4; clear xo; clear c4_0; clear c4_1; clear c4_2; clear t4; have hz1 := (List.getElem?_eq_some_iff.1 hj1).1; have hz2 : (s.faces i).length = j + 1 := by have := congrArg List.length hj2; rw [List.length_drop] at this; simp at this; omega
        go_simp; refine hK1 _ _ ?_; clear hK1 K1; try simp only [Wops_nil, updO_some, updO_none]
        refine hK _ _ ?_; clear hK K' gd; refine Ends.keep [] fun r29 hkeep => ?_; clear hkeep; clear e0_6 e2_6 e4_6 e5_6 e17_6 e18_6 e19_6 e20_6; refine Ends.mk ?_; refine endN_none Try.results126 ?_; exact .inl ⟨n4, by rw [hz2]; exact hJ2⟩
      · refine ⟨_, rfl, ?_⟩; clear f4; clear xo; clear c4_0; clear c4_1; clear c4_2; clear t4; go_simp; refine hK1 _ _ ?_; clear hK1 K1; try simp only [Wops_nil, updO_some, updO_none]
        refine hK _ _ ?_; clear hK K' gd; refine Ends.keep [] fun r30 hkeep => ?_; clear hkeep; clear e0_6 e2_6 e4_6 e5_6 e17_6 e18_6 e19_6 e20_6; refine Ends.mk ?_; refine endN_none Try.results126 ?_; exact .inr hJx
end Go.Proofs.Ytnjajbkkgfohaaa
namespace Go.Proofs.Ytnjajbkkgfohaaa
open Go.RowKit Go.Wk Go.Proofs
theorem app_run2 {P : Program} {t e : TypeId} {size : Nat} (T : ElemT P t e size) {w : World} {base : Nat} {v : Value} {n : Nat} {xs : List Value} (hown : w.ownsRow base e size v n xs)
    (a : Addr) (m c : Nat) (news : List Value) (ty : TypeId) (hl : news.length = m * size) (hnews : ∀ j u, news[j]? = some u → w.cell? (a.add j) = some u) (h1 : ∀ u ∈ news, u.oneCell' = true)
    (hn : n + m ≤ 10000000000) (hbase : base ≤ w.heap.size) :
    ∃ v' w', (Builtin.append_ #[t, t] ty #[v, .slice (some a) m c]).run P w = .ok v' w' ∧ w'.ownsRow base e size v' (n + m) (xs ++ news) ∧ w.grownBy w' v.ownBlock ∧
      (v'.ownBlock = v.ownBlock ∨ v'.ownBlock = some w.heap.size) := by
  obtain ⟨i, z, h1', h2, h3, h4, h5, h6, h7⟩ := T.ex; obtain ⟨v', w', hr, ho, hg, hnil⟩ := app_run T hown a m c news ty hl hnews h1 hn hbase; refine ⟨v', w', hr, ho, hg, ?_⟩; have hb : (n + m) * i.bytes ≤ 140737488355328 := Nat.le_trans (Nat.mul_le_mul hn h7) (by decide)
  rcases hown.2 with ⟨rfl, rfl⟩ | ⟨g, cap, cur, rfl, hbg, hgc, hnc, hcm, hcs, htake⟩
  · by_cases hm : m = 0
    · subst hm; exact .inl (by rw [hnil.2 ⟨rfl, rfl⟩])
    · have hx := run_append_nil (P := P) w t ty e i z h1' h2 h3 a m c news (by rw [h4]; exact hl) hnews (by omega) (by omega) (by simp only [Nat.zero_add] at hb; omega); rw [hr] at hx
      injection hx with hx _
      right; rw [hx]; rfl
  · by_cases hroom : n + m ≤ cap
    · have hfit : n * i.size + news.length ≤ cur.size := by rw [hl, hcs, h4, ← Nat.add_mul]; exact Nat.mul_le_mul_right _ hroom
      have hx := run_append_room (P := P) w t ty e i h1' h2 g n cap cur hgc a m c news (by rw [h4]; exact hl) hnews h1 hroom hfit; rw [hr] at hx
      injection hx with hx _
      left; rw [hx]; rfl
    · have holds : ∀ j u, xs[j]? = some u → w.cell? ((⟨g, 0, none⟩ : Addr).add j) = some u := hown.cells (g := g) rfl; have hx := run_append_grow (P := P) w t ty e i z h1' h2 h3 ⟨g, 0, none⟩ n cap xs (by rw [h4]; exact hown.1) holds a m c news (by rw [h4]; exact hl) hnews (by omega) (by omega) (growslice_fits (by omega) hb); rw [hr] at hx
      injection hx with hx _
      right; rw [hx]; rfl
structure OutG (w : World) (base g lo hi : Nat) (e : TypeId) (size : Nat) (v : Value) (n : Nat) (xs : List Value) : Prop where
  own : w.ownsRow base e size v n xs
  off : ∀ k, v.ownBlock = some k → k ≠ g ∧ (k < lo ∨ hi ≤ k)
theorem ownsRow_chg {w w' : World} {base e size n : Nat} {v : Value} {xs : List Value} {L : List Nat} (h : w.ownsRow base e size v n xs) (hC : Chg L w w') (hL : ∀ b, v.ownBlock = some b → b ∉ L) : w'.ownsRow base e size v n xs := by
  refine ⟨h.1, ?_⟩
  rcases h.2 with hn | ⟨g, cap, cur, rfl, hb, hg, rest⟩
  · exact .inl hn
  · exact .inr ⟨g, cap, cur, rfl, hb, (hC.block g (Array.getElem?_eq_some_iff.1 hg).1 (hL g rfl)).trans hg, rest⟩
section
variable {w w' : World} {base g lo hi : Nat} {e : TypeId} {size n : Nat} {v : Value} {xs : List Value}
theorem OutG.lt (h : OutG w base g lo hi e size v n xs) : ∀ k, v.ownBlock = some k → base ≤ k ∧ k < w.heap.size ∧ k ≠ g ∧ (k < lo ∨ hi ≤ k) := fun k hk => ⟨(h.own.lt k hk).1, (h.own.lt k hk).2, h.off k hk⟩
theorem OutG.ext (h : OutG w base g lo hi e size v n xs) (hE : Ext w w') : OutG w' base g lo hi e size v n xs := ⟨ownsRow_ext h.own hE, h.off⟩
theorem OutG.adm {m : Nat} (h : OutG w base g lo hi e size v n xs) (hE : Adm m w w') : OutG w' base g lo hi e size v n xs := ⟨ownsRow_adm h.own hE, h.off⟩
theorem OutG.chg {L : List Nat} (h : OutG w base g lo hi e size v n xs) (hC : Chg L w w') (hL : ∀ b, base ≤ b ∧ b ≠ g ∧ (b < lo ∨ hi ≤ b) → b ∉ L) : OutG w' base g lo hi e size v n xs :=
  ⟨ownsRow_chg h.own hC fun b hb => hL b ⟨(h.own.lt b hb).1, h.off b hb⟩, h.off⟩
theorem OutG.put {b i : Nat} {vs : List Value} (h : OutG w base g lo hi e size v n xs) (p : Put w w' b i vs) (hb : b < base ∨ b = g ∨ lo ≤ b ∧ b < hi) : OutG w' base g lo hi e size v n xs :=
  h.chg p.chg fun k hk => by simp; omega
theorem OutG.free (h : OutG w base g lo hi e size v n xs) : OutG w base g 0 0 e size v n xs := ⟨h.own, fun k hk => ⟨(h.off k hk).1, .inr (Nat.zero_le _)⟩⟩
theorem OutG.below {l h' : Nat} (h : OutG w base g lo hi e size v n xs) (hl : w.heap.size ≤ l) : OutG w base g l h' e size v n xs := ⟨h.own, fun k hk => ⟨(h.off k hk).1, .inl (Nat.lt_of_lt_of_le (h.own.lt k hk).2 hl)⟩⟩
theorem OutG.lohi {a b l h' : Nat} (h : OutG w base g a b e size v n xs) (hl : ∀ k, v.ownBlock = some k → k < l) : OutG w base g l h' e size v n xs := ⟨h.own, fun k hk => ⟨(h.off k hk).1, .inl (hl k hk)⟩⟩
theorem OutG.nil (w : World) (base g lo hi : Nat) (e : TypeId) (size : Nat) : OutG w base g lo hi e size (.slice none 0 0) 0 [] := ⟨World.ownsRow_nil _ _ _ _, fun k hk => by cases hk⟩
theorem OutG.hi' {hi2 : Nat} (h : OutG w base g lo hi e size v n xs) (hw : w.heap.size ≤ lo) : OutG w base g lo hi2 e size v n xs := h.below hw
theorem OutG.app {P : Program} {t : TypeId} (T : ElemT P t e size) (h : OutG w base g lo hi e size v n xs)
    (a : Addr) (m c : Nat) (news : List Value) (ty : TypeId) (hl : news.length = m * size) (hnews : ∀ j u, news[j]? = some u → w.cell? (a.add j) = some u) (h1 : ∀ u ∈ news, u.oneCell' = true)
    (hn : n + m ≤ 10000000000) (hbase : base ≤ w.heap.size) (hg : g < w.heap.size) (hhi : hi ≤ w.heap.size) :
    ∃ v' w', (Builtin.append_ #[t, t] ty #[v, .slice (some a) m c]).run P w = .ok v' w' ∧ OutG w' base g lo hi e size v' (n + m) (xs ++ news) ∧ w.grownBy w' v.ownBlock := by
  obtain ⟨v', w', h1', h2, h3, h4⟩ := app_run2 T h.own a m c news ty hl hnews h1 hn hbase; refine ⟨v', w', h1', ⟨h2, fun k hk => ?_⟩, h3⟩
  rcases h4 with h4 | h4
  · exact h.off k (h4 ▸ hk)
  · rw [h4] at hk; injection hk with hk; omega
end
theorem ownsRow_slice {w : World} {base e size n : Nat} {v : Value} {xs : List Value} (h : w.ownsRow base e size v n xs) : ∃ A c, v = .slice A n c := by
  rcases h.2 with ⟨rfl, rfl⟩ | ⟨g, cap, cur, rfl, -⟩
  · exact ⟨none, 0, rfl⟩
  · exact ⟨_, _, rfl⟩
theorem q_off {row : Option Nat} {base T g lo hi b : Nat} (q : ∀ k, row = some k → base ≤ k ∧ k < T ∧ k ≠ g ∧ (k < lo ∨ hi ≤ k)) (h : b < base ∨ T ≤ b ∨ b = g ∨ lo ≤ b ∧ b < hi) : b ∉ row.toList := fun hm => by
  have := q b (by simpa using hm); omega
theorem q_ge {row : Option Nat} {base T g lo hi X : Nat} (q : ∀ k, row = some k → base ≤ k ∧ k < T ∧ k ≠ g ∧ (k < lo ∨ hi ≤ k)) (h : X ≤ base) : ∀ b ∈ row.toList, X ≤ b := fun b hm => by
  have := q b (by simpa using hm); omega
theorem q_gm {row : Option Nat} {base T g lo hi X : Nat} {L : List Nat} (q : ∀ k, row = some k → base ≤ k ∧ k < T ∧ k ≠ g ∧ (k < lo ∨ hi ≤ k)) (h : X ≤ base) : ∀ b ∈ row.toList, X ≤ b ∨ b ∈ L := fun b hm => .inl (q_ge q h b hm)
section
variable {A B C : World}
theorem keep_ext (h : KeepsOthers A B) (hE : Ext B C) : KeepsOthers A C := h.trans (KeepsOthers.of_ext hE)
theorem setL_others (b : Nat) : ∀ (vs : List Value) (w : World) (i k : Nat) (o : Obj), w.heap[k]? = some o → o.isCells = false → (setL w b i vs).heap[k]? = some o
  | [], _, _, _, _, h, _ => h
  | v :: vs, w, i, k, o, h, ho => by
    refine setL_others b vs _ (i + 1) k o ?_ ho; unfold World.setCell
    dsimp only
    rw [Array.getElem?_modify]
    split
    · rename_i e
      rw [e, h]
      cases o <;> first | rfl | (simp [Obj.isCells] at ho)
    · exact h
theorem keep_put {b i : Nat} {vs : List Value} (h : KeepsOthers A B) (p : Put B C b i vs) : KeepsOthers A C :=
  ⟨Nat.le_trans h.size p.chg.size, fun k o hk ho => by rw [p.eq]; exact setL_others b vs B i k o (h.same k o hk ho) ho⟩
theorem keep_grown {base e size n : Nat} {v : Value} {xs : List Value} (h : KeepsOthers A B) (ho : B.ownsRow base e size v n xs) (hg : B.grownBy C v.ownBlock) : KeepsOthers A C :=
  ⟨Nat.le_trans h.size hg.size, fun k o hk hc => by
    have h1 := h.same k o hk hc; refine (hg.block k (Array.getElem?_eq_some_iff.1 h1).1 fun e => ?_).trans h1
    rcases ho.2 with ⟨rfl, -⟩ | ⟨g, cap, cur, rfl, -, hgc, -⟩
    · cases e
    · injection e with e
      replace e : g = k := e.symm; subst e
      rw [h1] at hgc; injection hgc with hgc; subst hgc; cases hc⟩
structure KeepR (A B : World) : Prop where
  k : KeepsOthers A B
theorem KeepR.ext (h : KeepR A B) (hE : Ext B C) : KeepR A C := ⟨keep_ext h.k hE⟩
theorem KeepR.put {b i : Nat} {vs : List Value} (h : KeepR A B) (p : Put B C b i vs) (_ : 0 = 0) : KeepR A C := ⟨keep_put h.k p⟩
theorem KeepR.grown {base e size n : Nat} {v : Value} {xs : List Value} (h : KeepR A B) (ho : B.ownsRow base e size v n xs) (hg : B.grownBy C v.ownBlock) : KeepR A C := ⟨keep_grown h.k ho hg⟩
end
theorem encI_add (xs : List Int) (x : Int) : (xs ++ [x]).map (Value.int .i64) = xs.map (Value.int .i64) ++ [.int .i64 x] := by simp
theorem take_one {α : Type} {l : List α} {k : Nat} {x : α} (h : l[k]? = some x) : l.take (k + 1) = l.take k ++ [x] := by rw [List.take_add_one, h]; rfl
theorem OutG.ints {w : World} {base g lo hi : Nat} {v : Value} {l : List Int} (h : OutG w base g lo hi 3 1 v l.length (l.map (Value.int .i64))) : OwnI w base v l := h.own
theorem FacesD.chg {W V : World} {L : List Nat} {bs bi : Nat} {s : Sh} {i : Nat} {b o n c : Nat} {A : Option Addr} {c2 : Nat} (h : FacesD W bs bi s i b o n c A c2) (hC : Chg L W V) (h1 : bs ∉ L) (h2 : bi ∉ L) (h3 : b ∉ L)
    (h4 : AltsV V V.heap.size (.slice A s.alts.length c2) s.alts) : FacesD V bs bi s i b o n c A c2 :=
  ⟨Chg.cell hC h.c0 h1, Chg.cell hC h.c1 h1, Chg.cell hC h.ci h2, Chg.cell hC h.cw h3, h4⟩
end Go.Proofs.Ytnjajbkkgfohaaa
namespace Go.Proofs.Ytnjajbkkgfohaaa
open Go.RowKit Go.Wk Go.Proofs
attribute [local irreducible] Go.Wk.Wops Go.Wk.Wp Go.Wk.Mtree Go.Wk.Mops
set_option maxHeartbeats 8000000
set_option maxRecDepth 20000
theorem indexE_c (v : Value) (xs : List Int) (y : Int) (w : World) (hx : IntsV w w.heap.size v xs) (hl : xs.length ≤ 1000000000000000) :
    CallsV Try.prog 128 #[v, .int .i64 y] w fun v w' => ∃ r : Int, v = .int .i64 r ∧ decide (0 ≤ r) = decide (y ∈ xs) ∧ Ext w w' := by
  obtain ⟨A, c, rfl, hx, -⟩ := hx; refine Wp.fn Try.func128 rfl Try.ntmps128 (by simp) ?_; refine Wp.keep [0, 1] ?_; rintro r1 ⟨e0_1, e1_1, -⟩; simp [go_sem] at e0_1 e1_1; refine sRg fun K' gd hK => ?_; go_simp; refine hK _ _ ?_; clear hK K' gd; refine Wp.keep [0, 1] ?_; rintro r2 ⟨e0_2, e1_2, -⟩; simp [go_sem, e0_1, e1_1] at e0_2 e1_2; clear e0_1 e1_1; refine Wp.seq ?_; refine sRg fun K' gd hK => ?_; go_simp; refine hK _ _ ?_; clear hK K' gd; refine Wp.keep [0, 1, 7, 8] ?_; rintro r3 ⟨e0_3, e1_3, e7_3, e8_3, -⟩; simp [go_sem, e0_2, e1_2] at e0_3 e1_3 e7_3 e8_3; clear e0_2 e1_2; refine Wp.block ?_; refine Wp.loop (fun k ρ ds wk => AllEq [0, 1, 7] ρ r3 ∧ ds = [] ∧ (ρ 8 = .int .i64 (k : Int) ∧ (y ∉ xs.take k) ∧ Ext w wk)) (xs.length) ?_ ?_
  · refine ⟨AllEq.refl _ _, rfl, ?_⟩; exact ⟨by rw [e8_3]; rfl, by simp, Ext.refl w⟩
  · rintro k r4 _ wk hk ⟨hA, rfl, ⟨e8, hn, hE⟩⟩; obtain ⟨e0_4, e1_4, e7_4, -⟩ := hA; rw [e0_3] at e0_4; rw [e1_3] at e1_4; rw [e7_3] at e7_4; refine sRg fun K' gd hK => ?_; go_simp; refine hK _ _ ?_; clear hK K' gd; refine Wp.keep [0, 1, 7, 8, 9] ?_; rintro r5 ⟨e0_5, e1_5, e7_5, e8_5, e9_5, -⟩; simp [go_sem, e0_4, e1_4, e7_4, e8] at e0_5 e1_5 e7_5 e8_5 e9_5; clear e0_4 e1_4 e7_4 e8; refine Wp.seq ?_
    by_cases h : k < xs.length
    · refine cTt ?_; obtain ⟨b, o, rfl, hb, hc⟩ := hx (by intro e; rw [e] at h; exact absurd h (Nat.not_lt_zero _)); have c1 := hE.cell (hc k h); refine skN ?_; refine sBk ?_; refine sRg fun K' gd hK => ?_; go_simp; refine hK _ _ ?_; clear hK K' gd; refine Wp.keep [0, 1, 5, 7, 8] ?_; rintro r6 ⟨e0_6, e1_6, e5_6, e7_6, e8_6, -⟩; simp [go_sem, e0_5, e1_5, e7_5, e8_5, e9_5] at e0_6 e1_6 e5_6 e7_6 e8_6; clear e0_5 e1_5 e7_5 e8_5 e9_5; refine sRg fun K' gd hK => ?_; go_simp; refine hK _ _ ?_; clear hK K' gd; refine Wp.keep [0, 1, 5, 7, 8, 16] ?_; rintro r7 ⟨e0_7, e1_7, e5_7, e7_7, e8_7, e16_7, -⟩; simp [go_sem, e0_6, e1_6, e5_6, e7_6, e8_6] at e0_7 e1_7 e5_7 e7_7 e8_7 e16_7; clear e0_6 e1_6 e5_6 e7_6 e8_6
      by_cases hq : y = xs[k]
      · refine cTt ?_; refine sRg fun K' gd hK => ?_; go_simp; refine hK _ _ ?_; clear hK K' gd; refine Wp.keep [4] ?_; rintro r8 ⟨e4_8, -⟩; simp [go_sem, e0_7, e1_7, e5_7, e7_7, e8_7, e16_7] at e4_8; clear e0_7 e1_7 e5_7 e7_7 e8_7 e16_7; refine Wp.ret ?_; refine bRe ?_; refine tRe ?_; refine tRe ?_; refine bRe ?_; refine tRe ?_; refine endK_tmp Try.results128 (by decide) ?_; rw [e4_8]; refine ⟨_, rfl, ?_, hE⟩; rw [decide_eq_true (show y ∈ xs by rw [hq]; exact List.getElem_mem h)]; simp
      · refine cFf ?_; refine Wp.skip ?_; refine bNo ?_; refine tNo ?_; refine lRg fun K' gd hK => ?_; go_simp; refine hK _ _ ?_; clear hK K' gd; refine Ends.keep [0, 1, 7, 8] ?_; rintro r9 ⟨e0_9, e1_9, e7_9, e8_9, -⟩; simp [go_sem, e0_7, e1_7, e5_7, e7_7, e8_7, e16_7] at e0_9 e1_9 e7_9 e8_9; clear e0_7 e1_7 e5_7 e7_7 e8_7 e16_7; refine Ends.mk ?_; refine thenK_normal ⟨by omega, ⟨by rw [e0_9, e0_3], by rw [e1_9, e1_3], by rw [e7_9, e7_3], trivial⟩, rfl, ?_⟩; refine ⟨by rw [e8_9, IntWalk.i64_in _ (by omega)]; rfl, ?_, hE⟩; rw [List.take_add_one, List.getElem?_eq_getElem h]; simp only [Option.toList_some, List.mem_append, List.mem_singleton]; rintro (h' | h'); exact hn h'; exact hq h'
    · refine cFf ?_; refine Wp.exit ?_; refine tEx ?_; refine tEx ?_; refine blockK_here ?_; refine tNo ?_; refine sRg fun K' gd hK => ?_; go_simp; refine hK _ _ ?_; clear hK K' gd; refine Wp.keep [4] ?_; rintro r10 ⟨e4_10, -⟩; simp [go_sem, e0_5, e1_5, e7_5, e8_5, e9_5] at e4_10; clear e0_5 e1_5 e7_5 e8_5 e9_5; refine Wp.ret ?_; refine endK_tmp Try.results128 (by decide) ?_; rw [e4_10]; obtain rfl : k = xs.length := by omega
      rw [List.take_length] at hn; exact ⟨_, rfl, by rw [decide_eq_false hn]; rfl, hE⟩
theorem containsE_c (v : Value) (xs : List Int) (y : Int) (w : World) (hx : IntsV w w.heap.size v xs) (hl : xs.length ≤ 1000000000000000) :
    CallsV Try.prog 78 #[v, .int .i64 y] w fun v w' => v = .bool (decide (y ∈ xs)) ∧ Ext w w' := by
  refine Wp.fn Try.func78 rfl Try.ntmps78 (by simp) ?_; refine Wp.keep [0, 1] ?_; rintro r1 ⟨e0_1, e1_1, -⟩; simp [go_sem] at e0_1 e1_1; refine sRg fun K' gd hK => ?_; go_simp; refine hK _ _ ?_; clear hK K' gd; refine Wp.keep [0, 1] ?_; rintro r2 ⟨e0_2, e1_2, -⟩; simp [go_sem, e0_1, e1_1] at e0_2 e1_2; clear e0_1 e1_1; refine sRg fun K' gd hK => ?_; go_simp; refine Wcall (.inl rfl) (indexE_c v xs y w hx hl) ?_; rintro v w2 ⟨r, rfl, hr, hE⟩; go_simp; refine hK _ _ ?_; clear hK K' gd; refine Wp.keep [4] ?_; rintro r3 ⟨e4_3, -⟩; simp [go_sem, e0_2, e1_2] at e4_3; clear e0_2 e1_2; refine Wp.ret ?_; refine endK_tmp Try.results78 (by decide) ?_; rw [e4_3]; exact ⟨by rw [← hr], hE⟩
def nth2 (a b : Int) (j : Nat) : Int := if j = 0 then a else b
@[go_sem] theorem idx2 (a b : Int) (j : Nat) (hj : (j : Int) < 2) (w : World) : (Instr.index 115 (.agg #[.int .i64 a, .int .i64 b]) (.int .i64 (j : Int))).run Try.prog w = .ok (.int .i64 (nth2 a b j)) w := by
  rcases (show j = 0 ∨ j = 1 by omega) with rfl | rfl
  · simp [Instr.index, run_underlying Try.underlying115, asIntOf, go_sem, nth2]
  · simp [Instr.index, run_underlying Try.underlying115, asIntOf, go_sem, nth2]
theorem addW_len (out : List Int) (x : Int) : (addW out x).length ≤ out.length + 1 := by unfold addW; split <;> simp
theorem readsF_len (d : Int) : ∀ (l : List (Int × Int × Face)) (out : List Int), (readsF d l out).length ≤ out.length + 2 * l.length
  | [], out => by simp [readsF]
  | x :: l, out => by
    rw [readsF_cons]; have := readsF_len d l (if x.1 ≤ d ∧ d ≤ x.2.1 then addW (addW out x.2.2.1) x.2.2.2.1 else out); have h1 := addW_len (addW out x.2.2.1) x.2.2.2.1; have h2 := addW_len out x.2.2.1; simp only [List.length_cons]
    split at this <;> rename_i hc <;> simp only [hc, and_self, if_true, if_false] <;> first | omega | (simp only [hc, if_false] at *; omega)
theorem readsF_snoc (d : Int) (l : List (Int × Int × Face)) (x : Int × Int × Face) (out : List Int) : readsF d (l ++ [x]) out = if x.1 ≤ d ∧ d ≤ x.2.1 then addW (addW (readsF d l out) x.2.2.1) x.2.2.2.1 else readsF d l out := by
  unfold readsF; rw [List.foldl_append]; rfl
theorem readsF_take {d : Int} {l : List (Int × Int × Face)} {k : Nat} {x : Int × Int × Face} (h : l[k]? = some x) : readsF d (l.take (k + 1)) [] = if x.1 ≤ d ∧ d ≤ x.2.1 then addW (addW (readsF d (l.take k) []) x.2.2.1) x.2.2.2.1 else readsF d (l.take k) [] := by
  rw [take_one h, readsF_snoc]
theorem lineS_zero {s : Sh} {i : Int} : lineS s i = 0 ↔ checkS s = 0 ∧ 0 ≤ i ∧ i < (s.n : Int) := by
  unfold lineS
  by_cases h : checkS s = 0
  · by_cases h2 : 0 ≤ i ∧ i < (s.n : Int)
    · simp [h, h2]
    · simp only [h, if_true, if_neg h2, true_and, iff_false_intro h2, iff_false]; decide
  · simp [h]
def readE (s : Sh) (i d : Int) : Int := if lineS s i = 0 then (if 0 ≤ d ∧ d ≤ 730 then 0 else 1) else lineS s i
theorem Sh.W_get {s : Sh} {i : Nat} (h : i < s.words.length) : s.words[i] = s.W i := by unfold Sh.W; rw [List.getElem?_eq_getElem h]; rfl
theorem Reads_c (v : Value) (s : Sh) (i d : Int) (w : World) (hV : SheetV w w.heap.size v s) (hf : FitS s) :
    CallsV Try.prog 25 #[v, .int .i64 i, .int .i64 d] w fun v w' => ∃ t, v = .tuple #[t, .int .i64 (readE s i d)] ∧ OwnI w' w.heap.size t (if readE s i d = 0 then readsL (s.on i.toNat d) else []) ∧ Ext w w' := by
  obtain ⟨wv, av, rfl, ⟨A, c1, rfl, hx, -⟩, ⟨A3, c3, rfl, -, -⟩⟩ := id hV; have hA : AltsV w w.heap.size (.slice A3 s.alts.length c3) s.alts := by obtain ⟨wv, av, e, -, h⟩ := hV; injection e with e; simp at e; obtain ⟨-, rfl⟩ := e; exact h
  refine Wp.fnM Try.func25 rfl Try.ntmps25 (by simp) ?_; have xw := Ext.refl w; refine Wp.keep [0, 1, 2] ?_; rintro r1 ⟨e0_1, e1_1, e2_1, -⟩; simp [go_sem] at e0_1 e1_1 e2_1; refine sRg fun K' gd hK => ?_; refine cu1 fun K1 hK1 => ?_; go_simp; refine hK1 _ _ ?_; clear hK1 K1; refine Wops.absA fun V3_1 n3 hV3_1 => ?_; obtain ⟨q3, hV3_1, s3, kV3_1, f3, r3⟩ := hV3_1; try simp only [q3] at kV3_1 f3 r3 ⊢
  replace xw := xw.trans hV3_1; have c3_0 := kV3_1 0 _ rfl; have c3_1 := kV3_1 1 _ rfl; clear kV3_1 hV3_1; clear r3; refine cu1 fun K1 hK1 => ?_; go_simp; refine hK1 _ _ ?_; clear hK1 K1; refine Wops.absA fun V5_2 n5 hV5_2 => ?_; obtain ⟨q5, hV5_2, s5, kV5_2, f5, r5⟩ := hV5_2; try simp only [q5] at kV5_2 f5 r5 ⊢
  replace xw := xw.trans hV5_2; replace c3_0 := hV5_2.cell c3_0; replace c3_1 := hV5_2.cell c3_1; have c5_0 := kV5_2 0 _ rfl; clear kV5_2 hV5_2; clear r5; go_simp; refine hK _ _ ?_; clear hK K' gd; refine Wp.keep [1, 3, 5] ?_; rintro r2 ⟨e1_2, e3_2, e5_2, -⟩; simp [go_sem, e0_1, e1_1, e2_1] at e1_2 e3_2 e5_2; clear e0_1 e1_1 e2_1; refine Wp.seq ?_; refine sRg fun K' gd hK => ?_; refine cu3 fun K1 hK1 => ?_; go_simp; refine Wcall (.inl rfl) (line_c _ s i _ (hV.ext xw) hf) ?_; rintro v w2 ⟨rfl, hE⟩; go_simp; refine hK1 _ _ ?_; clear hK1 K1; have z3 := Below.size hE; replace xw := xw.trans hE; replace c3_0 := hE.cell c3_0; replace c3_1 := hE.cell c3_1; replace c5_0 := hE.cell c5_0; clear hE; go_simp; refine hK _ _ ?_; clear hK K' gd; refine Wp.keep [1, 3, 5, 8] ?_; rintro r4 ⟨e1_4, e3_4, e5_4, e8_4, -⟩; simp [go_sem, e1_2, e3_2, e5_2] at e1_4 e3_4 e5_4 e8_4; clear e1_2 e3_2 e5_2
  by_cases h0 : lineS s i = 0
  · skip; refine sRg fun K' gd hK => ?_; go_simp; refine hK _ _ ?_; clear hK K' gd; refine Wp.keep [1, 3, 5, 8, 18] ?_; rintro r5 ⟨e1_5, e3_5, e5_5, e8_5, e18_5, -⟩; simp [go_sem, e1_4, e3_4, e5_4, e8_4] at e1_5 e3_5 e5_5 e8_5 e18_5; clear e1_4 e3_4 e5_4 e8_4; refine cFf ?_
    by_cases hd : 0 ≤ d ∧ d ≤ 730
    · skip; refine skN ?_; refine Wp.seq ?_; refine sRg fun K' gd hK => ?_; refine cu2 fun K1 hK1 => ?_; go_simp; refine Wcall (.inl rfl) (within_T hd _) ?_; rintro v w3 ⟨rfl, hE⟩; go_simp; refine hK1 _ _ ?_; clear hK1 K1; have z6 := Below.size hE; replace xw := xw.trans hE; replace c3_0 := hE.cell c3_0; replace c3_1 := hE.cell c3_1; replace c5_0 := hE.cell c5_0; clear hE; go_simp; refine hK _ _ ?_; clear hK K' gd; refine Wp.keep [1, 3, 5, 22] ?_; rintro r7 ⟨e1_7, e3_7, e5_7, e22_7, -⟩; simp [go_sem, e1_5, e3_5, e5_5, e8_5, e18_5] at e1_7 e3_7 e5_7 e22_7; clear e1_5 e3_5 e5_5 e8_5 e18_5; refine cFf ?_; have hi : 0 ≤ i ∧ i < (s.n : Int) := (lineS_zero.1 h0).2; obtain ⟨n, rfl⟩ : ∃ n : Nat, i = (n : Int) := ⟨i.toNat, by omega⟩; have hg : Good s := checkS_zero.1 (lineS_zero.1 h0).1; have hnl : n < s.words.length := by have := hi.2; unfold Sh.n at this; omega
      obtain ⟨b, o, rfl, hb, hc⟩ := hx (by rintro e; rw [e] at hnl; exact absurd hnl (Nat.not_lt_zero _)); have yw := xw.cell (hc n hnl); rw [Sh.W_get hnl] at yw; refine skN ?_; refine sRg fun K' gd hK => ?_; refine cu1 fun K1 hK1 => ?_; go_simp; refine hK1 _ _ ?_; clear hK1 K1; refine Wops.absA fun V9_3 n9 hV9_3 => ?_; obtain ⟨q9, hV9_3, s9, kV9_3, f9, r9⟩ := hV9_3; try simp only [q9] at kV9_3 f9 r9 ⊢
      replace xw := xw.trans hV9_3; replace c3_0 := hV9_3.cell c3_0; replace c3_1 := hV9_3.cell c3_1; replace c5_0 := hV9_3.cell c5_0; replace yw := hV9_3.cell yw; have c9_0 := kV9_3 0 _ rfl; clear kV9_3 hV9_3; clear r9; try simp only [Wops_nil, updO_some, updO_none]
      refine hK _ _ ?_; clear hK K' gd; refine Wp.keep [1, 3, 5, 9] ?_; rintro r8 ⟨e1_8, e3_8, e5_8, e9_8, -⟩; simp [go_sem, e1_7, e3_7, e5_7, e22_7] at e1_8 e3_8 e5_8 e9_8; clear e1_7 e3_7 e5_7 e22_7; refine Wp.seq ?_; refine sRg fun K' gd hK => ?_; refine cu3 fun K1 hK1 => ?_; go_simp; refine Wcall (.inl rfl) (faces_c _ (n : Int) _ _ _ rfl rfl rfl) ?_; rintro v w4 ⟨bs, bi, rfl, hE, y0, y1, yi, lbs, lbi⟩; go_simp; refine hK1 _ _ ?_; clear hK1 K1; have z9 := Below.size hE; replace f9 := hE.fz c9_0 f9; replace xw := xw.trans hE; replace c5_0 := hE.cell c5_0; replace yw := hE.cell yw; replace c9_0 := hE.cell c9_0; clear hE; try simp only [Wops_nil, updO_some, updO_none]
      refine hK _ _ ?_; clear hK K' gd; refine Wp.keep [5, 9, 25] ?_; rintro r10 ⟨e5_10, e9_10, e25_10, -⟩; simp [go_sem, e1_8, e3_8, e5_8, e9_8] at e5_10 e9_10 e25_10; clear e1_8 e3_8 e5_8 e9_8; obtain ⟨B0, hB0⟩ : ∃ B0 : Nat, B0 = w4.heap.size := ⟨_, rfl⟩; have l0 := hA.ext xw; refine Wp.block ?_; refine Wp.rangeH (faces_it s n bs bi b o _ c1 A3 c3 hnl hf.2 (fun a ha => ⟨by have := (hg.rt a ha).2.1; omega, (hg.rt a ha).2.1.2⟩)) (by go_simp) (enters_of Try.func126 (by kernel_rfl) rfl) (fun _ _ => rfl) (fun g k W => (Chg [n9] w4 W ∧ (∀ i, W.frozen? ⟨n9, i, none⟩ = false)) ∧ (∃ v, W.cell? ⟨n9, 0, none⟩ = some v ∧ OutG W B0 g 0 0 3 1 v (readsF d ((s.faces n).take k) []).length ((readsF d ((s.faces n).take k) []).map (Value.int .i64)) ∧ (∀ q, v.ownBlock = some q → q < W.heap.size))) (fun _ _ => False) ?_ ?_ ?_ ?_ ?_ ?_ ?_
      · rintro g k W ⟨⟨xr, gf9⟩, ⟨v9, gc9_0, hO, hlt⟩⟩; exact FacesD.chg ⟨y0, y1, yi, yw, l0⟩ xr (by simp; omega) (by simp; omega) (by simp; omega) (hA.ext (Chg.to xw xr XL))
      · refine ⟨?_, ?_, ?_⟩
        · rintro g k W W' hA ⟨⟨xr, gf9⟩, ⟨v9, gc9_0, hO, hlt⟩⟩; refine ⟨⟨Adm.chg hA xr (Nat.le_refl _), Adm.fz hA gc9_0 gf9⟩, ?_⟩; exact ⟨v9, hA.cell gc9_0, hO.adm hA, fun q hq => Nat.lt_of_lt_of_le (hlt q hq) hA.size⟩
        · rintro g k W W' hgn hA ⟨⟨xr, gf9⟩, ⟨v9, gc9_0, hO, hlt⟩⟩; refine ⟨⟨Chg.more xr hA (mem1 (.inl hgn)), Chg.fz hA gc9_0 gf9 (by simp; omega)⟩, ?_⟩; exact ⟨v9, Chg.cell hA gc9_0 (by simp; omega), hO.chg hA (by simp), fun q hq => Nat.lt_of_lt_of_le (hlt q hq) (Chg.size hA)⟩
        · skip; exact fun g x W W' hA h => facC.adm h hA
      · skip; exact fun _ _ _ _ h => h
      · intro g W hgn hA; refine ⟨⟨Adm.chg hA (Chg.refl _ _) (Nat.le_refl _), Adm.fz hA c9_0 f9⟩, ?_⟩; exact ⟨_, hA.cell c9_0, OutG.nil _ _ _ _ _ _ _, fun q hq => by cases hq⟩
      · rintro l g k x W Wy hx ⟨⟨xr, gf9⟩, ⟨v9, gc9_0, hO, hlt⟩⟩ hVW hCg hl hgn; have zxr := Chg.size xr; clear f9; replace xw := Chg.to xw xr XL; replace c5_0 := Chg.cell xr c5_0 XN; clear c9_0; have f9 := gf9; clear gf9; have c9_0 := gc9_0; clear gc9_0; have z11 := Below.size hVW; replace f9 := hVW.fz c9_0 f9; replace hO := hO.ext hVW; replace xw := xw.trans hVW; replace xr := Chg.ext xr hVW; replace c5_0 := hVW.cell c5_0; replace c9_0 := hVW.cell c9_0; have hKp := Held.refl W Wy; have xb := Ext.refl Wy; simp only [encF, List.zip_toArray, List.zip_cons_cons, List.zip_nil_left, putL_cons, putL_nil]; refine Wp.keep [5, 9, 26, 27] ?_; rintro r12 ⟨e5_12, e9_12, e26_12, e27_12, -⟩; simp [go_sem, e5_10, e9_10, e25_10] at e5_12 e9_12 e26_12 e27_12; refine Wp.seqRegion (.inr ⟨_, rfl⟩) (by kernel_rfl) fun K' gd hK hg => ?_; clear hg; refine cu2 fun K1 hK1 => ?_; go_simp; refine hK1 _ _ ?_; clear hK1 K1; refine Wops.absA fun V10_6 n10 hV10_6 => ?_; obtain ⟨q10, hV10_6, s10, kV10_6, f10, r10⟩ := hV10_6; try simp only [q10] at kV10_6 f10 r10 ⊢
        replace f9 := hV10_6.fz c9_0 f9; replace hO := hO.ext hV10_6; replace hKp := hKp.ext hV10_6; replace hCg := hCg.ext hV10_6; replace xw := xw.trans hV10_6; replace xr := Chg.ext xr hV10_6; replace xb := xb.trans hV10_6; replace c5_0 := hV10_6.cell c5_0; replace c9_0 := hV10_6.cell c9_0; have c10_0 := kV10_6 0 _ rfl; have c10_1 := kV10_6 1 _ rfl; clear kV10_6 hV10_6; clear r10; try simp only [Wops_nil, updO_some, updO_none]
        refine hK _ _ ?_; clear hK K' gd; refine Wp.keep [5, 9, 10, 27] ?_; rintro r13 ⟨e5_13, e9_13, e10_13, e27_13, -⟩; simp [go_sem, e5_12, e9_12, e26_12, e27_12] at e5_13 e9_13 e10_13 e27_13; clear e5_12 e9_12 e26_12 e27_12; refine Wp.loneRegion (.inr ⟨_, rfl⟩) (by kernel_rfl) fun K' gd hK hg => ?_; clear hg; refine cu2 fun K1 hK1 => ?_; go_simp; refine hK1 _ _ ?_; clear hK1 K1; refine Wops.absA fun V11_7 n11 hV11_7 => ?_; obtain ⟨q11, hV11_7, s11, kV11_7, f11, r11⟩ := hV11_7; try simp only [q11] at kV11_7 f11 r11 ⊢
        replace f9 := hV11_7.fz c9_0 f9; replace hO := hO.ext hV11_7; replace hKp := hKp.ext hV11_7; replace hCg := hCg.ext hV11_7; replace xw := xw.trans hV11_7; replace xr := Chg.ext xr hV11_7; replace xb := xb.trans hV11_7; replace c5_0 := hV11_7.cell c5_0; replace c9_0 := hV11_7.cell c9_0; replace c10_0 := hV11_7.cell c10_0; replace c10_1 := hV11_7.cell c10_1; have c11_0 := kV11_7 0 _ rfl; have c11_1 := kV11_7 1 _ rfl; clear kV11_7 hV11_7; clear r11; try simp only [Wops_nil, updO_some, updO_none]
        refine hK _ _ ?_; clear hK K' gd; refine Ends.keep [5, 9, 10, 11] ?_; rintro r14 ⟨e5_14, e9_14, e10_14, e11_14, -⟩; simp [go_sem, e5_13, e9_13, e10_13, e27_13] at e5_14 e9_14 e10_14 e11_14; clear e5_13 e9_13 e10_13 e27_13; refine Ends.mk ?_; refine tNo ?_; refine ⟨KeepsOthers.of_ext xb, fun W2 hA2 hl2 => ?_⟩; replace f9 := Adm.fz hA2 c9_0 f9; replace xw := Adm.toE hA2 xw (by omega); replace xr := Adm.chg hA2 xr (by omega); clear xb; replace hO := hO.adm hA2; replace hKp := hKp.adm hA2; replace hCg := hCg.adm hA2; replace c5_0 := Adm.cell hA2 c5_0; replace c9_0 := Adm.cell hA2 c9_0; replace c10_0 := Adm.cell hA2 c10_0; replace c10_1 := Adm.cell hA2 c10_1; replace c11_0 := Adm.cell hA2 c11_0; replace c11_1 := Adm.cell hA2 c11_1; obtain ⟨lr, hl2⟩ := hl2; have hKO : KeepR W2 W2 := ⟨KeepsOthers.refl _⟩; have zA2 := hA2.size; obtain ⟨L0, hL0⟩ : ∃ L0, ∃ _u : Unit, L0 = readsF d ((s.faces n).take k) [] := ⟨_, (), rfl⟩; have hL1 := readsF_take (d := d) hx; rw [← hL0.choose_spec] at hO hL1; have hLl : L0.length ≤ 1000 := by rw [hL0.choose_spec]; have q1 := readsF_len d ((s.faces n).take k) []; have q2 := faces_len n s.alts (s.W n, 0, false) 0; have q3 := hg.m2; rw [List.length_take] at q1; unfold Sh.faces at *; simp at q1; omega
        by_cases hdd : x.1 ≤ d ∧ d ≤ x.2.1
        · skip; refine Wp.block ?_; refine Wp.seq ?_; refine Wp.seqRegion (.inr ⟨_, rfl⟩) (by kernel_rfl) fun K' gd hK hg => ?_; clear hg; refine cu6 fun K1 hK1 => ?_; go_simp; refine Wcall (.inr ⟨_, rfl⟩) (within_T hdd _) ?_; rintro v w5 ⟨rfl, hE⟩; go_simp; refine hK1 _ _ ?_; clear hK1 K1; have z15 := Below.size hE; replace f9 := hE.fz c9_0 f9; replace hO := hO.ext hE; replace hKp := hKp.ext hE; replace hCg := hCg.ext hE; replace hKO := hKO.ext hE; replace xw := xw.trans hE; replace xr := Chg.ext xr hE; replace c9_0 := hE.cell c9_0; replace c11_0 := hE.cell c11_0; replace c11_1 := hE.cell c11_1; clear hE; go_simp; refine hK _ _ ?_; clear hK K' gd; refine Wp.keep [9, 11, 34] ?_; rintro r16 ⟨e9_16, e11_16, e34_16, -⟩; simp [go_sem, e5_14, e9_14, e10_14, e11_14] at e9_16 e11_16 e34_16; clear e5_14 e9_14 e10_14 e11_14; refine cFf ?_; obtain ⟨H0, hH0⟩ : ∃ H0 : Nat, H0 = w5.heap.size := ⟨_, rfl⟩; obtain ⟨x1, hx1⟩ : ∃ x1, ∃ _u : Unit, x1 = x.2.2.1 := ⟨_, (), rfl⟩; obtain ⟨x2, hx2⟩ : ∃ x2, ∃ _u : Unit, x2 = x.2.2.2.1 := ⟨_, (), rfl⟩; refine skN ?_; refine Wp.seqRegion (.inr ⟨_, rfl⟩) (by kernel_rfl) fun K' gd hK hg => ?_; clear hg; go_simp; refine hK _ _ ?_; clear hK K' gd; refine Wp.keep [9, 36, 37] ?_; rintro r17 ⟨e9_17, e36_17, e37_17, -⟩; simp [go_sem, e9_16, e11_16, e34_16] at e9_17 e36_17 e37_17
          clear e9_16 e11_16 e34_16; refine Wp.block ?_; refine Wp.loop (fun j ρ ds wj => AllEq [9, 36] ρ r17 ∧ ds = [] ∧ True ∧ (∃ v l, ρ 37 = .int .i64 (j : Int) ∧ Chg [n9] w4 wj ∧ Ext w wj ∧ facC wj g x ∧ Held W Wy wj ∧ KeepR W2 wj ∧ wj.cell? ⟨n9, 0, none⟩ = some v ∧ (∀ i, wj.frozen? ⟨n9, i, none⟩ = false) ∧ OutG wj B0 g W.heap.size H0 3 1 v l.length (l.map (Value.int .i64)) ∧ H0 ≤ wj.heap.size ∧ (∃ _u : Unit, l = if j = 0 then L0 else if j = 1 then addW L0 x1 else addW (addW L0 x1) x2))) (2) ?_ ?_
          · refine ⟨AllEq.refl _ _, rfl, trivial, ?_⟩; exact ⟨_, _, by rw [e37_17]; rfl, xr, xw, hCg, hKp, hKO, c9_0, f9, hO.lohi hlt, Nat.le_of_eq hH0, (), rfl⟩
          · skip; try clear c11_2
            try clear c11_1
            try clear c11_0
            try clear c10_1
            try clear c10_0
            try clear c9_0
            try clear yi
            try clear y1
            try clear y0
            try clear yw
            try clear c5_0
            try clear c3_1
            try clear c3_0
            try clear xk
            try clear xr
            try clear xw
            try clear hKO
            try clear hCg
            try clear hKp
            try clear hO
            try clear f11
            try clear f10
            try clear f9
            try clear f5
            try clear f3
            rintro j r18 _ wj hj ⟨hA, rfl, -, ⟨v9, l, e37, xr, xw, hCg, hKp, hKO, c9_0, f9, hO, hH1, hl⟩⟩; obtain ⟨e9_18, e36_18, -⟩ := hA; rw [e9_17] at e9_18; rw [e36_17] at e36_18; refine Wp.seqRegion (.inr ⟨_, rfl⟩) (by kernel_rfl) fun K' gd hK hg => ?_; clear hg; go_simp; refine hK _ _ ?_; clear hK K' gd; refine Wp.keep [9, 36, 37, 38] ?_; rintro r19 ⟨e9_19, e36_19, e37_19, e38_19, -⟩; simp [go_sem, e9_18, e36_18, e37] at e9_19 e36_19 e37_19 e38_19; clear e9_18 e36_18 e37; refine Wp.seq ?_
            by_cases hj : (j : Int) < 2
            · refine cTt ?_; obtain ⟨y, hy⟩ : ∃ y, nth2 x.2.2.1 x.2.2.2.1 j = y := ⟨_, rfl⟩; have hy2 : (if j + 1 = 1 then addW L0 x1 else addW (addW L0 x1) x2) = addW l y := by rcases (show j = 0 ∨ j = 1 by omega) with rfl | rfl; (rw [hl.choose_spec, hx1.choose_spec, ← hy]; rfl); (rw [hl.choose_spec, hx2.choose_spec, ← hy]; rfl)
              have zg := FaceC.lt hCg; have hll : l.length ≤ 1002 := by have q1 := addW_len L0 x1; have q2 := addW_len (addW L0 x1) x2; rw [hl.choose_spec]; split; omega; split <;> omega
              by_cases hy0 : y = 0
              · skip; subst hy0; refine skN ?_; refine sBk ?_; refine Wp.seqRegion (.inr ⟨_, rfl⟩) (by kernel_rfl) fun K' gd hK hg => ?_; clear hg; go_simp; refine hK _ _ ?_; clear hK K' gd; refine Wp.keep [9, 13, 36, 37] ?_; rintro r20 ⟨e9_20, e13_20, e36_20, e37_20, -⟩; simp [go_sem, e9_19, e36_19, e37_19, e38_19] at e9_20 e13_20 e36_20 e37_20; clear e9_19 e36_19 e37_19 e38_19; refine Wp.seqRegion (.inr ⟨_, rfl⟩) (by kernel_rfl) fun K' gd hK hg => ?_; have g2 : gd 2 = some 42 := hg 2; clear hg; refine cu6 fun K1 hK1 => ?_; go_simp; refine hK1 _ _ ?_; clear hK1 K1; go_simp; refine hK _ _ ?_; clear hK K' gd g2; refine Wp.keep [9, 13, 36, 37, 47] ?_; rintro r21 ⟨e9_21, e13_21, e36_21, e37_21, e47_21, -⟩; simp [go_sem, e9_20, e13_20, e36_20, e37_20] at e9_21 e13_21 e36_21 e37_21 e47_21; clear e9_20 e13_20 e36_20 e37_20; refine cFf ?_; refine Wp.skip ?_; refine bNo ?_; refine tNo ?_; refine Wp.loneRegion (.inr ⟨_, rfl⟩) (by kernel_rfl) fun K' gd hK hg => ?_; clear hg; go_simp; refine hK _ _ ?_; clear hK K' gd; refine Ends.keep [9, 36, 37] ?_; rintro r22 ⟨e9_22, e36_22, e37_22, -⟩; simp [go_sem, e9_21, e13_21, e36_21, e37_21, e47_21] at e9_22 e36_22 e37_22; clear e9_21 e13_21 e36_21 e37_21 e47_21; refine Ends.mk ?_; refine thenK_normal ⟨by omega, ⟨by rw [e9_22, e9_17], by rw [e36_22, e36_17], trivial⟩, rfl, trivial, ?_⟩
                exact ⟨_, l, by rw [e37_22, IntWalk.i64_in _ (by omega)]; rfl, xr, xw, hCg, hKp, hKO, c9_0, f9, hO, hH1, (), by rw [if_neg (by omega), hy2, addW, if_neg (by simp)]⟩
              · skip
                by_cases hm : y ∈ l
                · skip; refine skN ?_; refine sBk ?_; refine Wp.seqRegion (.inr ⟨_, rfl⟩) (by kernel_rfl) fun K' gd hK hg => ?_; clear hg; go_simp; refine hK _ _ ?_; clear hK K' gd; refine Wp.keep [9, 13, 36, 37] ?_; rintro r23 ⟨e9_23, e13_23, e36_23, e37_23, -⟩; simp [go_sem, e9_19, e36_19, e37_19, e38_19] at e9_23 e13_23 e36_23 e37_23; clear e9_19 e36_19 e37_19 e38_19; refine Wp.seqRegion (.inr ⟨_, rfl⟩) (by kernel_rfl) fun K' gd hK hg => ?_; have g2 : gd 2 = some 42 := hg 2; clear hg; refine cu6 fun K1 hK1 => ?_; go_simp; refine Wcall (.inr ⟨_, rfl⟩) (containsE_c _ l y _ (hO.ints).intsV (by omega)) ?_; rintro v w6 ⟨rfl, hE⟩; go_simp; refine hK1 _ _ ?_; clear hK1 K1; have z24 := Below.size hE; replace f9 := hE.fz c9_0 f9; replace hCg := hCg.ext hE; replace hKp := hKp.ext hE; replace hKO := hKO.ext hE; replace hO := hO.ext hE; replace xr := Chg.ext xr hE; replace xw := xw.trans hE; replace c9_0 := hE.cell c9_0; clear hE; go_simp; refine hK _ _ ?_; clear hK K' gd g2; refine Wp.keep [9, 13, 36, 37, 47] ?_; rintro r25 ⟨e9_25, e13_25, e36_25, e37_25, e47_25, -⟩; simp [go_sem, e9_23, e13_23, e36_23, e37_23] at e9_25 e13_25 e36_25 e37_25 e47_25; clear e9_23 e13_23 e36_23 e37_23; refine cFf ?_; refine Wp.skip ?_; refine bNo ?_; refine tNo ?_
                  refine Wp.loneRegion (.inr ⟨_, rfl⟩) (by kernel_rfl) fun K' gd hK hg => ?_; clear hg; go_simp; refine hK _ _ ?_; clear hK K' gd; refine Ends.keep [9, 36, 37] ?_; rintro r26 ⟨e9_26, e36_26, e37_26, -⟩; simp [go_sem, e9_25, e13_25, e36_25, e37_25, e47_25] at e9_26 e36_26 e37_26; clear e9_25 e13_25 e36_25 e37_25 e47_25; refine Ends.mk ?_; refine thenK_normal ⟨by omega, ⟨by rw [e9_26, e9_17], by rw [e36_26, e36_17], trivial⟩, rfl, trivial, ?_⟩; exact ⟨_, l, by rw [e37_26, IntWalk.i64_in _ (by omega)]; rfl, xr, xw, hCg, hKp, hKO, c9_0, f9, hO, by omega, (), by rw [if_neg (by omega), hy2, addW, if_neg (by simp [hm])]⟩
                · skip; refine skN ?_; refine sBk ?_; refine Wp.seqRegion (.inr ⟨_, rfl⟩) (by kernel_rfl) fun K' gd hK hg => ?_; clear hg; go_simp; refine hK _ _ ?_; clear hK K' gd; refine Wp.keep [9, 13, 36, 37] ?_; rintro r27 ⟨e9_27, e13_27, e36_27, e37_27, -⟩; simp [go_sem, e9_19, e36_19, e37_19, e38_19] at e9_27 e13_27 e36_27 e37_27; clear e9_19 e36_19 e37_19 e38_19; refine Wp.seqRegion (.inr ⟨_, rfl⟩) (by kernel_rfl) fun K' gd hK hg => ?_; have g2 : gd 2 = some 42 := hg 2; clear hg; refine cu6 fun K1 hK1 => ?_; go_simp; refine Wcall (.inr ⟨_, rfl⟩) (containsE_c _ l y _ (hO.ints).intsV (by omega)) ?_; rintro v w6 ⟨rfl, hE⟩; go_simp; refine hK1 _ _ ?_; clear hK1 K1; have z28 := Below.size hE; replace f9 := hE.fz c9_0 f9; replace hCg := hCg.ext hE; replace hKp := hKp.ext hE; replace hKO := hKO.ext hE; replace hO := hO.ext hE; replace xr := Chg.ext xr hE; replace xw := xw.trans hE; replace c9_0 := hE.cell c9_0; clear hE; go_simp; refine hK _ _ ?_; clear hK K' gd g2; refine Wp.keep [9, 13, 36, 37, 47] ?_; rintro r29 ⟨e9_29, e13_29, e36_29, e37_29, e47_29, -⟩; simp [go_sem, e9_27, e13_27, e36_27, e37_27] at e9_29 e13_29 e36_29 e37_29 e47_29; clear e9_27 e13_27 e36_27 e37_27; refine cTt ?_; refine Wp.loneRegion (.inr ⟨_, rfl⟩) (by kernel_rfl) fun K' gd hK hg => ?_
                  clear hg; refine cu3 fun K1 hK1 => ?_; go_simp; refine hK1 _ _ ?_; clear hK1 K1; refine Wops.absA fun V50_10 n50 hV50_10 => ?_; obtain ⟨q50, hV50_10, s50, kV50_10, f50, r50⟩ := hV50_10; try simp only [q50] at kV50_10 f50 r50 ⊢
                  replace f9 := hV50_10.fz c9_0 f9; replace hCg := hCg.ext hV50_10; replace hKp := hKp.ext hV50_10; replace hKO := hKO.ext hV50_10; replace hO := hO.ext hV50_10; replace xr := Chg.ext xr hV50_10; replace xw := xw.trans hV50_10; replace c9_0 := hV50_10.cell c9_0; clear hV50_10 f50; have c50_0 := kV50_10 0 _ rfl; clear kV50_10; refine cu1 fun K1 hK1 => ?_; obtain ⟨v', w7, hrun, hO2, hgr⟩ := OutG.app ints_T hO ⟨n50, 0, none⟩ 1 1 [.int .i64 y] 22 rfl (news_one c50_0) (one_one rfl) (by omega) (by omega) (by omega) (by omega); refine Wops.law rfl (exec_append2 rfl hrun (by go_simp) (by go_simp)) ?_; simp only [updO_some, Wops_nil]; refine hK1 _ _ ?_; clear hK1 K1; have z30 := World.grownBy.size hgr; replace f9 := Chg.fz (grown_chg hgr) c9_0 f9 (q_off hO.lt (by omega)); replace hCg := hCg.chg (grown_chg hgr) (by first | (intro b hb; exact (q_off hO.lt (by omega))) | exact (q_off hO.lt (by omega))); replace hKp := hKp.chg (grown_chg hgr) (by first | (intro b hb; exact (q_off hO.lt (by omega))) | exact (q_off hO.lt (by omega))); replace xr := Chg.more xr (grown_chg hgr) (q_gm hO.lt (by omega)); replace xw := Chg.to xw (grown_chg hgr) (q_ge hO.lt (by omega)); replace c9_0 := Chg.cell (grown_chg hgr) c9_0 (q_off hO.lt (by omega)); have hKO := hKO.grown hO.own hgr; obtain ⟨A9, c9, rfl⟩ := ownsRow_slice hO2.own; refine cu1 fun K1 hK1 => ?_
                  go_simp; refine hK1 _ _ ?_; clear hK1 K1; refine Wops.absS (b := n9) (i := 0) [_] (somes [cellVal c9_0] (by simp) (by intro j v hj; match j, hj with | 0, hj => (simp at hj; subst hj; exact c9_0))) fun P11 hP11 => ?_; have zP11 := hP11.same; replace f9 := hP11.frz f9; replace hCg := hCg.put hP11 (by omega); replace hKp := hKp.put hP11 (by omega); replace hO2 := hO2.put hP11 (by omega); replace hKO := hKO.put hP11 (by omega); replace xr := Put.more xr hP11 (.inr (by simp)); replace xw := Put.to xw hP11 (by omega); clear c9_0; have c9_0 := hP11.new 0 _ rfl; try simp only [Nat.reduceAdd, Nat.zero_add, Nat.add_zero] at c9_0
                  clear hP11; try simp only [Wops_nil, updO_some, updO_none]
                  refine hK _ _ ?_; clear hK K' gd; refine Ends.keep [9, 36, 37] ?_; rintro r31 ⟨e9_31, e36_31, e37_31, -⟩; simp [go_sem, e9_29, e13_29, e36_29, e37_29, e47_29] at e9_31 e36_31 e37_31; clear e9_29 e13_29 e36_29 e37_29 e47_29; refine Ends.mk ?_; refine bNo ?_; refine tNo ?_; refine Wp.loneRegion (.inr ⟨_, rfl⟩) (by kernel_rfl) fun K' gd hK hg => ?_; clear hg; go_simp; refine hK _ _ ?_; clear hK K' gd; refine Ends.keep [9, 36, 37] ?_; rintro r32 ⟨e9_32, e36_32, e37_32, -⟩; simp [go_sem, e9_31, e36_31, e37_31] at e9_32 e36_32 e37_32; clear e9_31 e36_31 e37_31; refine Ends.mk ?_; refine thenK_normal ⟨by omega, ⟨by rw [e9_32, e9_17], by rw [e36_32, e36_17], trivial⟩, rfl, trivial, ?_⟩; exact ⟨_, l ++ [y], by rw [e37_32, IntWalk.i64_in _ (by omega)]; rfl, xr, xw, hCg, hKp, hKO, c9_0, f9, by simpa using hO2, by omega, (), by rw [if_neg (by omega), hy2, addW, if_pos ⟨hy0, hm⟩]⟩
            · refine cFf ?_; obtain rfl : j = 2 := by omega
              refine Wp.exit ?_; refine tEx ?_; refine tEx ?_; refine blockK_here ?_; refine bNo ?_; refine ⟨hKO.k, ⟨⟨xr, f9⟩, ?_⟩, hCg, hKp⟩; exact ⟨_, c9_0, by rw [hL1, if_pos hdd, ← hx1.choose_spec, ← hx2.choose_spec, ← show l = addW (addW L0 x1) x2 from hl.choose_spec]; exact hO.free, fun q hq => (hO.lt q hq).2.1⟩
        · skip; refine Wp.block ?_; refine Wp.seq ?_; refine Wp.seqRegion (.inr ⟨_, rfl⟩) (by kernel_rfl) fun K' gd hK hg => ?_; clear hg; refine cu6 fun K1 hK1 => ?_; go_simp; refine Wcall (.inr ⟨_, rfl⟩) (within_F hdd _) ?_; rintro v w5 ⟨rfl, hE⟩; go_simp; refine hK1 _ _ ?_; clear hK1 K1; replace f9 := hE.fz c9_0 f9; replace hO := hO.ext hE; replace hKp := hKp.ext hE; replace hCg := hCg.ext hE; replace hKO := hKO.ext hE; replace xr := Chg.ext xr hE; replace c9_0 := hE.cell c9_0; clear hE; go_simp; refine hK _ _ ?_; clear hK K' gd; refine Wp.keep [9, 11, 34] ?_; rintro r34 ⟨e9_34, e11_34, e34_34, -⟩; simp [go_sem, e5_14, e9_14, e10_14, e11_14] at e9_34 e11_34 e34_34; clear e5_14 e9_14 e10_14 e11_14; refine cTt ?_; refine Wp.exit ?_; refine tEx ?_; refine blockK_here ?_; refine ⟨hKO.k, ⟨⟨xr, f9⟩, ?_⟩, hCg, hKp⟩; exact ⟨_, c9_0, by rw [hL1, if_neg hdd]; exact hO, fun q hq => (hO.lt q hq).2.1⟩
      · rintro rm g W hrm ⟨⟨xr, gf9⟩, ⟨v9, gc9_0, hO, hlt⟩⟩ hmk; clear f9; replace xw := Chg.to xw xr XL; clear c9_0; clear gf9; have c9_0 := gc9_0; clear gc9_0; refine bNo ?_; refine tNo ?_; refine sRg fun K' gd hK => ?_; go_simp; refine hK _ _ ?_; clear hK K' gd; refine Wp.keep [6, 7] ?_; rintro r35 ⟨e6_35, e7_35, -⟩; simp [go_sem, e5_10, e9_10, e25_10] at e6_35 e7_35; clear e5_10 e9_10 e25_10; refine Wp.ret ?_; refine endM_tmp2 Try.results25 (by decide) (by decide) ((Marks.one (by first | omega | (simp at hrm; omega)) hmk)) fun wz hS => ?_; rw [e6_35, e7_35]; refine ⟨_, by unfold readE; rw [if_pos h0, if_pos hd], ?_, Shut.ext xw hS⟩; rw [if_pos (by unfold readE; rw [if_pos h0, if_pos hd])]; rw [show ((n : Int)).toNat = n from rfl, ← reads_on hg.sorted n hd.1 hd.2]; rw [List.take_length] at hO; exact ((hO.ints).less (by omega)).shut hS
      · rintro rm c W hrm hf hmk; exact hf.elim
    · skip; refine skN ?_; refine Wp.seq ?_; refine sRg fun K' gd hK => ?_; refine cu2 fun K1 hK1 => ?_; go_simp; refine Wcall (.inl rfl) (within_F hd _) ?_; rintro v w3 ⟨rfl, hE⟩; go_simp; refine hK1 _ _ ?_; clear hK1 K1; replace xw := xw.trans hE; clear hE; go_simp; refine hK _ _ ?_; clear hK K' gd; refine Wp.keep [1, 3, 5, 22] ?_; rintro r37 ⟨e1_37, e3_37, e5_37, e22_37, -⟩; simp [go_sem, e1_5, e3_5, e5_5, e8_5, e18_5] at e1_37 e3_37 e5_37 e22_37; clear e1_5 e3_5 e5_5 e8_5 e18_5; refine cTt ?_; refine sRg fun K' gd hK => ?_; go_simp; refine hK _ _ ?_; clear hK K' gd; refine Wp.keep [6, 7] ?_; rintro r38 ⟨e6_38, e7_38, -⟩; simp [go_sem, e1_37, e3_37, e5_37, e22_37] at e6_38 e7_38; clear e1_37 e3_37 e5_37 e22_37; refine Wp.ret ?_; refine tRe ?_; refine endM_tmp2 Try.results25 (by decide) (by decide) (trivial) fun wz hS => ?_; rw [e6_38, e7_38]; refine ⟨_, by unfold readE; rw [if_pos h0, if_neg hd], ?_, Shut.ext xw hS⟩; rw [if_neg (by unfold readE; rw [if_pos h0, if_neg hd]; decide)]; exact World.ownsRow_nil _ _ _ _
  · skip; refine sRg fun K' gd hK => ?_; go_simp; refine hK _ _ ?_; clear hK K' gd; refine Wp.keep [1, 3, 5, 8, 18] ?_; rintro r39 ⟨e1_39, e3_39, e5_39, e8_39, e18_39, -⟩; simp [go_sem, e1_4, e3_4, e5_4, e8_4] at e1_39 e3_39 e5_39 e8_39 e18_39; clear e1_4 e3_4 e5_4 e8_4; refine cTt ?_; refine sRg fun K' gd hK => ?_; go_simp; refine hK _ _ ?_; clear hK K' gd; refine Wp.keep [6, 7] ?_; rintro r40 ⟨e6_40, e7_40, -⟩; simp [go_sem, e1_39, e3_39, e5_39, e8_39, e18_39] at e6_40 e7_40; clear e1_39 e3_39 e5_39 e8_39 e18_39; refine Wp.ret ?_; refine tRe ?_; refine endM_tmp2 Try.results25 (by decide) (by decide) (trivial) fun wz hS => ?_; rw [e6_40, e7_40]; refine ⟨_, by unfold readE; rw [if_neg h0], ?_, Shut.ext xw hS⟩; rw [if_neg (by unfold readE; rw [if_neg h0]; exact h0)]; exact World.ownsRow_nil _ _ _ _
end Go.Proofs.Ytnjajbkkgfohaaa
namespace Go.Proofs.Ytnjajbkkgfohaaa
open Go.RowKit Go.Wk Go.Proofs
theorem ownsRow_store {w V : World} {base e size n c b i : Nat} {xs vs : List Value} (h : w.ownsRow base e size (.slice (some ⟨b, 0, none⟩) n c) n xs) (p : Put w V b i vs) (hl : i + vs.length ≤ n * size) :
    V.ownsRow base e size (.slice (some ⟨b, 0, none⟩) n c) n (xs.take i ++ vs ++ xs.drop (i + vs.length)) := by
  obtain ⟨h1, h2⟩ := h; refine ⟨by simp; omega, ?_⟩
  rcases h2 with ⟨h2, -⟩ | ⟨g, cap, cur, hv, hb, hg, hnc, hcm, hcs, htake⟩
  · cases h2
  · injection hv with e1 e2 e3
    injection e1 with e1; injection e1 with e1
    subst e1; subst e3; obtain ⟨cs', hV, hsz⟩ := p.row cur e hg; refine .inr ⟨b, c, cs', rfl, hb, hV, hnc, hcm, by rw [hsz, hcs], ?_⟩; have cw : ∀ j, w.cell? ⟨b, j, none⟩ = cur[j]? := fun j => by simp [World.cell?, hg]
    have cV : ∀ j, V.cell? ⟨b, j, none⟩ = cs'[j]? := fun j => by simp [World.cell?, hV]
    have hx : ∀ j, j < n * size → xs[j]? = cur[j]? := fun j hj => by rw [← htake, List.getElem?_take, if_pos hj, Array.getElem?_toList]
    apply List.ext_getElem?; intro j; rw [List.getElem?_take]
    by_cases hj : j < n * size
    · rw [if_pos hj, Array.getElem?_toList, ← cV]
      by_cases ha : j < i
      · rw [p.old j (.inl ha), cw, ← hx j hj, List.append_assoc, List.getElem?_append_left (by simp; omega), List.getElem?_take, if_pos ha]
      · by_cases hb2 : j < i + vs.length
        · have := p.new (j - i) (vs[j - i]'(by omega)) (by rw [nthV_eq]; exact List.getElem?_eq_getElem _); rw [show i + (j - i) = j by omega] at this; rw [this, List.append_assoc, List.getElem?_append_right (by simp; omega), List.getElem?_append_left (by simp; omega)]; simp only [List.length_take]; rw [show j - min i xs.length = j - i by omega, List.getElem?_eq_getElem]
        · rw [p.old j (.inr (by omega)), cw, ← hx j hj, List.getElem?_append_right (by simp; omega), List.getElem?_drop]
          congr 1
          simp; omega
    · rw [if_neg hj, List.getElem?_eq_none]; simp; omega
theorem OutG.store {w V : World} {base g lo hi e size n c b i : Nat} {xs vs : List Value} (h : OutG w base g lo hi e size (.slice (some ⟨b, 0, none⟩) n c) n xs) (p : Put w V b i vs) (hl : i + vs.length ≤ n * size) :
    OutG V base g lo hi e size (.slice (some ⟨b, 0, none⟩) n c) n (xs.take i ++ vs ++ xs.drop (i + vs.length)) := ⟨ownsRow_store h.own p hl, h.off⟩
theorem encL_len (l : List (Int × Int)) : (encL l).length = l.length * 2 := by
  induction l with
  | nil => rfl
  | cons s l ih =>
    have e : encL (s :: l) = .int .i64 s.1 :: .int .i64 s.2 :: encL l := rfl; rw [e, List.length_cons, List.length_cons, List.length_cons, ih]; omega
theorem encL_set (l : List (Int × Int)) (s : Int × Int) (hi : Int) : (encL (l ++ [s])).take (l.length * 2 + 1) ++ [.int .i64 hi] ++ (encL (l ++ [s])).drop (l.length * 2 + 1 + [Value.int .i64 hi].length) = encL (l ++ [(s.1, hi)]) := by
  have h := encL_len l; rw [encL_add, encL_add, List.take_append, List.drop_append, h, List.take_of_length_le (by omega), List.drop_of_length_le (by simp; omega), show l.length * 2 + 1 - l.length * 2 = 1 by omega, show l.length * 2 + 1 + [Value.int .i64 hi].length - l.length * 2 = 2 by simp; omega]; simp
theorem encL_get {l : List (Int × Int)} {k : Nat} {s : Int × Int} (h : l[k]? = some s) : (encL l)[k * 2]? = some (.int .i64 s.1) ∧ (encL l)[k * 2 + 1]? = some (.int .i64 s.2) := by
  induction l generalizing k with
  | nil => simp at h
  | cons a l ih =>
    cases k with
    | zero => simp at h; subst h; exact ⟨rfl, rfl⟩
    | succ k =>
      rw [List.getElem?_cons_succ] at h; have := ih h; have e : encL (a :: l) = .int .i64 a.1 :: .int .i64 a.2 :: encL l := rfl; rw [e, show (k + 1) * 2 = k * 2 + 1 + 1 by omega, List.getElem?_cons_succ, List.getElem?_cons_succ, show k * 2 + 1 + 1 + 1 = k * 2 + 1 + 1 + 1 from rfl, List.getElem?_cons_succ, List.getElem?_cons_succ]; exact this
def OwnZ (w : World) (base : Nat) (v : Value) (xs : List (Int × Int)) : Prop := w.ownsRow base 62 2 v xs.length (encL xs)
theorem OwnZ.ext {w w' : World} {base : Nat} {v : Value} {xs : List (Int × Int)} (h : OwnZ w base v xs) (hE : Ext w w') : OwnZ w' base v xs := ownsRow_ext h hE
theorem OwnZ.less {w : World} {base b2 : Nat} {v : Value} {xs : List (Int × Int)} (h : OwnZ w base v xs) (hb : b2 ≤ base) : OwnZ w b2 v xs := ownsRow_less h hb
theorem OwnZ.shut {w w' : World} {m base : Nat} {v : Value} {xs : List (Int × Int)} (h : OwnZ w base v xs) (hS : Shut m w w') : OwnZ w' base v xs := ownsRow_shut h hS
theorem OwnZ.spans {w : World} {base : Nat} {v : Value} {xs : List (Int × Int)} (h : OwnZ w base v xs) : SpansV w w.heap.size v xs := by
  rcases h.2 with ⟨rfl, hn⟩ | ⟨g, cap, cur, rfl, hb, hg, hnc, hcm, hcs, htake⟩
  · obtain rfl : xs = [] := List.eq_nil_of_length_eq_zero hn; exact ⟨none, 0, rfl, fun h => absurd rfl h, Nat.le_refl _⟩
  · refine ⟨_, cap, rfl, fun _ => ⟨g, 0, rfl, (Array.getElem?_eq_some_iff.1 hg).1, fun k hk r u hu => ?_⟩, hnc⟩; obtain ⟨h1, h2⟩ := encL_get (List.getElem?_eq_getElem hk); have cells := World.ownsRow.cells h (g := g) rfl
    match r, hu with
    | 0, hu =>
      have := cells _ _ h1; rw [Addr.add_lit] at this; simp [encZ] at hu; subst hu; simpa using this
    | 1, hu =>
      have := cells _ _ h2; rw [Addr.add_lit] at this; simp [encZ] at hu; subst hu; simpa [Nat.add_assoc] using this
    | r + 2, hu => simp [encZ] at hu
theorem spans_T : ElemT Try.prog 37 62 2 := elemT_of (by kernel_rfl)
end Go.Proofs.Ytnjajbkkgfohaaa
