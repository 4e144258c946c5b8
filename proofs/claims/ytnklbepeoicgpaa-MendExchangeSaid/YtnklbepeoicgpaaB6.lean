/- Plain law of a further flaw. Plain laws at right tours: gains, wider days, places of flaws. Arguments, opened. Plain laws of parts: flaws of a list, and a turned order. Plain laws of days: Earliest is a best mending; its first day. -/
import Derived.Test.YtnklbepeoicgpaaB5
import Derived.Test.YtnklbepeoicgpaaB4
import Derived.Test.YtnklbepeoicgpaaBw1
set_option linter.all false
namespace Go.Proofs.Ytnklbepeoicgpaa
section
variable {N N' : Int → List Nat} {n m : Nat} {W : Int → Int} {w v v' : Int} {g h : Nat → Int}
theorem OkP.up (hh : OkP N n m h) : OkP N n (m + 1) h := ⟨fun d => by have := hh.lt d; omega, hh.day, hh.one⟩
theorem later_cert (hN : ∀ i, ∀ d ∈ N i, d < n) (hh : OkP N n m h) (hadd : addB N n h m = false) (hpos : ∀ j : Nat, j < m → 0 < W j) (hmax : ∀ g, OkP N n m g → worthW W g n ≤ worthW W h n) (hw0 : 0 ≤ w)
    (hw : ∀ i : Nat, i < m → cntN h i n ≠ 0 → (∃ g, OkP N n (m + 1) g ∧ cntN g (m : Nat) n = 1 ∧ ∀ j : Nat, j ≠ i → cntN h j n ≠ 0 → cntN g j n = 1) → w ≤ W i) (hg : OkP N n (m + 1) g) :
    sumN (fun j => cntN g (j : Int) n * W j) m + cntN g (m : Nat) n * w ≤ worthW W h n := by
  let W' : Int → Int := fun j => if j = (m : Int) then w else if 0 ≤ j ∧ j < m then W j else 0
  have Wm : W' (m : Int) = w := if_pos rfl
  have Wj : ∀ j : Nat, j < m → W' (j : Int) = W j := fun j hj => by
    show (if (j : Int) = m then w else if 0 ≤ (j : Int) ∧ (j : Int) < m then W j else 0) = _
    rw [if_neg (by omega), if_pos (by omega)]
  have W0 : ∀ j, 0 ≤ W' j := fun j => by
    show 0 ≤ (if j = (m : Int) then w else if 0 ≤ j ∧ j < m then W j else 0)
    split
    · exact hw0
    · split
      · rename_i q
        have := hpos j.toNat (by omega); rw [show ((j.toNat : Nat) : Int) = j by omega] at this; omega
      · exact Int.le_refl _
  have hz : cntN h (m : Nat) n = 0 := cntN_of_zero fun d _ e => by have := (hh.lt d).2; omega
  have e : worthW W' h n = worthW W h n := worth_eq n fun d _ => ⟨Iff.rfl, fun h0 => by
    obtain ⟨j, hj, hjm⟩ := hh.at' h0
    rw [hj]; exact Wj j hjm⟩
  have q := dual_max (W := W') (S := fun _ => True) hh.up hg (fun _ _ _ => .inl trivial) W0 (fun i hi _ hiz => by
    by_cases c : i = m
    · subst c; obtain ⟨-, X, h2, h3, h4⟩ := add_false hN hh.up (Nat.lt_succ_self i) hz hadd; refine ⟨X, h2, h3, fun d hd => ?_⟩; have hX := h2 d hd; obtain ⟨k, hk, hkm⟩ := hh.at' hX.2.1; rw [Wm, hk, Wj k hkm]; refine hw k hkm (fun q => cntN_zero q d hX.1 hk) ?_; obtain ⟨g', g1, g2⟩ := h4 d hd; refine ⟨g', g1, ?_, fun j hj hjz => ?_⟩
      · rw [g2, hz, if_neg (by omega), if_pos rfl]; rfl
      · have hji : i ≠ j := fun q => by subst q; exact hjz hz
        rw [g2, if_neg (by omega), if_neg hji]; have := hh.one j; have := cntN_pos (h := h) (j := (j : Int)) (n := n); omega
    · obtain ⟨X, h1, h2, h3⟩ := max_cert hN hh hpos hmax i (by omega) hiz; refine ⟨X, h1, h2, fun d hd => ?_⟩; have hX := h1 d hd; obtain ⟨k, hk, hkm⟩ := hh.at' hX.2.1; have := h3 d hd; rw [hk] at this ⊢
      rw [Wj k hkm, Wj i (by omega)]; exact this)
  rw [e, worth_cnt n fun d _ => (hg.lt d).2] at q; have q : sumN (fun j => cntN g (j : Int) n * W' j) m + cntN g (m : Nat) n * W' m ≤ worthW W h n := q; rw [Wm, sumN_eq m (g := fun j => cntN g (j : Int) n * W j) fun j hj => by rw [Wj j hj]] at q; exact q
theorem cnt_worth {L : List Int} (hh : OkP N n m h) (hc : ∀ j : Nat, j < m → cntN h (j : Int) n = if (j : Int) ∈ L then 1 else 0) : worthW W h n = sumN (fun j => if (j : Int) ∈ L then W j else 0) m := by
  rw [worth_cnt n fun d _ => (hh.lt d).2]; refine sumN_eq m fun j hj => ?_; rw [hc j hj]
  split
  · exact Int.one_mul _
  · exact Int.zero_mul _
end
def moreT (t : Tr) (f : Fl) : Tr := ⟨t.n, t.cl, t.fl ++ [f]⟩
section
variable {t : Tr} {f : Fl} {n : Nat}
theorem moreT_len : (moreT t f).fl.length = t.fl.length + 1 := by show (t.fl ++ [f]).length = _; rw [List.length_append, List.length_singleton]
theorem moreT_at {j : Nat} (hj : j < t.fl.length) : (moreT t f).fl[j]? = t.fl[j]? := List.getElem?_append_left hj
theorem moreT_last : (moreT t f).fl[t.fl.length]? = some f := by show (t.fl ++ [f])[t.fl.length]? = _; rw [List.getElem?_append_right (Nat.le_refl _), Nat.sub_self]; rfl
theorem moreT_N {j : Nat} (hj : j < t.fl.length) : (moreT t f).N (j : Int) = t.N (j : Int) := nCl_eq (cl := t.cl) (moreT_at hj)
theorem moreT_m {j : Nat} (hj : j < t.fl.length) : mAt (moreT t f).fl (j : Int) = mAt t.fl (j : Int) := mAt_eq (moreT_at hj)
theorem moreT_mf : mAt (moreT t f).fl (t.fl.length : Int) = f.m := by unfold mAt; rw [Int.toNat_natCast, moreT_last]
theorem OkP.toMore {g : Nat → Int} (hg : OkP t.N n t.fl.length g) : OkP (moreT t f).N n t.fl.length g := hg.sub fun d _ h0 hm => by
  obtain ⟨j, hj, hjm⟩ := hg.at' h0; rw [hj] at hm ⊢; rw [moreT_N hjm]; exact hm
theorem OkP.ofMore {g : Nat → Int} (hg : OkP (moreT t f).N n t.fl.length g) : OkP t.N n t.fl.length g := hg.sub fun d _ h0 hm => by
  obtain ⟨j, hj, hjm⟩ := hg.at' h0; rw [hj] at hm ⊢; rw [← moreT_N hjm]; exact hm
end
def swapL (N : Int → List Nat) (n : Nat) (m : Int) (W : Int → Int) (l : List Int) : Nat → Nat → List Int
  | _, 0 => l
  | k, u + 1 => if W m ≤ W (gI l k) then l else if canF N n (l.eraseIdx k ++ [m]) noPlan = true then l.eraseIdx k ++ [m] else swapL N n m W l (k + 1) u
structure LatP (N : Int → List Nat) (n m : Nat) (l L : List Int) : Prop where
  can : canF N n L noPlan = true
  nd : L.Nodup
  mem : ∀ x ∈ L, x ∈ l ∨ x = (m : Int)
  one : ∀ x ∈ l, ∀ y ∈ l, x ∉ L → y ∉ L → x = y
theorem nodup_snoc {l : List Int} {x : Int} (h : l.Nodup) (hx : x ∉ l) : (l ++ [x]).Nodup := by
  rw [List.nodup_append]; refine ⟨h, by simp, fun a ha b hb e => ?_⟩; rw [List.mem_singleton] at hb; exact hx (by rw [← hb, ← e]; exact ha)
theorem mem_eraseIdx_nd {l : List Int} (h : l.Nodup) {k : Nat} (hk : k < l.length) {x : Int} : x ∈ l.eraseIdx k ↔ x ∈ l ∧ x ≠ gI l k := by
  rw [gI_lt hk, List.mem_eraseIdx_iff_getElem]
  constructor
  · rintro ⟨i, hi, hne, rfl⟩; exact ⟨List.getElem_mem hi, fun e => hne ((List.getElem_inj h).1 e)⟩
  · rintro ⟨hx, hne⟩; obtain ⟨i, hi, rfl⟩ := List.getElem_of_mem hx; exact ⟨i, hi, fun e => hne (by subst e; rfl), rfl⟩
section
variable {t : Tr} {f : Fl} {n : Nat} {h : Nat → Int} {l : List Int}
structure LatS (t : Tr) (f : Fl) (n : Nat) (h : Nat → Int) (l : List Int) : Prop where
  hT : OptT t n
  hM : OptT (moreT t f) n
  pos : ∀ x ∈ t.fl, 0 < x.m
  hb : BestP t n h
  nd : l.Nodup
  mm : ∀ x ∈ l, ∃ k : Nat, x = (k : Int) ∧ k < t.fl.length
  srt : l.Pairwise fun a b => mAt t.fl a ≤ mAt t.fl b
  cnt : ∀ j : Nat, j < t.fl.length → cntN h (j : Int) n = if (j : Int) ∈ l then 1 else 0
theorem LatS.not (s : LatS t f n h l) : ((t.fl.length : Nat) : Int) ∉ l := fun q => by
  obtain ⟨k, e, hk⟩ := s.mm _ q; omega
theorem LatS.mm' (s : LatS t f n h l) {L : List Int} (hL : ∀ x ∈ L, x ∈ l ∨ x = (t.fl.length : Int)) : ∀ x ∈ L, ∃ k : Nat, x = (k : Int) ∧ k < t.fl.length + 1 := fun x hx => by
  rcases hL x hx with q | q
  · obtain ⟨k, e, hk⟩ := s.mm x q; exact ⟨k, e, by omega⟩
  · exact ⟨_, q, Nat.lt_succ_self _⟩
theorem LatS.in (s : LatS t f n h l) {x : Int} (hx : x ∈ l) : cntN h x n = 1 := by
  obtain ⟨k, rfl, hk⟩ := s.mm x hx; rw [s.cnt k hk, if_pos hx]
theorem LatS.worth (s : LatS t f n h l) : sumN (fun j => if (j : Int) ∈ l then mAt t.fl j else 0) t.fl.length = meritF t n := by
  rw [← s.hb.w]; exact (cnt_worth s.hb.ok s.cnt).symm
theorem LatS.val (s : LatS t f n h l) {L : List Int} (hL : LatP (moreT t f).N n t.fl.length l L) : OkP (moreT t f).N n (t.fl.length + 1) (L.foldl (addF (moreT t f).N n) noPlan) ∧
    (∀ j : Nat, cntN (L.foldl (addF (moreT t f).N n) noPlan) (j : Int) n = if (j : Int) ∈ L then 1 else 0) ∧
    worthW (mAt (moreT t f).fl) (L.foldl (addF (moreT t f).N n) noPlan) n = sumN (fun j => if (j : Int) ∈ L then mAt t.fl j else 0) t.fl.length + if ((t.fl.length : Nat) : Int) ∈ L then f.m else 0 := by
  obtain ⟨h1, h2⟩ := canF_plan (m := t.fl.length + 1) (trN_lt s.hM.span) hL.nd (s.mm' hL.mem) hL.can; refine ⟨h1, h2, ?_⟩; rw [cnt_worth h1 fun j _ => h2 j]
  show sumN _ t.fl.length + (if ((t.fl.length : Nat) : Int) ∈ L then mAt (moreT t f).fl (t.fl.length : Nat) else 0) = _
  rw [moreT_mf, sumN_eq t.fl.length (g := fun j => if (j : Int) ∈ L then mAt t.fl j else 0) fun j hj => by rw [moreT_m hj]]
theorem LatS.one (s : LatS t f n h l) {L : List Int} (hL : LatP (moreT t f).N n t.fl.length l L)
    (hle : ∀ g, OkP (moreT t f).N n (t.fl.length + 1) g → worthW (mAt (moreT t f).fl) g n ≤ sumN (fun j => if (j : Int) ∈ L then mAt t.fl j else 0) t.fl.length + if ((t.fl.length : Nat) : Int) ∈ L then f.m else 0) :
    BestP (moreT t f) n (L.foldl (addF (moreT t f).N n) noPlan) := by
  obtain ⟨h1, -, h3⟩ := s.val hL; have o := meritF_opt s.hM; rw [moreT_len] at o; have ok : OkP (moreT t f).N n (moreT t f).fl.length (L.foldl (addF (moreT t f).N n) noPlan) := by rw [moreT_len]; exact h1
  exact ⟨ok, IsOpt.eq (N := (moreT t f).N) (n := n) (m := t.fl.length + 1) (W := mAt (moreT t f).fl) ⟨⟨_, h1, rfl⟩, fun g hg => by rw [h3]; exact hle g hg⟩ o⟩
theorem sum_erase {l : List Int} {W : Int → Int} {m k : Nat} {i : Nat} (hn : l.Nodup) (hk : k < l.length) (hi : gI l k = (i : Int)) (him : i < m) :
    sumN (fun j => if (j : Int) ∈ l then W j else 0) m = sumN (fun j => if (j : Int) ∈ l.eraseIdx k then W j else 0) m + W i := by
  rw [sumN_eq m (f := fun j => if (j : Int) ∈ l then W j else 0) (g := fun j => (if (j : Int) ∈ l.eraseIdx k then W j else 0) + if j = i then W j else 0) fun j _ => by
    by_cases e : j = i
    · subst e; rw [if_pos (by rw [← hi]; exact gI_mem hk), if_neg (by rw [mem_eraseIdx_nd hn hk, hi]; exact fun q => q.2 rfl), if_pos rfl, Int.zero_add]
    · rw [if_neg e, Int.add_zero]
      by_cases c : (j : Int) ∈ l
      · rw [if_pos c, if_pos ((mem_eraseIdx_nd hn hk).2 ⟨c, by rw [hi]; omega⟩)]
      · rw [if_neg c, if_neg fun q => c ((mem_eraseIdx_nd hn hk).1 q).1], sumN_add, sumN_one (F := fun j => W (j : Int)), if_pos him]
theorem LatS.sorted (s : LatS t f n h l) {a b : Nat} (hab : a ≤ b) (hb : b < l.length) : mAt t.fl (gI l a) ≤ mAt t.fl (gI l b) := by
  rcases Nat.lt_or_ge a b with q | q
  · have := List.pairwise_iff_getElem.1 s.srt a b (by omega) hb q; rw [gI_lt (by omega), gI_lt hb]; exact this
  · obtain rfl : a = b := by omega
    exact Int.le_refl _
theorem LatS.swap (s : LatS t f n h l) (hno : canF (moreT t f).N n (l ++ [((t.fl.length : Nat) : Int)]) noPlan = false) : ∀ (u k : Nat), k + u = l.length →
    (∀ j, j < k → canF (moreT t f).N n (l.eraseIdx j ++ [((t.fl.length : Nat) : Int)]) noPlan = false ∧ mAt t.fl (gI l j) < f.m) →
    LatP (moreT t f).N n t.fl.length l (swapL (moreT t f).N n (t.fl.length : Nat) (mAt (moreT t f).fl) l k u) ∧ BestP (moreT t f) n ((swapL (moreT t f).N n (t.fl.length : Nat) (mAt (moreT t f).fl) l k u).foldl (addF (moreT t f).N n) noPlan) := by
  intro u k hku hbad; have hNM := trN_lt s.hM.span; have fm0 : 0 ≤ f.m := s.hM.mr f (by show f ∈ t.fl ++ [f]; simp); have okM : OkP (moreT t f).N n t.fl.length h := s.hb.ok.toMore
  have hadd : addB (moreT t f).N n h ((t.fl.length : Nat) : Int) = false := by
    by_cases c : addB (moreT t f).N n h ((t.fl.length : Nat) : Int) = true
    · exfalso
      have hz : cntN h ((t.fl.length : Nat) : Int) n = 0 := cntN_of_zero fun d _ e => by have := (s.hb.ok.lt d).2; omega
      obtain ⟨a1, a2⟩ := add_true hNM okM.up (Nat.lt_succ_self _) hz c
      have : canF (moreT t f).N n (l ++ [((t.fl.length : Nat) : Int)]) noPlan = true := (can_iff hNM (nodup_snoc s.nd s.not) (s.mm' (fun x hx => by rw [List.mem_append, List.mem_singleton] at hx; exact hx))).2 ⟨_, a1, fun x hx => by
        rw [List.mem_append, List.mem_singleton] at hx
        rcases hx with hx | hx
        · obtain ⟨j, rfl, hj⟩ := s.mm x hx; rw [a2, s.in hx, if_neg (by omega)]; rfl
        · subst hx; rw [a2, hz, if_pos rfl]; rfl⟩
      rw [hno] at this; cases this
    · simpa using c
  have ndE : ∀ j, j < l.length → (l.eraseIdx j ++ [((t.fl.length : Nat) : Int)]).Nodup := fun j hj => nodup_snoc (s.nd.eraseIdx j) fun q => s.not ((mem_eraseIdx_nd s.nd hj).1 q).1
  have mmE : ∀ j, j < l.length → ∀ x ∈ l.eraseIdx j ++ [((t.fl.length : Nat) : Int)], x ∈ l ∨ x = ((t.fl.length : Nat) : Int) := fun j hj x hx => by
    rw [List.mem_append, List.mem_singleton] at hx; exact hx.imp (fun q => ((mem_eraseIdx_nd s.nd hj).1 q).1) id
  -- what can make room stands at k or behind
  have room : ∀ w : Int, 0 ≤ w → (∀ j, k ≤ j → j < l.length → w ≤ mAt t.fl (gI l j)) → ∀ g, OkP (moreT t f).N n (t.fl.length + 1) g → sumN (fun j => cntN g (j : Int) n * mAt t.fl j) t.fl.length + cntN g ((t.fl.length : Nat) : Int) n * w ≤ meritF t n := fun w hw0 hw g hg => by
    rw [← s.hb.w]; refine later_cert hNM okM hadd (fun j hj => by rw [mAt_at hj]; exact s.pos _ (List.getElem_mem hj)) (fun g' hg' => by rw [s.hb.w]; exact (meritF_opt s.hT).le g' hg'.ofMore) hw0 (fun i hi hiz hex => ?_) hg; obtain ⟨g', g1, g2, g3⟩ := hex
    have hil : (i : Int) ∈ l := by
      by_cases c : (i : Int) ∈ l
      · exact c
      · exact absurd (by rw [s.cnt i hi, if_neg c]) hiz
    obtain ⟨j, hj, e⟩ := List.getElem_of_mem hil; have ej : gI l j = (i : Int) := by rw [gI_lt hj, e]
    rw [← ej]; refine hw j ?_ hj
    by_cases c : k ≤ j
    · exact c
    · exfalso
      have q := (hbad j (by omega)).1
      have : canF (moreT t f).N n (l.eraseIdx j ++ [((t.fl.length : Nat) : Int)]) noPlan = true := (can_iff hNM (ndE j hj) (s.mm' (mmE j hj))).2 ⟨g', g1, fun x hx => by
        rw [List.mem_append, List.mem_singleton] at hx
        rcases hx with hx | hx
        · obtain ⟨x1, x2⟩ := (mem_eraseIdx_nd s.nd hj).1 hx; obtain ⟨b, rfl, hb⟩ := s.mm x x1; exact g3 b (by rw [ej] at x2; omega) (by rw [s.in x1]; decide)
        · subst hx; exact g2⟩
      rw [q] at this; cases this
  have sums : ∀ g, OkP (moreT t f).N n (t.fl.length + 1) g → worthW (mAt (moreT t f).fl) g n = sumN (fun j => cntN g (j : Int) n * mAt t.fl j) t.fl.length + cntN g ((t.fl.length : Nat) : Int) n * f.m := fun g hg => by
    rw [worth_cnt n fun d _ => (hg.lt d).2]
    show sumN _ t.fl.length + cntN g ((t.fl.length : Nat) : Int) n * mAt (moreT t f).fl ((t.fl.length : Nat) : Int) = _
    rw [moreT_mf, sumN_eq t.fl.length (g := fun j => cntN g (j : Int) n * mAt t.fl j) fun j hj => by rw [moreT_m hj]]
  have own : LatP (moreT t f).N n t.fl.length l l := ⟨(can_iff hNM s.nd (s.mm' fun x hx => .inl hx)).2 ⟨h, okM.up, fun x hx => s.in hx⟩, s.nd, fun x hx => .inl hx, fun x hx y _ hx' _ => absurd hx hx'⟩
  have stay : (∀ j, k ≤ j → j < l.length → f.m ≤ mAt t.fl (gI l j)) → BestP (moreT t f) n (l.foldl (addF (moreT t f).N n) noPlan) := fun hall => s.one own fun g hg => by
    rw [sums g hg, s.worth, if_neg s.not]; have := room f.m fm0 hall g hg; omega
  cases u with
  | zero =>
    show LatP _ _ _ l l ∧ BestP _ _ (l.foldl _ _)
    exact ⟨own, stay fun j hj hjl => by omega⟩
  | succ u =>
    unfold swapL; rw [moreT_mf]; have hkl : k < l.length := by omega
    obtain ⟨i, ei, him⟩ := s.mm _ (gI_mem hkl); have emk : mAt (moreT t f).fl (gI l k) = mAt t.fl (gI l k) := by rw [ei]; exact moreT_m him
    rw [emk]
    by_cases c : f.m ≤ mAt t.fl (gI l k)
    · rw [if_pos c]; exact ⟨own, stay fun j hj hjl => by have := s.sorted hj hjl; omega⟩
    · rw [if_neg c]
      by_cases c2 : canF (moreT t f).N n (l.eraseIdx k ++ [((t.fl.length : Nat) : Int)]) noPlan = true
      · rw [if_pos c2]
        have lp : LatP (moreT t f).N n t.fl.length l (l.eraseIdx k ++ [((t.fl.length : Nat) : Int)]) := ⟨c2, ndE k hkl, mmE k hkl, fun x hx y hy hx' hy' => by
          have key : ∀ z ∈ l, z ∉ l.eraseIdx k ++ [((t.fl.length : Nat) : Int)] → z = gI l k := fun z hz hz' => by
            by_cases q : z = gI l k
            · exact q
            · exact absurd (List.mem_append_left _ ((mem_eraseIdx_nd s.nd hkl).2 ⟨hz, q⟩)) hz'
          rw [key x hx hx', key y hy hy']⟩
        refine ⟨lp, s.one lp fun g hg => ?_⟩; have w0 : 0 ≤ mAt t.fl (gI l k) := mAt_pos s.hT.mr _; have q := room (mAt t.fl (gI l k)) w0 (fun j hj hjl => s.sorted hj hjl) g hg; have q2 := sum_erase (W := mAt t.fl) s.nd hkl ei him; rw [s.worth] at q2
        have e3 : sumN (fun j => if (j : Int) ∈ l.eraseIdx k ++ [((t.fl.length : Nat) : Int)] then mAt t.fl j else 0) t.fl.length = sumN (fun j => if (j : Int) ∈ l.eraseIdx k then mAt t.fl j else 0) t.fl.length := sumN_eq _ fun j hj => by
          by_cases z : (j : Int) ∈ l.eraseIdx k
          · rw [if_pos z, if_pos (List.mem_append_left _ z)]
          · rw [if_neg z, if_neg (by rw [List.mem_append, List.mem_singleton]; rintro (a | a); exact z a; omega)]
        rw [sums g hg, e3, if_pos (by simp)]; have c1 := hg.one t.fl.length; have c0 := cntN_pos (h := g) (j := ((t.fl.length : Nat) : Int)) (n := n); rw [ei] at c q
        rcases (show cntN g ((t.fl.length : Nat) : Int) n = 0 ∨ cntN g ((t.fl.length : Nat) : Int) n = 1 by omega) with z | z
        · rw [z, Int.zero_mul] at q ⊢; omega
        · rw [z, Int.one_mul] at q ⊢; omega
      · rw [if_neg c2]
        exact s.swap hno u (k + 1) (by omega) fun j hj => by
          rcases Nat.lt_or_ge j k with q | q
          · exact hbad j q
          · obtain rfl : j = k := by omega
            exact ⟨by simpa using c2, by omega⟩
end
theorem posF_at {fl : List Fl} (h : fl.Pairwise fun f g => f.id ≠ g.id) {i : Nat} (hi : i < fl.length) : posF fl fl[i].id = (i : Int) := by
  rw [← FindP.eq (fl := fl) (id := fl[i].id) (r := (i : Int)) (.inl ⟨i, rfl, hi, rfl, fun j hj => List.pairwise_iff_getElem.1 h j i (by omega) hi hj⟩)]
theorem posF_inj {fl : List Fl} {a b : Int} (ha : 0 ≤ posF fl a) (e : posF fl a = posF fl b) : a = b := by
  rcases posF_cases fl a with ⟨i, hi, e1, e2⟩ | ⟨e1, -⟩
  · rcases posF_cases fl b with ⟨j, hj, e3, e4⟩ | ⟨e3, -⟩
    · obtain rfl : i = j := by omega
      rw [← e2, e4]
    · omega
  · omega
theorem ClOk.of {n : Int} {cl : List Int} (hr : Rising cl) (hb : ∀ x ∈ cl, 0 ≤ x ∧ x ≤ n - 1) : ClOk n cl := fun k hk => ⟨hb _ (gI_mem hk), fun h0 => hr (k - 1) k (by omega) hk⟩
theorem closed_good {t : Tr} (hg : GoodT t) {d : Int} (h : 0 ≤ d ∧ d ≤ t.n - 1) : GoodT (closedT t d) :=
  ⟨hg.n, ClOk.of (hg.cl.rising.close d) fun x hx => by
    show 0 ≤ x ∧ x ≤ t.n - 1
    rcases mem_closeL.1 hx with e | hx
    · omega
    · obtain ⟨k, hk, e⟩ := mem_gI.1 hx; have := (hg.cl k hk).1
      omega, hg.fl, hg.ok, hg.ids⟩
theorem gain_facts {t : Tr} {d c : Int} (h0 : dayE t d = 0) (hc : ∀ f ∈ t.fl, f.m ≤ c) (hc0 : 0 ≤ c) :
    (0 ≤ gainF t d ∧ gainF t d ≤ c) ∧ (0 ≤ lostF t d ∧ lostF t d ≤ c) ∧ ¬ (0 < gainF t d ∧ 0 < lostF t d) ∧ gainF (closedT t d) d = gainF t d + lostF t d ∧ dayE (closedT t d) d = 0 := by
  obtain ⟨hk, hd⟩ := dayE_zero.1 h0; have hg := checkT_zero.1 hk; have hn := hg.n; obtain ⟨e, rfl⟩ : ∃ e : Nat, d = (e : Int) := ⟨d.toNat, by omega⟩; have hT := hg.opt; have hdn : e < t.n.toNat := by omega
  have hE : dayE (closedT t (e : Int)) (e : Int) = 0 := dayE_zero.2 ⟨checkT_zero.2 (closed_good hg hd), hd⟩; have oc := open_close hT hdn hc hc0; have q : gainF (closedT t (e : Int)) (e : Int) = meritF (openT (closedT t (e : Int)) (e : Int)) t.n.toNat - meritF (closedT t (e : Int)) t.n.toNat := if_pos hE; have g1 : gainF t (e : Int) = meritF (openT t (e : Int)) t.n.toNat - meritF t t.n.toNat := if_pos h0; have l1 : lostF t (e : Int) = meritF t t.n.toNat - meritF (closedT t (e : Int)) t.n.toNat := if_pos h0; rw [open_closed hT] at q
  by_cases hin : (e : Int) ∈ t.cl
  · rw [closed_in hT hin] at l1 oc q; exact ⟨by omega, by omega, by omega, by rw [q]; omega, hE⟩
  · rw [open_out hT hin] at g1 oc q; exact ⟨by omega, by omega, by omega, by rw [q]; omega, hE⟩
theorem wider_facts {t : Tr} (hg : GoodT t) {i : Nat} (hi : i < t.fl.length) {lo hi' : Int} (h : 0 ≤ lo ∧ lo ≤ t.fl[i].lo ∧ t.fl[i].hi ≤ hi' ∧ hi' ≤ t.n - 1) : widerE t t.fl[i].id lo hi' = 0 ∧ 0 ≤ widerF t t.fl[i].id lo hi' := by
  have hp := posF_at hg.ids hi; have hl := hg.le _ (List.getElem_mem hi); have hn := hg.n
  have hE : widerE t t.fl[i].id lo hi' = 0 := by
    unfold widerE; rw [if_neg (not_not_intro (checkT_zero.2 hg)), hp, if_neg (by omega), if_neg (not_not_intro (by omega))]
  refine ⟨hE, ?_⟩
  have e : widerF t t.fl[i].id lo hi' = meritF (widerT t i lo hi') t.n.toNat - meritF t t.n.toNat := by
    unfold widerF; rw [if_pos hE, hp, Int.toNat_natCast]
  have := wider_ge hg.opt hi (lo := lo) (hi := hi') ⟨h.1, by omega⟩ ⟨h.2.1, h.2.2.1⟩; omega
theorem wider_own {t : Tr} (hg : GoodT t) {i : Nat} (hi : i < t.fl.length) {x : Int} (hx : x ∈ daysL t t.n.toNat i) : widerE t t.fl[i].id x x = 0 ∧ widerF t t.fl[i].id x x = 0 := by
  have hp := posF_at hg.ids hi; obtain ⟨d, rfl, hd, g, hb, e⟩ := (daysL_mem hg.opt hi).1 hx; have hdn := trN_lt hg.opt.span _ _ hd; have hn := hg.n
  have hE : widerE t t.fl[i].id d d = 0 := by
    unfold widerE; rw [if_neg (not_not_intro (checkT_zero.2 hg)), hp, if_neg (by omega), if_neg (not_not_intro (by omega))]
  refine ⟨hE, ?_⟩; unfold widerF; rw [if_pos hE, hp, Int.toNat_natCast, wider_day hg.opt hi hd hb e]; omega
def mostN (fl : List Fl) : Nat → Int
  | 0 => 0
  | k + 1 => if mostN fl k < mAt fl (k : Int) then mAt fl (k : Int) else mostN fl k
theorem mostN_ge (fl : List Fl) : ∀ k, 0 ≤ mostN fl k ∧ ∀ j : Nat, j < k → mAt fl (j : Int) ≤ mostN fl k
  | 0 => ⟨Int.le_refl _, fun j hj => absurd hj (Nat.not_lt_zero _)⟩
  | k + 1 => by
    obtain ⟨h1, h2⟩ := mostN_ge fl k; unfold mostN
    split
    · refine ⟨by omega, fun j hj => ?_⟩
      rcases Nat.lt_or_ge j k with q | q
      · have := h2 j q; omega
      · obtain rfl : j = k := by omega
        exact Int.le_refl _
    · refine ⟨h1, fun j hj => ?_⟩
      rcases Nat.lt_or_ge j k with q | q
      · exact h2 j q
      · obtain rfl : j = k := by omega
        omega
theorem mostN_le {fl : List Fl} (h : ∀ f ∈ fl, f.m ≤ 1000) : ∀ k, mostN fl k ≤ 1000
  | 0 => by show (0 : Int) ≤ 1000; decide
  | k + 1 => by
    have := mostN_le h k; unfold mostN
    split
    · unfold mAt
      split
      · rename_i f hf; exact h f (List.mem_of_getElem? hf)
      · decide
    · exact this
theorem mostN_all (fl : List Fl) : ∀ f ∈ fl, f.m ≤ mostN fl fl.length := fun f hf => by
  obtain ⟨i, hi, rfl⟩ := List.getElem_of_mem hf; have := (mostN_ge fl fl.length).2 i hi
  rwa [mAt_at hi] at this
end Go.Proofs.Ytnklbepeoicgpaa
namespace Go.Proofs.Ytnklbepeoicgpaa
open Go.RowKit Go.Wk Go.Proofs
theorem list_four {α : Type} {l : List α} (h : l.length = 4) : ∃ a b c d, l = [a, b, c, d] := by
  match l, h with
  | [a, b, c, d], _ => exact ⟨a, b, c, d, rfl⟩
theorem list_three {α : Type} {l : List α} (h : l.length = 3) : ∃ a b c, l = [a, b, c] := by
  match l, h with
  | [a, b, c], _ => exact ⟨a, b, c, rfl⟩
theorem list_two {α : Type} {l : List α} (h : l.length = 2) : ∃ a b, l = [a, b] := by
  match l, h with
  | [a, b], _ => exact ⟨a, b, rfl⟩
theorem openI {w : World} {v : Value} (h : Rd Try.prog w 22 [v]) : ∃ xs, IntsV w w.heap.size v xs ∧ xs.length ≤ farI := by
  have e1 : Try.prog.cellsOf 3 = 1 := by kernel_rfl
  have e2 : Try.prog.bytesOf 3 = 8 := by kernel_rfl
  obtain ⟨A, n, c, rfl, hn, hc, hx⟩ := h.list Try.underlying22 (by rw [e1]; decide) (by rw [e2]; decide); rw [e1] at hx; clear e1 e2
  obtain ⟨f, hf⟩ := Go.Deep.choose_lt (α := Int) (p := fun i z => ∃ b o, A = some ⟨b, o, none⟩ ∧ b < w.heap.size ∧ w.cell? ⟨b, o + i, none⟩ = some (.int .i64 z)) fun i hi => by
    obtain ⟨b, o, cs, h1, h2, h3, h4, h5⟩ := hx i hi; obtain ⟨z, rfl, -⟩ := h5.int Try.underlying3; exact ⟨z, b, o, h1, h2, by have := h4 0 (by decide); simpa using this⟩
  have hl : ((List.range n).map f).length = n := by simp
  refine ⟨(List.range n).map f, ⟨A, c, by rw [hl], fun hne => ?_, by rw [hl]; exact hn⟩, by rw [hl]; omega⟩
  have h0 : 0 < n := by
    rcases Nat.eq_zero_or_pos n with e | e
    · subst e; exact absurd rfl hne
    · exact e
  obtain ⟨b, o, h1, h2, -⟩ := hf 0 h0; refine ⟨b, o, h1, h2, fun k hk => ?_⟩; rw [hl] at hk; obtain ⟨b', o', h1', h2', h3'⟩ := hf k hk; rw [h1] at h1'
  injection h1' with h1'
  injection h1' with hb ho
  subst hb; subst ho
  simpa using h3'
theorem openZ {w : World} {cs : List Value} (h : Rd Try.prog w 46 cs) : ∃ z : Int × Int, cs = encZ z := by
  have e1 : Try.prog.cellsOf 46 = 2 := by kernel_rfl
  have e3 : Try.prog.cellsOf 3 = 1 := by kernel_rfl
  obtain ⟨hl, hs⟩ := h.struct Try.underlying46; have s0 : Rd Try.prog w 3 ((cs.drop 0).take (Try.prog.cellsOf 3)) := hs 0 _ rfl; have s1 : Rd Try.prog w 3 ((cs.drop 1).take (Try.prog.cellsOf 3)) := hs 1 _ rfl; rw [e1] at hl; rw [e3] at s0 s1; obtain ⟨c0, c1, rfl⟩ := list_two hl; obtain ⟨z0, q0, -⟩ := s0.int Try.underlying3; obtain ⟨z1, q1, -⟩ := s1.int Try.underlying3; simp only [List.drop_zero, List.take_succ_cons, List.take_zero, List.drop_succ_cons, List.cons.injEq, and_true] at q0 q1; subst q0; subst q1; exact ⟨(z0, z1), rfl⟩
theorem openF {w : World} {cs : List Value} (h : Rd Try.prog w 48 cs) : ∃ f : Fl, cs = encF f := by
  have e1 : Try.prog.cellsOf 48 = 4 := by kernel_rfl
  have e2 : Try.prog.cellsOf 46 = 2 := by kernel_rfl
  have e3 : Try.prog.cellsOf 3 = 1 := by kernel_rfl
  obtain ⟨hl, hs⟩ := h.struct Try.underlying48; have s0 : Rd Try.prog w 3 ((cs.drop 0).take (Try.prog.cellsOf 3)) := hs 0 _ rfl; have s1 : Rd Try.prog w 46 ((cs.drop 1).take (Try.prog.cellsOf 46)) := hs 1 _ rfl; have s2 : Rd Try.prog w 3 ((cs.drop 3).take (Try.prog.cellsOf 3)) := hs 2 _ rfl; rw [e1] at hl; rw [e3] at s0 s2; rw [e2] at s1; obtain ⟨c0, c1, c2, c3, rfl⟩ := list_four hl; obtain ⟨z0, q0, -⟩ := s0.int Try.underlying3; obtain ⟨⟨lo, hi⟩, q1⟩ := openZ s1; obtain ⟨z2, q2, -⟩ := s2.int Try.underlying3; simp only [List.drop_zero, List.take_succ_cons, List.take_zero, List.drop_succ_cons, List.cons.injEq, and_true, encZ] at q0 q1 q2; subst q0; subst q2; obtain ⟨rfl, rfl⟩ := q1; exact ⟨⟨z0, lo, hi, z2⟩, rfl⟩
instance : Inhabited Fl := ⟨⟨0, 0, 0, 0⟩⟩
theorem openFs {w : World} {v : Value} (h : Rd Try.prog w 23 [v]) : ∃ al, RowsV 4 encF w w.heap.size v al ∧ al.length ≤ farI := by
  have e1 : Try.prog.cellsOf 48 = 4 := by kernel_rfl
  have e2 : Try.prog.bytesOf 48 = 32 := by kernel_rfl
  obtain ⟨A, n, c, rfl, hn, hc, hx⟩ := h.list Try.underlying23 (by rw [e1]; decide) (by rw [e2]; decide); rw [e1] at hx; clear e1 e2
  obtain ⟨f, hf⟩ := Go.Deep.choose_lt (α := Fl) (p := fun i z => ∃ b o, A = some ⟨b, o, none⟩ ∧ b < w.heap.size ∧ ∀ r u, (encF z)[r]? = some u → w.cell? ⟨b, o + i * 4 + r, none⟩ = some u) fun i hi => by
    obtain ⟨b, o, cs, h1, h2, h3, h4, h5⟩ := hx i hi; obtain ⟨a, rfl⟩ := openF h5
    exact ⟨a, b, o, h1, h2, fun r u hu => by
      have hr : r < 4 := (List.getElem?_eq_some_iff.1 hu).1
      rw [h4 r hr]; exact hu⟩
  have hl : ((List.range n).map f).length = n := by simp
  refine ⟨(List.range n).map f, ⟨A, c, by rw [hl], fun hne => ?_, by rw [hl]; exact hn⟩, by rw [hl]; omega⟩
  have h0 : 0 < n := by
    rcases Nat.eq_zero_or_pos n with e | e
    · subst e; exact absurd rfl hne
    · exact e
  obtain ⟨b, o, h1, h2, -⟩ := hf 0 h0; refine ⟨b, o, h1, h2, fun k hk r u hu => ?_⟩; rw [hl] at hk; obtain ⟨b', o', h1', h2', h3'⟩ := hf k hk; rw [h1] at h1'
  injection h1' with h1'
  injection h1' with hb ho
  subst hb; subst ho; exact h3' r u (by simpa using hu)
theorem openTr {w : World} {v : Value} (hv : ∃ cs, v = .agg cs) (h : Rd Try.prog w 25 v.cells.toList) : ∃ t, TourV w w.heap.size v t := by
  obtain ⟨cs, rfl⟩ := hv; have e1 : Try.prog.cellsOf 25 = 3 := by kernel_rfl
  have e3 : Try.prog.cellsOf 3 = 1 := by kernel_rfl
  have e4 : Try.prog.cellsOf 22 = 1 := by kernel_rfl
  have e5 : Try.prog.cellsOf 23 = 1 := by kernel_rfl
  obtain ⟨hl, hs⟩ := h.struct Try.underlying25; have s0 : Rd Try.prog w 3 (((Value.agg cs).cells.toList.drop 0).take (Try.prog.cellsOf 3)) := hs 0 _ rfl; have s1 : Rd Try.prog w 22 (((Value.agg cs).cells.toList.drop 1).take (Try.prog.cellsOf 22)) := hs 1 _ rfl; have s2 : Rd Try.prog w 23 (((Value.agg cs).cells.toList.drop 2).take (Try.prog.cellsOf 23)) := hs 2 _ rfl; rw [e1] at hl; simp only [Value.cells] at hl s0 s1 s2; rw [e3] at s0; rw [e4] at s1; rw [e5] at s2; clear e1 e3 e4 e5; obtain ⟨l⟩ := cs; obtain ⟨c0, c1, c2, rfl⟩ := list_three hl; obtain ⟨z0, q0, -⟩ := s0.int Try.underlying3; obtain ⟨xs, hx, hxl⟩ := openI s1; obtain ⟨al, ha, hal⟩ := openFs s2; simp only [List.drop_zero, List.take_succ_cons, List.take_zero, List.drop_succ_cons, List.cons.injEq, and_true] at q0; subst q0; exact ⟨⟨z0, xs, al⟩, c1, c2, rfl, hx, ha⟩
end Go.Proofs.Ytnklbepeoicgpaa
namespace Go.Proofs.Ytnklbepeoicgpaa
def notL (fl : List Fl) (ids : List Int) : List Int := (rangeI fl.length).filter fun j => !decide (idAt fl j.toNat ∈ ids)
theorem notL_mem {fl : List Fl} {ids : List Int} {k : Nat} (hk : k < fl.length) : (k : Int) ∈ notL fl ids ↔ fl[k].id ∉ ids := by
  unfold notL; rw [List.mem_filter, rangeI_mem, Int.toNat_natCast, idAt_at hk]; simp only [Bool.not_eq_true', decide_eq_false_iff_not]; exact ⟨fun h => h.2, fun h => ⟨⟨k, rfl, hk⟩, h⟩⟩
theorem keepN_sub (l : List Int) (fl : List Fl) : ∀ k, k ≤ fl.length → (keepN l fl k).Sublist (fl.take k)
  | 0, _ => List.Sublist.refl _
  | k + 1, hk => by
    have ih := keepN_sub l fl k (by omega); rw [take_snoc (show k < fl.length by omega)]
    by_cases h : (k : Int) ∈ l
    · rw [keepN_in h]; exact ih.trans (List.sublist_append_left _ _)
    · rw [keepN_out h (by omega)]; exact ih.append (List.Sublist.refl _)
theorem keep_good {t : Tr} (hg : GoodT t) (l : List Int) : GoodT ⟨t.n, t.cl, keepN l t.fl t.fl.length⟩ := by
  have hs := keepN_sub l t.fl t.fl.length (Nat.le_refl _); rw [List.take_length] at hs; exact ⟨hg.n, hg.cl, by have := hs.length_le; have := hg.fl; show (keepN l t.fl t.fl.length).length ≤ 40; omega, fun f hf => hg.ok f (keepN_mem hf), hg.ids.sublist hs⟩
def rotN (fl : List Fl) (u : Nat) : Nat → List Fl
  | 0 => []
  | k + 1 => rotN fl u k ++ (fl[(k + u) % fl.length]?).toList
theorem rotN_S {fl : List Fl} {u k j : Nat} (e : (k + u) % fl.length = j) (hj : j < fl.length) : rotN fl u (k + 1) = rotN fl u k ++ [fl[j]] := by
  subst e
  show rotN fl u k ++ (fl[(k + u) % fl.length]?).toList = _
  rw [List.getElem?_eq_getElem hj]; rfl
theorem rotN_len {fl : List Fl} (h : 0 < fl.length) (u : Nat) : ∀ k, (rotN fl u k).length = k
  | 0 => rfl
  | k + 1 => by rw [rotN_S rfl (Nat.mod_lt _ h), List.length_append, rotN_len h u k]; rfl
theorem rotN_get {fl : List Fl} (h : 0 < fl.length) (u : Nat) : ∀ k i, i < k → (rotN fl u k)[i]? = fl[(i + u) % fl.length]?
  | 0, i, hi => absurd hi (Nat.not_lt_zero _)
  | k + 1, i, hi => by
    rw [rotN_S rfl (Nat.mod_lt _ h)]
    rcases Nat.lt_or_ge i k with q | q
    · rw [List.getElem?_append_left (by rw [rotN_len h]; exact q)]; exact rotN_get h u k i q
    · obtain rfl : i = k := by omega
      rw [List.getElem?_append_right (by rw [rotN_len h]; exact Nat.le_refl _), rotN_len h, Nat.sub_self, List.getElem?_eq_getElem (Nat.mod_lt _ h)]; rfl
theorem rot_good {t : Tr} (hg : GoodT t) (u : Nat) : GoodT ⟨t.n, t.cl, rotN t.fl u t.fl.length⟩ ∧ meritF ⟨t.n, t.cl, rotN t.fl u t.fl.length⟩ t.n.toNat = meritF t t.n.toNat := by
  rcases Nat.eq_zero_or_pos t.fl.length with h0 | h0
  · have e2 : t.fl = [] := List.eq_nil_of_length_eq_zero h0; have : (⟨t.n, t.cl, rotN t.fl u t.fl.length⟩ : Tr) = t := by rw [h0]; cases t; simp_all [rotN]
    rw [this]; exact ⟨hg, rfl⟩
  · have hr := Nat.mod_lt u h0
    have ef : ∀ a, a < t.fl.length → (a + u) % t.fl.length = if a + u % t.fl.length < t.fl.length then a + u % t.fl.length else a + u % t.fl.length - t.fl.length := fun a ha => by
      rw [← mod_rot ha hr, Nat.add_mod_mod]
    have hget := rotN_get h0 u t.fl.length
    have hat : ∀ i (hi : i < (rotN t.fl u t.fl.length).length), (rotN t.fl u t.fl.length)[i] = t.fl[(i + u) % t.fl.length]'(Nat.mod_lt _ h0) := fun i hi => by
      have q := hget i (by rw [rotN_len h0] at hi; exact hi); rw [List.getElem?_eq_getElem hi, List.getElem?_eq_getElem (Nat.mod_lt _ h0)] at q; exact Option.some.inj q
    refine ⟨⟨hg.n, hg.cl, by show (rotN t.fl u t.fl.length).length ≤ 40; rw [rotN_len h0]; exact hg.fl, fun f hf => ?_, List.pairwise_iff_getElem.2 fun i j hi hj hij => ?_⟩, rot_opt hg.opt (rotN_len h0 u _) hget⟩
    · obtain ⟨i, hi, rfl⟩ := List.getElem_of_mem hf; have hi : i < (rotN t.fl u t.fl.length).length := hi
      show FlOk t.n (rotN t.fl u t.fl.length)[i]
      rw [hat i hi]; exact hg.ok _ (List.getElem_mem _)
    · have hi : i < (rotN t.fl u t.fl.length).length := hi; have hj : j < (rotN t.fl u t.fl.length).length := hj
      show (rotN t.fl u t.fl.length)[i].id ≠ (rotN t.fl u t.fl.length)[j].id
      rw [hat i hi, hat j hj]; rw [rotN_len h0] at hi hj
      have hne : (i + u) % t.fl.length ≠ (j + u) % t.fl.length := fun e => by
        rw [ef i hi, ef j hj] at e
        split at e <;> split at e <;> omega
      rcases Nat.lt_or_gt_of_ne hne with q | q
      · exact List.pairwise_iff_getElem.1 hg.ids _ _ (Nat.mod_lt _ h0) (Nat.mod_lt _ h0) q
      · exact Ne.symm (List.pairwise_iff_getElem.1 hg.ids _ _ (Nat.mod_lt _ h0) (Nat.mod_lt _ h0) q)
theorem parts_facts {t : Tr} {ids : List Int} (h : listE t ids = 0) : let n := t.n.toNat
    GoodT (withoutT t (listI t ids)) ∧ GoodT (withoutT t (notL t.fl ids)) ∧ meritF (withoutT t (listI t ids)) n ≤ meritF t n ∧ meritF (withoutT t (notL t.fl ids)) n ≤ meritF t n ∧ meritF t n ≤ meritF (withoutT t (notL t.fl ids)) n + meritF (withoutT t (listI t ids)) n := by
  intro n; have hg := checkT_zero.1 (listE_zero.1 h).1; refine ⟨keep_good hg _, keep_good hg _, parts_le hg.opt _, parts_le hg.opt _, parts_sum hg.opt _ _ fun j hj => ?_⟩
  by_cases c : t.fl[j].id ∈ ids
  · left; exact fun q => (notL_mem hj).1 q c
  · right
    intro q; unfold listI at q; rw [if_pos h, List.mem_map] at q; obtain ⟨x, hx, e⟩ := q; refine c ?_; rw [← posF_inj (fl := t.fl) (a := x) (b := t.fl[j].id) (by omega) (by rw [posF_at hg.ids hj]; exact e)]; exact hx
theorem merit_nil {t : Tr} {n : Nat} (hT : OptT t n) (h : t.fl.length = 0) : meritF t n = 0 := by
  obtain ⟨g, g1, g2⟩ := (meritF_opt hT).ex; rw [← g2, ← worth_no (W := mAt t.fl) n]; refine worth_eq n fun d hd => ?_; have := g1.lt d; exact ⟨⟨fun q => by omega, fun q => absurd q (by show ¬ (0 : Int) ≤ -1; decide)⟩, fun q => by omega⟩
theorem earl_facts {t : Tr} (hg : GoodT t) : (earlL t).length = t.fl.length ∧ fitsE t (earlL t) = 0 ∧ fitsB t (earlL t) = true ∧ wrthK t (earlL t) (min (earlL t).length t.fl.length) = meritF t t.n.toNat := by
  have e : earlL t = earlF t.n.toNat t.fl.length t := if_pos (checkT_zero.2 hg); obtain ⟨g, h1, h2⟩ := earl_best (n := t.n.toNat) t.fl.length t rfl hg.opt; rw [← e] at h1; have hE : fitsE t (earlL t) = 0 := by unfold fitsE; rw [if_neg (not_not_intro (checkT_zero.2 hg)), if_neg (not_not_intro h1.len)]
  refine ⟨h1.len, hE, decide_eq_true ⟨hE, (wrong_plan hg.opt h1.len).2 ⟨g, h1⟩⟩, ?_⟩; rw [h1.len, Nat.min_self, h1.wrth, h2]
theorem earl_day {t : Tr} (hg : GoodT t) (h0 : 0 < t.fl.length) : ((daysL t t.n.toNat 0).length = 0 → gI (earlL t) 0 = -1) ∧ (0 < (daysL t t.n.toNat 0).length → gI (earlL t) 0 = gI (daysL t t.n.toNat 0) 0) := by
  have e : earlL t = earlF t.n.toNat t.fl.length t := if_pos (checkT_zero.2 hg); obtain ⟨k, hk⟩ : ∃ k, t.fl.length = k + 1 := ⟨t.fl.length - 1, by omega⟩; rw [e, hk, earl_first]
  cases daysL t t.n.toNat 0 with
  | nil => exact ⟨fun _ => rfl, fun h => absurd h (Nat.lt_irrefl _)⟩
  | cons x l => exact ⟨fun h => absurd h (by simp), fun _ => rfl⟩
theorem days_at {t : Tr} (hg : GoodT t) {i : Nat} (hi : i < t.fl.length) : daysE t t.fl[i].id = 0 ∧ daysR t t.fl[i].id = daysL t t.n.toNat i := by
  have hp := posF_at hg.ids hi; have h1 : daysE t t.fl[i].id = 0 := by unfold daysE; rw [if_neg (not_not_intro (checkT_zero.2 hg)), hp, if_neg (by omega)]
  exact ⟨h1, by unfold daysR; rw [if_pos h1, hp, Int.toNat_natCast]⟩
theorem daysL_len {t : Tr} {n i : Nat} (h : PlanT t n) (hi : i < t.fl.length) : (daysL t n i).length ≤ 60 := by
  unfold daysL; rw [List.length_map]; refine Nat.le_trans (List.length_filter_le _ _) ?_; rw [trN_at hi]; exact openN_len60 (h.sp i hi).1 (h.sp i hi).2 h.n2
end Go.Proofs.Ytnklbepeoicgpaa
