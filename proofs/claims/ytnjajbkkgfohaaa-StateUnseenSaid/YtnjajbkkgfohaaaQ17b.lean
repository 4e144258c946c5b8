/- Sheets without some changes: without. Sheets without some changes: Without. A sheet without changes that do not matter (plain law). StateUnseen. -/
import Derived.Test.YtnjajbkkgfohaaaQ17
set_option linter.all false
namespace Go.Proofs.Ytnjajbkkgfohaaa
open Go.RowKit Go.Wk Go.Proofs
attribute [local irreducible] Go.Wk.Wops Go.Wk.Wp Go.Wk.Mtree Go.Wk.Mops
set_option maxHeartbeats 8000000
set_option maxRecDepth 20000

def lessS (s : Sh) (ids : List Int) : Sh := ⟨s.words, filN (fun a => decide (a.id ∈ ids)) s.alts⟩
theorem SortA.low : ∀ {l : List Alt} {d e : Int}, SortA d l → e ≤ d → SortA e l
  | [], _, _, _, _ => trivial
  | _ :: _, _, _, h, he => ⟨Int.le_trans he h.1, h.2⟩
theorem SortA.sub : ∀ {l k : List Alt} {e : Int}, SortA e l → k.Sublist l → SortA e k
  | _, _, _, _, .slnil => trivial
  | a :: l, k, e, h, .cons _ hs => SortA.sub (SortA.low h.2.2 h.1) hs
  | a :: l, _, e, h, .cons₂ _ hs => ⟨h.1, h.2.1, SortA.sub h.2.2 hs⟩
theorem Good.less {s : Sh} (h : Good s) (ids : List Int) : Good (lessS s ids) :=
  ⟨h.n1, h.n2, h.ws, Nat.le_trans (List.length_filter_le ..) h.m2, fun a ha => h.rt a (List.mem_filter.1 ha).1, SortA.sub h.sorted List.filter_sublist, List.Nodup.sublist (List.filter_sublist.map _) h.ids⟩
theorem RowJ.chg {W V : World} {g : Nat} {xs : List Int} {L : List Nat} (h : RowJ W g xs) (hC : Chg L W V) (hL : ∀ k ∈ L, k ≠ g) : RowJ V g xs :=
  ⟨fun i hi => Chg.cell hC (h.c i hi) (fun hm => hL g hm rfl), Chg.fz hC (h.c 0 (List.length_pos_iff.2 h.ne)) h.fz (fun hm => hL g hm rfl), h.ne⟩
theorem RowJ.put {W V : World} {g k i : Nat} {xs : List Int} {vs : List Value} (h : RowJ W g xs) (p : Put W V k i vs) (hk : k ≠ g) : RowJ V g xs := h.chg p.chg (by simpa using hk)
theorem RowA.chg {W V : World} {b : Nat} {xs : List Alt} {L : List Nat} (h : RowA W b xs) (hC : Chg L W V) (hL : ∀ k ∈ L, k ≠ b) : RowA V b xs :=
  ⟨fun i hi r u hu => Chg.cell hC (h.c i hi r u hu) (fun hm => hL b hm rfl), Chg.fz hC (h.c 0 (List.length_pos_iff.2 h.ne) 0 _ rfl) h.fz (fun hm => hL b hm rfl), h.ne⟩
/-- the first changes of block b are xs -/
structure PreA (W : World) (b : Nat) (xs : List Alt) : Prop where
  lt : b < W.heap.size
  c : ∀ i (h : i < xs.length) r u, (encA xs[i])[r]? = some u → W.cell? ⟨b, i * 6 + r, none⟩ = some u
theorem PreA.ext {W V : World} {b : Nat} {xs : List Alt} (h : PreA W b xs) (hE : Ext W V) : PreA V b xs := ⟨Nat.lt_of_lt_of_le h.lt hE.size, fun i hi r u hu => hE.cell (h.c i hi r u hu)⟩
theorem PreA.put {W V : World} {b k i : Nat} {xs : List Alt} {vs : List Value} (h : PreA W b xs) (p : Put W V k i vs) (hk : k ≠ b) : PreA V b xs :=
  ⟨Nat.lt_of_lt_of_le h.lt p.same.2, fun i hi r u hu => Chg.cell p.chg (h.c i hi r u hu) (by simp; exact fun e => hk e.symm)⟩
theorem PreA.alts {W : World} {b c : Nat} {xs : List Alt} (h : PreA W b xs) (hc : xs.length ≤ c) : AltsV W W.heap.size (.slice (some ⟨b, 0, none⟩) xs.length c) xs :=
  ⟨_, c, rfl, fun _ => ⟨b, 0, rfl, h.lt, fun i hi r u hu => by rw [Nat.zero_add]; exact h.c i hi r u hu⟩, hc⟩
theorem RowJ.keep {w X : World} {g q : Nat} {xs : List Int} {a b : Value} (h : RowJ w g xs) (hE : Ext w X) (hq : q ≠ g) : RowJ ((X.setCell ⟨q, 0, none⟩ a).setCell ⟨q, 1, none⟩ b) g xs :=
  (h.ext hE).chg (L := [q]) (((Chg.refl [q] X).setC (by simp)).setC (by simp)) (by simpa using hq)
theorem RowA.keep {w X : World} {g q : Nat} {xs : List Alt} {a b : Value} (h : RowA w g xs) (hE : Ext w X) (hq : q ≠ g) : RowA ((X.setCell ⟨q, 0, none⟩ a).setCell ⟨q, 1, none⟩ b) g xs :=
  (h.ext hE).chg (L := [q]) (((Chg.refl [q] X).setC (by simp)).setC (by simp)) (by simpa using hq)
/-- v reads in w as the changes xs, in a block from base on -/
def AltsB (w : World) (base : Nat) (v : Value) (xs : List Alt) : Prop :=
  ∃ (A : Option Addr) (c : Nat), v = .slice A xs.length c ∧ (xs ≠ [] → ∃ b o, A = some ⟨b, o, none⟩ ∧ base ≤ b ∧ b < w.heap.size ∧ ∀ i (h : i < xs.length) r u, (encA xs[i])[r]? = some u → w.cell? ⟨b, o + i * 6 + r, none⟩ = some u) ∧ xs.length ≤ c
/-- a sheet in blocks from base on -/
def SheetB (w : World) (base : Nat) (v : Value) (s : Sh) : Prop := ∃ P p Q q, v = .agg #[.slice P s.words.length p, .slice Q s.alts.length q] ∧ IntsB w base (.slice P s.words.length p) s.words ∧ AltsB w base (.slice Q s.alts.length q) s.alts
theorem AltsB.chg {w w' : World} {base : Nat} {v : Value} {xs : List Alt} {L : List Nat} (h : AltsB w base v xs) (hC : Chg L w w') (hL : ∀ b ∈ L, b < base) : AltsB w' base v xs := by
  obtain ⟨A, c, hv, hx, hcap⟩ := h
  exact ⟨A, c, hv, fun hne => by
    obtain ⟨b, o, hA, hb, hlt, hc⟩ := hx hne
    exact ⟨b, o, hA, hb, Nat.lt_of_lt_of_le hlt hC.size, fun i hi r u hu => Chg.cell hC (hc i hi r u hu) (fun hm => by have := hL b hm; omega)⟩, hcap⟩
theorem AltsB.ext {w w' : World} {base : Nat} {v : Value} {xs : List Alt} (h : AltsB w base v xs) (hE : Ext w w') : AltsB w' base v xs := by
  obtain ⟨A, c, hv, hx, hcap⟩ := h
  exact ⟨A, c, hv, fun hne => by
    obtain ⟨b, o, hA, hb, hlt, hc⟩ := hx hne
    exact ⟨b, o, hA, hb, Nat.lt_of_lt_of_le hlt hE.size, fun i hi r u hu => hE.cell (hc i hi r u hu)⟩, hcap⟩
theorem SheetB.chg {w w' : World} {base : Nat} {v : Value} {s : Sh} {L : List Nat} (h : SheetB w base v s) (hC : Chg L w w') (hL : ∀ b ∈ L, b < base) : SheetB w' base v s := by
  obtain ⟨P, p, Q, q, e, h1, h2⟩ := h; exact ⟨P, p, Q, q, e, h1.chg hC hL, h2.chg hC hL⟩
theorem SheetB.ext {w w' : World} {base : Nat} {v : Value} {s : Sh} (h : SheetB w base v s) (hE : Ext w w') : SheetB w' base v s := by
  obtain ⟨P, p, Q, q, e, h1, h2⟩ := h; exact ⟨P, p, Q, q, e, h1.ext hE, h2.ext hE⟩
theorem SheetB.put {w w' : World} {base k i : Nat} {v : Value} {s : Sh} {vs : List Value} (h : SheetB w base v s) (p : Put w w' k i vs) (hb : k < base) : SheetB w' base v s := h.chg p.chg (by simpa using hb)
theorem SheetB.less {w : World} {base b2 : Nat} {v : Value} {s : Sh} (h : SheetB w base v s) (hb : b2 ≤ base) : SheetB w b2 v s := by
  obtain ⟨P, p, Q, q, e, h1, A, c, e2, h2, h3⟩ := h
  exact ⟨P, p, Q, q, e, h1.less hb, A, c, e2, fun hne => by obtain ⟨b, o, q1, q2, q3, q4⟩ := h2 hne; exact ⟨b, o, q1, by omega, q3, q4⟩, h3⟩
theorem SheetB.sheet {w : World} {base : Nat} {v : Value} {s : Sh} (h : SheetB w base v s) : SheetV w w.heap.size v s := by
  obtain ⟨P, p, Q, q, rfl, h1, A, c, e, h2, h3⟩ := h
  exact ⟨_, _, rfl, h1.ints, A, c, e, fun hne => by obtain ⟨b, o, q1, q2, q3, q4⟩ := h2 hne; exact ⟨b, o, q1, q3, q4⟩, h3⟩
theorem PreA.altsB {W : World} {base b c : Nat} {xs : List Alt} (h : PreA W b xs) (hb : base ≤ b) (hc : xs.length ≤ c) : AltsB W base (.slice (some ⟨b, 0, none⟩) xs.length c) xs :=
  ⟨_, c, rfl, fun _ => ⟨b, 0, rfl, hb, h.lt, fun i hi r u hu => by rw [Nat.zero_add]; exact h.c i hi r u hu⟩, hc⟩
theorem without1_c (a : Alt) (q : Nat) (fv : Value) (ids : List Int) (w : World) (hq : w.cell? ⟨q, 0, none⟩ = some fv) (hl : IntsV w w.heap.size fv ids) (hil : ids.length ≤ 1000000000000000) :
    CallsV Try.prog 137 #[altV a, .pointer (some ⟨q, 0, none⟩)] w fun v w' => v = .bool (decide (a.id ∈ ids)) ∧ Ext w w' := by
  show CallsV _ _ #[.agg #[.int .i64 a.id, .int .i64 a.kind, .int .i64 a.day, .int .i64 a.frm, .int .i64 a.tu, .int .i64 a.word], .pointer (some ⟨q, 0, none⟩)] _ _
  obtain ⟨A, c, rfl, -, -⟩ := id hl
  refine Wp.fn Try.func137 rfl Try.ntmps137 (by simp) ?_
  have xw := Ext.refl w
  refine Wp.keep [0, 1] fun r1 hkeep => ?_
  obtain ⟨e0_1, e1_1, -⟩ := hkeep
  simp [go_sem] at e0_1 e1_1
  refine Wp.seqRegion (.inl rfl) (by kernel_rfl) fun K' gd hK hg => ?_
  clear hg
  refine Wops.cut 1 fun K1 hK1 => ?_
  simp only [List.take_succ_cons, List.take_zero]
  go_simp
  refine hK1 _ _ ?_
  clear hK1 K1
  simp only [List.drop_succ_cons, List.drop_zero]
  refine Wops.absA fun V2_1 n2 hV2_1 => ?_
  obtain ⟨q2, hV2_1, s2, kV2_1, f2, r2⟩ := hV2_1
  try simp only [q2] at kV2_1 f2 r2 ⊢
  replace xw := Ext.trans xw hV2_1
  replace hq := Ext.cell hV2_1 hq
  have c2_0 := kV2_1 0 _ rfl
  have c2_1 := kV2_1 1 _ rfl
  have c2_2 := kV2_1 2 _ rfl
  have c2_3 := kV2_1 3 _ rfl
  have c2_4 := kV2_1 4 _ rfl
  have c2_5 := kV2_1 5 _ rfl
  clear kV2_1 hV2_1
  clear r2
  go_simp
  refine hK _ _ ?_
  clear hK K' gd
  refine Wp.keep [1, 2] fun r2 hkeep => ?_
  obtain ⟨e1_2, e2_2, -⟩ := hkeep
  simp [go_sem, e0_1, e1_1] at e1_2 e2_2
  clear e0_1 e1_1
  refine Wp.seqRegion (.inl rfl) (by kernel_rfl) fun K' gd hK hg => ?_
  clear hg
  refine Wops.cut 4 fun K1 hK1 => ?_
  simp only [List.take_succ_cons, List.take_zero]
  go_simp
  refine Wcall (.inl rfl) (containsE_c _ ids a.id _ (hl.ext xw) hil) ?_
  rintro v w2 ⟨rfl, hE⟩
  go_simp
  refine hK1 _ _ ?_
  clear hK1 K1
  simp only [List.drop_succ_cons, List.drop_zero]
  have z3 := Below.size hE
  replace f2 := Ext.fz hE c2_0 f2
  replace xw := Ext.trans xw hE
  replace hq := Ext.cell hE hq
  replace c2_0 := Ext.cell hE c2_0
  replace c2_1 := Ext.cell hE c2_1
  replace c2_2 := Ext.cell hE c2_2
  replace c2_3 := Ext.cell hE c2_3
  replace c2_4 := Ext.cell hE c2_4
  replace c2_5 := Ext.cell hE c2_5
  clear hE
  go_simp
  refine hK _ _ ?_
  clear hK K' gd
  refine Wp.keep [3] fun r4 hkeep => ?_
  obtain ⟨e3_4, -⟩ := hkeep
  simp [go_sem, e1_2, e2_2] at e3_4
  clear e1_2 e2_2
  refine Wp.ret ?_
  refine endK_tmp Try.results137 (by decide) ?_
  rw [e3_4]
  exact ⟨rfl, xw⟩
theorem Chg.fz1 {L : List Nat} {w V : World} (h : Chg L w V) {b i k : Nat} {v : Value} (c : w.cell? ⟨b, i, none⟩ = some v) (hf : w.frozen? ⟨b, k, none⟩ = false) (hb : b ∉ L) : V.frozen? ⟨b, k, none⟩ = false := by
  rw [← hf]
  simp only [World.frozen?, h.block b (cell_lt c) hb]
theorem deleteB_c (b n c : Nat) (al : List Alt) (p : Alt → Bool) (gf : Nat) (en : Value) (w : World) (hx : RowA w b al) (hn : al.length = n) (hnc : n ≤ c) (hl : n ≤ 1000000000)
    (heg : ∀ args w, (callFunc gf args).run Try.prog w = .ok (.enter gf args) w)
    (hp : ∀ a ∈ al, ∀ W, Chg [b] w W → CallsV Try.prog gf #[altV a, en] W fun v W' => v = .bool (p a) ∧ Ext W W') :
    CallsV Try.prog 136 #[.slice (some ⟨b, 0, none⟩) n c, .func (.func gf) #[] #[en]] w fun v w' =>
      (v = .slice (some ⟨b, 0, none⟩) (filN p al).length c ∧ PreA w' b (filN p al)) ∧ Chg [b] w w' :=
  (deleteA_c b n c al p gf en w hx hn hnc hl heg hp).mono fun v w' ⟨⟨h1, h2⟩, h3⟩ => ⟨⟨h1, Nat.lt_of_lt_of_le hx.len h3.size, h2⟩, h3⟩
theorem without_c (v iv : Value) (s : Sh) (ids : List Int) (w : World) (hV : SheetV w w.heap.size v s) (hI : IntsV w w.heap.size iv ids) (hgd : Good s) (hil : ids.length ≤ 1000000000000000) (hne : s.alts ≠ []) :
    CallsV Try.prog 107 #[v, iv] w fun v w' => SheetB w' w.heap.size v (lessS s ids) ∧ Ext w w' := by
  obtain ⟨wv, av, rfl, hW, hA⟩ := id hV
  obtain ⟨A, c1, rfl, -, -⟩ := id hW
  obtain ⟨A3, c3, rfl, -, -⟩ := id hA
  obtain ⟨A4, c4, rfl, -, -⟩ := id hI
  have hw40 : s.words.length ≤ 40 := hgd.n2
  have hwne : s.words ≠ [] := List.length_pos_iff.1 hgd.n1
  have ha40 := hgd.m2
  refine Wp.fn Try.func107 rfl Try.ntmps107 (by simp) ?_
  have xw := Ext.refl w
  refine Wp.keep [0, 1] fun r1 hkeep => ?_
  obtain ⟨e0_1, e1_1, -⟩ := hkeep
  simp [go_sem] at e0_1 e1_1
  refine Wp.seqRegion (.inl rfl) (by kernel_rfl) fun K' gd hK hg => ?_
  clear hg
  refine Wops.cut 1 fun K1 hK1 => ?_
  simp only [List.take_succ_cons, List.take_zero]
  go_simp
  refine hK1 _ _ ?_
  clear hK1 K1
  simp only [List.drop_succ_cons, List.drop_zero]
  refine Wops.absA fun V2_1 n2 hV2_1 => ?_
  obtain ⟨q2, hV2_1, s2, kV2_1, f2, r2⟩ := hV2_1
  try simp only [q2] at kV2_1 f2 r2 ⊢
  replace xw := Ext.trans xw hV2_1
  have c2_0 := kV2_1 0 _ rfl
  have c2_1 := kV2_1 1 _ rfl
  clear kV2_1 hV2_1
  clear r2
  refine Wops.cut 1 fun K1 hK1 => ?_
  simp only [List.take_succ_cons, List.take_zero]
  go_simp
  refine hK1 _ _ ?_
  clear hK1 K1
  simp only [List.drop_succ_cons, List.drop_zero]
  refine Wops.absA fun V3_2 n3 hV3_2 => ?_
  obtain ⟨q3, hV3_2, s3, kV3_2, f3, r3⟩ := hV3_2
  try simp only [q3] at kV3_2 f3 r3 ⊢
  replace f2 := Ext.fz hV3_2 c2_0 f2
  replace xw := Ext.trans xw hV3_2
  replace c2_0 := Ext.cell hV3_2 c2_0
  replace c2_1 := Ext.cell hV3_2 c2_1
  have c3_0 := kV3_2 0 _ rfl
  clear kV3_2 hV3_2
  clear r3
  refine Wops.cut 1 fun K1 hK1 => ?_
  simp only [List.take_succ_cons, List.take_zero]
  go_simp
  refine hK1 _ _ ?_
  clear hK1 K1
  simp only [List.drop_succ_cons, List.drop_zero]
  refine Wops.absA fun V4_3 n4 hV4_3 => ?_
  obtain ⟨q4, hV4_3, s4, kV4_3, f4, r4⟩ := hV4_3
  try simp only [q4] at kV4_3 f4 r4 ⊢
  replace f2 := Ext.fz hV4_3 c2_0 f2
  replace f3 := Ext.fz hV4_3 c3_0 f3
  replace xw := Ext.trans xw hV4_3
  replace c2_0 := Ext.cell hV4_3 c2_0
  replace c2_1 := Ext.cell hV4_3 c2_1
  replace c3_0 := Ext.cell hV4_3 c3_0
  have c4_0 := kV4_3 0 _ rfl
  have c4_1 := kV4_3 1 _ rfl
  clear kV4_3 hV4_3
  clear r4
  try simp only [Wops_nil, updO_some, updO_none]
  refine hK _ _ ?_
  clear hK K' gd
  refine Wp.keep [2, 3, 4] fun r2 hkeep => ?_
  obtain ⟨e2_2, e3_2, e4_2, -⟩ := hkeep
  simp [go_sem, e0_1, e1_1] at e2_2 e3_2 e4_2
  clear e0_1 e1_1
  obtain ⟨B9, g1, g2, g3, g4, g5⟩ : ∃ B9, B9 ≤ V4_3.heap.size ∧ n2 < B9 ∧ n3 < B9 ∧ n4 < B9 ∧ w.heap.size ≤ B9 := ⟨_, Nat.le_refl _, by omega, by omega, by omega, by omega⟩
  refine Wp.seqDrawT (.inl rfl) mixed (.rd [0, 1, 3, 4] (.both (.act 2 false (.both (.act 5 false (.rd [6] (.act 7 false (.act 8 true .done)))) (.act 7 false (.act 5 false (.rd [6] (.act 8 true .done)))))) (.act 7 false (.act 2 false (.act 5 false (.rd [6] (.act 8 true .done))))))) (by kernel_rfl) (fun ρ W => AllEq [3, 4] ρ r2 ∧ (Ext V4_3 W ∧ ∃ q g kw b ka, ρ 5 = .pointer (some ⟨q, 0, none⟩) ∧ W.cell? ⟨q, 0, none⟩ = some (.slice (some ⟨g, 0, none⟩) s.words.length kw) ∧ W.cell? ⟨q, 1, none⟩ = some (.slice (some ⟨b, 0, none⟩) s.alts.length ka) ∧ W.frozen? ⟨q, 1, none⟩ = false ∧ RowJ W g s.words ∧ RowA W b s.alts ∧ (∃ _u : Unit, q ≠ g ∧ q ≠ b ∧ g ≠ b ∧ B9 ≤ b ∧ B9 ≤ q ∧ B9 ≤ g ∧ s.words.length ≤ kw ∧ s.alts.length ≤ ka))) (fun K' gd hK hg => ?_) ?_
  · skip
    clear hg
    simp only [pickT, nth, List.map_cons, List.map_nil]
    apply Mtree.reads
    · intro w' hE'
      have hC' := hE'.cellsS
      go_simp
      with_reducible rfl
    refine Mtree.two ?_ ?_
    · skip
      refine Mtree.step fun K1 hK1 => ?_
      go_simp
      refine Wcall (.inl rfl) (cloneI_c _ s.words _ (hW.ext XE) (by omega)) ?_
      rintro v w6 ⟨hQa, hE6⟩
      first | have z6 : V4_3.heap.size ≤ w6.heap.size := (Below.size hE6 : V4_3.drew.heap.size ≤ w6.heap.size) | have z6 := Below.size hE6
      obtain ⟨g, kw, rfl, hg6, hkw, hJ⟩ := hQa.rowJ hwne
      have lg := cell_lt (hJ.c 0 (List.length_pos_iff.2 hwne))
      first | have hg7 : V4_3.heap.size ≤ g := hg6 | skip
      go_simp
      refine hK1 _ _ XR ?_
      clear hK1 K1
      refine Mtree.two ?_ ?_
      · skip
        refine Mtree.step fun K1 hK1 => ?_
        go_simp
        refine Wcall (.inl rfl) (cloneA_c _ s.alts _ (hA.ext XE) (by omega)) ?_
        rintro v w7 ⟨hQb, hE7⟩
        first | have z7 : V4_3.heap.size ≤ w7.heap.size := (Below.size hE7 : V4_3.drew.heap.size ≤ w7.heap.size) | have z7 := Below.size hE7
        obtain ⟨b, ka, rfl, hb7, hka, hRA⟩ := hQb.rowA hne
        have lb := hRA.len
        go_simp
        refine hK1 _ _ XR ?_
        clear hK1 K1
        apply Mtree.reads
        · intro w' hE'
          have hC' := hE'.cellsS
          go_simp
          with_reducible rfl
        refine Mtree.step fun K1 hK1 => ?_
        go_simp
        refine hK1 _ _ XA ?_
        clear hK1 K1
        first | refine Mtree.abs fun V3 hV3 sV3 hVc hVf => ?_ | refine Mtree.absD fun V3 hV3 sV3 hVc hVf => ?_
        have cV3_0 := hVc 0 _ rfl
        have fV3_0 := hVf 0
        have cV3_1 := hVc 1 _ rfl
        have fV3_1 := hVf 1
        clear hVc hVf
        refine Mtree.stepT fun K1 hK1 => ?_
        go_simp
        refine hK1 _ _ ?_
        clear hK1 K1
        refine Mtree.fin ?_
        refine hK _ _ ⟨by simp [AllEq, go_sem], ?_⟩
        refine ⟨XS, ?_⟩
        exact ⟨_, g, kw, b, ka, rfl, by go_simp, by go_simp, by go_simp, hJ.keep XE (by simp only at lg; omega), hRA.keep XE (by omega), (), by simp only at lg; omega, by omega, by simp only at lg; omega, by first | omega | (have : V4_3.heap.size ≤ b := hb7; omega), by omega, by omega, by omega, by omega⟩
      · skip
        refine Mtree.step fun K1 hK1 => ?_
        go_simp
        refine hK1 _ _ XA ?_
        clear hK1 K1
        first | refine Mtree.abs fun V4 hV4 sV4 hVc hVf => ?_ | refine Mtree.absD fun V4 hV4 sV4 hVc hVf => ?_
        have cV4_0 := hVc 0 _ rfl
        have fV4_0 := hVf 0
        have cV4_1 := hVc 1 _ rfl
        have fV4_1 := hVf 1
        clear hVc hVf
        refine Mtree.step fun K1 hK1 => ?_
        go_simp
        refine Wcall (.inl rfl) (cloneA_c _ s.alts _ (hA.ext XE) (by omega)) ?_
        rintro v w7 ⟨hQb, hE7⟩
        first | have z7 : V4_3.heap.size ≤ w7.heap.size := (Below.size hE7 : V4_3.drew.heap.size ≤ w7.heap.size) | have z7 := Below.size hE7
        obtain ⟨b, ka, rfl, hb7, hka, hRA⟩ := hQb.rowA hne
        have lb := hRA.len
        go_simp
        refine hK1 _ _ XR ?_
        clear hK1 K1
        have fc5 := (Ext.frozen hE7 cV4_0).trans fV4_0
        have c5 := Ext.cell hE7 cV4_0
        have fc6 := (Ext.frozen hE7 cV4_1).trans fV4_1
        have c6 := Ext.cell hE7 cV4_1
        apply Mtree.reads
        · intro w' hE'
          have hC' := hE'.cellsS
          go_simp
          with_reducible rfl
        refine Mtree.stepT fun K1 hK1 => ?_
        go_simp
        refine hK1 _ _ ?_
        clear hK1 K1
        refine Mtree.fin ?_
        refine hK _ _ ⟨by simp [AllEq, go_sem], ?_⟩
        refine ⟨XS, ?_⟩
        exact ⟨_, g, kw, b, ka, rfl, by go_simp, by go_simp, by go_simp, hJ.keep XE (by simp only at lg; omega), hRA.keep XE (by omega), (), by simp only at lg; omega, by omega, by simp only at lg; omega, by first | omega | (have : V4_3.heap.size ≤ b := hb7; omega), by omega, by omega, by omega, by omega⟩
    · skip
      refine Mtree.step fun K1 hK1 => ?_
      go_simp
      refine hK1 _ _ XA ?_
      clear hK1 K1
      first | refine Mtree.abs fun V7 hV7 sV7 hVc hVf => ?_ | refine Mtree.absD fun V7 hV7 sV7 hVc hVf => ?_
      have cV7_0 := hVc 0 _ rfl
      have fV7_0 := hVf 0
      have cV7_1 := hVc 1 _ rfl
      have fV7_1 := hVf 1
      clear hVc hVf
      refine Mtree.step fun K1 hK1 => ?_
      go_simp
      refine Wcall (.inl rfl) (cloneI_c _ s.words _ (hW.ext XE) (by omega)) ?_
      rintro v w6 ⟨hQa, hE6⟩
      first | have z6 : V4_3.heap.size ≤ w6.heap.size := (Below.size hE6 : V4_3.drew.heap.size ≤ w6.heap.size) | have z6 := Below.size hE6
      obtain ⟨g, kw, rfl, hg6, hkw, hJ⟩ := hQa.rowJ hwne
      have lg := cell_lt (hJ.c 0 (List.length_pos_iff.2 hwne))
      first | have hg7 : V4_3.heap.size ≤ g := hg6 | skip
      go_simp
      refine hK1 _ _ XR ?_
      clear hK1 K1
      have fc8 := (Ext.frozen hE6 cV7_0).trans fV7_0
      have c8 := Ext.cell hE6 cV7_0
      have fc9 := (Ext.frozen hE6 cV7_1).trans fV7_1
      have c9 := Ext.cell hE6 cV7_1
      refine Mtree.step fun K1 hK1 => ?_
      go_simp
      refine Wcall (.inl rfl) (cloneA_c _ s.alts _ (hA.ext XE) (by omega)) ?_
      rintro v w7 ⟨hQb, hE7⟩
      first | have z7 : V4_3.heap.size ≤ w7.heap.size := (Below.size hE7 : V4_3.drew.heap.size ≤ w7.heap.size) | have z7 := Below.size hE7
      obtain ⟨b, ka, rfl, hb7, hka, hRA⟩ := hQb.rowA hne
      have lb := hRA.len
      go_simp
      refine hK1 _ _ XR ?_
      clear hK1 K1
      have fc10 := (Ext.frozen hE7 c8).trans fc8
      have c10 := Ext.cell hE7 c8
      have fc11 := (Ext.frozen hE7 c9).trans fc9
      have c11 := Ext.cell hE7 c9
      apply Mtree.reads
      · intro w' hE'
        have hC' := hE'.cellsS
        go_simp
        with_reducible rfl
      refine Mtree.stepT fun K1 hK1 => ?_
      go_simp
      refine hK1 _ _ ?_
      clear hK1 K1
      refine Mtree.fin ?_
      refine hK _ _ ⟨by simp [AllEq, go_sem], ?_⟩
      refine ⟨XS, ?_⟩
      exact ⟨_, g, kw, b, ka, rfl, by go_simp, by go_simp, by go_simp, hJ.keep XE (by simp only at lg; omega), hRA.keep XE (by omega), (), by simp only at lg; omega, by omega, by simp only at lg; omega, by first | omega | (have : V4_3.heap.size ≤ b := hb7; omega), by omega, by omega, by omega, by omega⟩
  · rintro r12 W ⟨hA, hT4, q, g, kw, b, ka, e5, m1, m2, f1, hJ, hRA, hd⟩
    obtain ⟨e3_12, e4_12, -⟩ := hA
    rw [e3_2] at e3_12
    rw [e4_2] at e4_12
    clear e2_2 e3_2 e4_2
    have zhT4 := Below.size hT4
    replace f2 := Ext.fz hT4 c2_0 f2
    replace f3 := Ext.fz hT4 c3_0 f3
    replace f4 := Ext.fz hT4 c4_0 f4
    replace xw := Ext.trans xw hT4
    replace c2_0 := Ext.cell hT4 c2_0
    replace c2_1 := Ext.cell hT4 c2_1
    replace c3_0 := Ext.cell hT4 c3_0
    replace c4_0 := Ext.cell hT4 c4_0
    replace c4_1 := Ext.cell hT4 c4_1
    obtain ⟨d1, d2, d3, d4, d5, d6, d7, d8⟩ := hd.choose_spec
    have hbig : s.alts.length ≤ 1000000000 := by omega
    refine Wp.seqRegion (.inl rfl) (by kernel_rfl) fun K' gd hK hg => ?_
    clear hg
    refine Wops.cut 4 fun K1 hK1 => ?_
    simp only [List.take_succ_cons, List.take_zero]
    go_simp
    refine Wcall (.inl rfl) (deleteB_c b s.alts.length ka s.alts (fun a => decide (a.id ∈ ids)) 137 (.pointer (some ⟨n3, 0, none⟩)) _ hRA rfl d8 hbig (enters_of Try.func137 (by kernel_rfl) rfl) (fun a ha W hW => without1_c a n3 _ ids W (Chg.cell hW c3_0 (by simp; omega)) (hI.ext (Chg.to xw hW (by simp; omega))) hil)) ?_
    rintro v w9 ⟨⟨rfl, hP⟩, hE⟩
    have f2q := Chg.fz1 hE m1 f1 (by simp; omega)
    go_simp
    refine hK1 _ _ ?_
    clear hK1 K1
    simp only [List.drop_succ_cons, List.drop_zero]
    have z13 := Chg.size hE
    replace f2 := Chg.fz hE c2_0 f2 XN
    replace f3 := Chg.fz hE c3_0 f3 XN
    replace f4 := Chg.fz hE c4_0 f4 XN
    replace hJ := hJ.chg hE XB
    replace xw := Chg.to xw hE XL
    replace c2_0 := Chg.cell hE c2_0 XN
    replace c2_1 := Chg.cell hE c2_1 XN
    replace c3_0 := Chg.cell hE c3_0 XN
    replace c4_0 := Chg.cell hE c4_0 XN
    replace c4_1 := Chg.cell hE c4_1 XN
    replace m1 := Chg.cell hE m1 XN
    replace m2 := Chg.cell hE m2 XN
    refine Wops.cut 2 fun K1 hK1 => ?_
    simp only [List.take_succ_cons, List.take_zero]
    go_simp
    refine hK1 _ _ ?_
    clear hK1 K1
    simp only [List.drop_succ_cons, List.drop_zero]
    refine Wops.absS (b := q) (i := 1) [_] (some1 m2) fun P9 hP9 => ?_
    have zP9 := hP9.same
    replace f2 := Put.frz hP9 f2
    replace f3 := Put.frz hP9 f3
    replace f4 := Put.frz hP9 f4
    replace hJ := hJ.put hP9 (by omega)
    replace hP := hP.put hP9 (by omega)
    replace xw := Put.to xw hP9 (by omega)
    replace c2_0 := Put.cell hP9 c2_0 (by omega)
    replace c2_1 := Put.cell hP9 c2_1 (by omega)
    replace c3_0 := Put.cell hP9 c3_0 (by omega)
    replace c4_0 := Put.cell hP9 c4_0 (by omega)
    replace c4_1 := Put.cell hP9 c4_1 (by omega)
    replace m1 := Put.cellOff hP9 m1 (by first | (simp; done) | (simp; omega))
    try simp only [Wops_nil, updO_some, updO_none]
    refine hK _ _ ?_
    clear hK K' gd
    refine Wp.keep [4, 5] fun r14 hkeep => ?_
    obtain ⟨e4_14, e5_14, -⟩ := hkeep
    simp [go_sem, e3_12, e4_12, e5] at e4_14 e5_14
    clear e3_12 e4_12 e5
    have m3 : P9.cell? ⟨q, 1, none⟩ = some (.slice (some ⟨b, 0, none⟩) (lessS s ids).alts.length ka) := hP9.new 0 _ rfl
    refine Wp.seqRegion (.inl rfl) (by kernel_rfl) fun K' gd hK hg => ?_
    clear hg
    refine Wops.cut 2 fun K1 hK1 => ?_
    simp only [List.take_succ_cons, List.take_zero]
    go_simp
    refine hK1 _ _ ?_
    clear hK1 K1
    simp only [List.drop_succ_cons, List.drop_zero]
    refine Wops.absS (b := n4) (i := 0) [_, _] (somes [cellVal c4_0, cellVal c4_1] (by simp) (by intro j v hj; match j, hj with | 0, hj => (simp at hj; subst hj; exact c4_0) | 1, hj => (simp at hj; subst hj; exact c4_1))) fun P6 hP6 => ?_
    have zP6 := hP6.same
    replace f2 := Put.frz hP6 f2
    replace f3 := Put.frz hP6 f3
    replace f4 := Put.frz hP6 f4
    replace hJ := hJ.put hP6 (by omega)
    replace hP := hP.put hP6 (by omega)
    replace xw := Put.to xw hP6 (by omega)
    replace c2_0 := Put.cell hP6 c2_0 (by omega)
    replace c2_1 := Put.cell hP6 c2_1 (by omega)
    replace c3_0 := Put.cell hP6 c3_0 (by omega)
    clear c4_0
    clear c4_1
    replace m1 := Put.cell hP6 m1 (by omega)
    replace m3 := Put.cell hP6 m3 (by omega)
    have c4_0 := hP6.new 0 _ rfl
    try simp only [Nat.reduceAdd, Nat.zero_add, Nat.add_zero] at c4_0
    have c4_1 := hP6.new 1 _ rfl
    try simp only [Nat.reduceAdd, Nat.zero_add, Nat.add_zero] at c4_1
    clear hP6
    try simp only [Wops_nil, updO_some, updO_none]
    refine hK _ _ ?_
    clear hK K' gd
    refine Wp.keep [4] fun r15 hkeep => ?_
    obtain ⟨e4_15, -⟩ := hkeep
    simp [go_sem, e4_14, e5_14] at e4_15
    clear e4_14 e5_14
    refine Wp.ret ?_
    refine endK_cell (v := .agg #[cellVal c4_0, cellVal c4_1]) Try.results107 (by decide) e4_15 (by dsimp only [cellVal]; go_simp) ?_
    dsimp only [cellVal]
    have hle : (lessS s ids).alts.length ≤ ka := Nat.le_trans (List.length_filter_le ..) d8
    exact ⟨⟨_, kw, _, ka, rfl, hJ.intsB (by omega) d7, hP.altsB (by omega) hle⟩, xw⟩
end Go.Proofs.Ytnjajbkkgfohaaa
namespace Go.Proofs.Ytnjajbkkgfohaaa
open Go.RowKit Go.Wk Go.Proofs
attribute [local irreducible] Go.Wk.Wops Go.Wk.Wp Go.Wk.Mtree Go.Wk.Mops
set_option maxHeartbeats 8000000
set_option maxRecDepth 20000

theorem Without_c (v iv : Value) (s : Sh) (ids : List Int) (w : World) (hV : SheetV w w.heap.size v s) (hI : IntsV w w.heap.size iv ids) (hf : FitS s) (hgd : Good s) (hil : ids.length ≤ 1000000000000000) (hne : s.alts ≠ []) :
    CallsV Try.prog 54 #[v, iv] w fun v w' => (∃ t, v = .tuple #[t, .int .i64 0] ∧ SheetB w' w.heap.size t (lessS s ids)) ∧ Ext w w' := by
  obtain ⟨wv, av, rfl, ⟨A, c1, rfl, -, -⟩, ⟨A3, c3, rfl, -, -⟩⟩ := id hV
  obtain ⟨A4, c4, rfl, -, -⟩ := id hI
  have hck : checkS s = 0 := checkS_zero.2 hgd
  refine Wp.fn Try.func54 rfl Try.ntmps54 (by simp) ?_
  have xw := Ext.refl w
  refine Wp.keep [0, 1] fun r1 hkeep => ?_
  obtain ⟨e0_1, e1_1, -⟩ := hkeep
  simp [go_sem] at e0_1 e1_1
  refine Wp.seqRegion (.inl rfl) (by kernel_rfl) fun K' gd hK hg => ?_
  clear hg
  refine Wops.cut 1 fun K1 hK1 => ?_
  simp only [List.take_succ_cons, List.take_zero]
  go_simp
  refine hK1 _ _ ?_
  clear hK1 K1
  simp only [List.drop_succ_cons, List.drop_zero]
  refine Wops.absA fun V2_1 n2 hV2_1 => ?_
  obtain ⟨q2, hV2_1, s2, kV2_1, f2, r2⟩ := hV2_1
  try simp only [q2] at kV2_1 f2 r2 ⊢
  replace xw := Ext.trans xw hV2_1
  have c2_0 := kV2_1 0 _ rfl
  have c2_1 := kV2_1 1 _ rfl
  clear kV2_1 hV2_1
  clear r2
  refine Wops.cut 1 fun K1 hK1 => ?_
  simp only [List.take_succ_cons, List.take_zero]
  go_simp
  refine hK1 _ _ ?_
  clear hK1 K1
  simp only [List.drop_succ_cons, List.drop_zero]
  refine Wops.absA fun V4_2 n4 hV4_2 => ?_
  obtain ⟨q4, hV4_2, s4, kV4_2, f4, r4⟩ := hV4_2
  try simp only [q4] at kV4_2 f4 r4 ⊢
  replace f2 := Ext.fz hV4_2 c2_0 f2
  replace xw := Ext.trans xw hV4_2
  replace c2_0 := Ext.cell hV4_2 c2_0
  replace c2_1 := Ext.cell hV4_2 c2_1
  have c4_0 := kV4_2 0 _ rfl
  have c4_1 := kV4_2 1 _ rfl
  clear kV4_2 hV4_2
  clear r4
  go_simp
  refine hK _ _ ?_
  clear hK K' gd
  refine Wp.keep [1, 2, 4] fun r2 hkeep => ?_
  obtain ⟨e1_2, e2_2, e4_2, -⟩ := hkeep
  simp [go_sem, e0_1, e1_1] at e1_2 e2_2 e4_2
  clear e0_1 e1_1
  refine Wp.seq ?_
  refine Wp.seqRegion (.inl rfl) (by kernel_rfl) fun K' gd hK hg => ?_
  clear hg
  refine Wops.cut 2 fun K1 hK1 => ?_
  simp only [List.take_succ_cons, List.take_zero]
  go_simp
  refine Wcall (.inl rfl) (check_c _ s _ (hV.ext xw) hf) ?_
  rintro v w2 ⟨rfl, hE⟩
  go_simp
  refine hK1 _ _ ?_
  clear hK1 K1
  simp only [List.drop_succ_cons, List.drop_zero]
  have z3 := Below.size hE
  replace f2 := Ext.fz hE c2_0 f2
  replace f4 := Ext.fz hE c4_0 f4
  replace xw := Ext.trans xw hE
  replace c2_0 := Ext.cell hE c2_0
  replace c2_1 := Ext.cell hE c2_1
  replace c4_0 := Ext.cell hE c4_0
  replace c4_1 := Ext.cell hE c4_1
  clear hE
  go_simp
  refine hK _ _ ?_
  clear hK K' gd
  refine Wp.keep [1, 2, 4, 6] fun r4 hkeep => ?_
  obtain ⟨e1_4, e2_4, e4_4, e6_4, -⟩ := hkeep
  simp [go_sem, e1_2, e2_2, e4_2] at e1_4 e2_4 e4_4 e6_4
  clear e1_2 e2_2 e4_2
  refine Wp.seqRegion (.inl rfl) (by kernel_rfl) fun K' gd hK hg => ?_
  clear hg
  go_simp
  refine hK _ _ ?_
  clear hK K' gd
  refine Wp.keep [1, 2, 4, 6, 10] fun r5 hkeep => ?_
  obtain ⟨e1_5, e2_5, e4_5, e6_5, e10_5, -⟩ := hkeep
  simp [go_sem, e1_4, e2_4, e4_4, e6_4] at e1_5 e2_5 e4_5 e6_5 e10_5
  clear e1_4 e2_4 e4_4 e6_4
  refine Wp.condF (by go_simp) ?_
  refine Wp.skip ?_
  refine thenK_normal ?_
  refine Wp.seqRegion (.inl rfl) (by kernel_rfl) fun K' gd hK hg => ?_
  clear hg
  refine Wops.cut 3 fun K1 hK1 => ?_
  simp only [List.take_succ_cons, List.take_zero]
  go_simp
  refine Wcall (.inl rfl) (without_c _ _ s ids _ (hV.ext xw) (hI.ext xw) hgd hil hne) ?_
  rintro v w3 ⟨hS, hE⟩
  obtain ⟨P, p, Q, q, rfl, -, -⟩ := id hS
  go_simp
  refine hK1 _ _ ?_
  clear hK1 K1
  simp only [List.drop_succ_cons, List.drop_zero]
  have z6 := Below.size hE
  replace f2 := Ext.fz hE c2_0 f2
  replace f4 := Ext.fz hE c4_0 f4
  replace xw := Ext.trans xw hE
  replace c2_0 := Ext.cell hE c2_0
  replace c2_1 := Ext.cell hE c2_1
  replace c4_0 := Ext.cell hE c4_0
  replace c4_1 := Ext.cell hE c4_1
  clear hE
  refine Wops.cut 1 fun K1 hK1 => ?_
  simp only [List.take_succ_cons, List.take_zero]
  go_simp
  refine hK1 _ _ ?_
  clear hK1 K1
  simp only [List.drop_succ_cons, List.drop_zero]
  refine Wops.absS (b := n4) (i := 0) [_, _] (somes [cellVal c4_0, cellVal c4_1] (by simp) (by intro j v hj; match j, hj with | 0, hj => (simp at hj; subst hj; exact c4_0) | 1, hj => (simp at hj; subst hj; exact c4_1))) fun P3 hP3 => ?_
  have zP3 := hP3.same
  replace f2 := Put.frz hP3 f2
  replace f4 := Put.frz hP3 f4
  replace hS := hS.put hP3 (by omega)
  replace xw := Put.to xw hP3 (by omega)
  replace c2_0 := Put.cell hP3 c2_0 (by omega)
  replace c2_1 := Put.cell hP3 c2_1 (by omega)
  clear c4_0
  clear c4_1
  have c4_0 := hP3.new 0 _ rfl
  try simp only [Nat.reduceAdd, Nat.zero_add, Nat.add_zero] at c4_0
  have c4_1 := hP3.new 1 _ rfl
  try simp only [Nat.reduceAdd, Nat.zero_add, Nat.add_zero] at c4_1
  clear hP3
  go_simp
  refine hK _ _ ?_
  clear hK K' gd
  refine Wp.keep [4, 5] fun r7 hkeep => ?_
  obtain ⟨e4_7, e5_7, -⟩ := hkeep
  simp [go_sem, e1_5, e2_5, e4_5, e6_5, e10_5] at e4_7 e5_7
  clear e1_5 e2_5 e4_5 e6_5 e10_5
  refine Wp.ret ?_
  refine endK_cell_tmp (v := .agg #[cellVal c4_0, cellVal c4_1]) Try.results54 (by decide) (by decide) e4_7 (by dsimp only [cellVal]; go_simp) ?_
  rw [e5_7]
  dsimp only [cellVal]
  exact ⟨⟨_, rfl, hS.less (by omega)⟩, xw⟩
end Go.Proofs.Ytnjajbkkgfohaaa
namespace Go.Proofs.Ytnjajbkkgfohaaa

theorem onF_fil {i d : Int} {p : Alt → Bool} : ∀ {l : List Alt} {f : Face}, (∀ a ∈ l, p a = true → d < a.day ∨ ¬ (a.frm ≤ i ∧ i ≤ a.tu)) → onF i d (filN p l) f = onF i d l f
  | [], _, _ => rfl
  | a :: l, f, h => by
    have ih := fun g => onF_fil (i := i) (d := d) (p := p) (l := l) (f := g) fun b hb => h b (List.mem_cons_of_mem _ hb)
    have e : onF i d (a :: l) f = onF i d l (if a.day ≤ d then nxt i f a else f) := rfl
    by_cases hp : p a = true
    · have e2 : filN p (a :: l) = filN p l := by unfold filN; rw [List.filter_cons_of_neg (by rw [hp]; decide)]
      rw [e2, e, ih]
      congr 1
      by_cases hd : a.day ≤ d
      · rw [if_pos hd]
        rcases h a List.mem_cons_self hp with q | q
        · omega
        · unfold nxt; rw [if_neg q]
      · rw [if_neg hd]
    · have e2 : filN p (a :: l) = a :: filN p l := by unfold filN; rw [List.filter_cons_of_pos (by simpa using hp)]
      have e3 : onF i d (a :: filN p l) f = onF i d (filN p l) (if a.day ≤ d then nxt i f a else f) := rfl
      rw [e2, e3, e, ih]
theorem less_can {s : Sh} {ids : List Int} {i : Nat} {d w : Int} (h : ∀ a ∈ s.alts, a.id ∈ ids → d < a.day ∨ ¬ (a.frm ≤ (i : Int) ∧ (i : Int) ≤ a.tu)) : (lessS s ids).can i d w = s.can i d w := by
  have e : (lessS s ids).on i d = s.on i d := by
    show onF i d (filN _ s.alts) _ = onF i d s.alts _
    exact onF_fil fun a ha hp => h a ha (of_decide_eq_true hp)
  unfold Sh.can
  rw [e]
theorem less_copy {s : Sh} {c : Cp} (h : copyS s c = 0) (ids : List Int) : copyS (lessS s ids) c = 0 ∧ Good (lessS s ids) ∧ MdOk ((lessS s ids).md c) := by
  obtain ⟨hg0, hv0⟩ := copyS_zero.1 h
  have hg := (checkS_zero.1 hg0).less ids
  have hv : ValidC (lessS s ids) c := hv0
  exact ⟨copyS_zero.2 ⟨checkS_zero.2 hg, hv⟩, hg, hg.mdOk hv⟩
theorem fit_same {s t : Sh} (hs : SortA 0 s.alts) (ht : SortA 0 t.alts) {c : Cp} (hb : 0 ≤ c.b) (he : c.e ≤ 730) {ds : Nat → Int} (h : ∀ i, i < c.words.length → t.can i (ds i) (c.W i) = s.can i (ds i) (c.W i)) : (t.md c).Fit ds ↔ (s.md c).Fit ds := by
  rw [Sh.fit_iff hs hb he, Sh.fit_iff ht hb he]
  constructor
  · intro q i hi
    obtain ⟨q1, q2, q3, q4⟩ := q i hi
    exact ⟨q1, q2, (h i hi).symm.trans q3, q4⟩
  · intro q i hi
    obtain ⟨q1, q2, q3, q4⟩ := q i hi
    exact ⟨q1, q2, (h i hi).trans q3, q4⟩
/-- without a change that cannot have been before a copy the earliest days are the same -/
theorem less_first {s : Sh} {c : Cp} (h0 : begE s c = 0) {x : Alt} (hx : x ∈ s.alts) (hm : ¬ x.day ≤ gI (s.md c).last x.tu.toNat) :
    begE (lessS s [x.id]) c = 0 ∧ ((lessS s [x.id]).md c).first = (s.md c).first := by
  obtain ⟨hc, hok⟩ := begE_zero.1 h0
  obtain ⟨hg, hmk, hk, -, -, -, -⟩ := beg_know h0
  obtain ⟨hc2, hg2, hmk2⟩ := less_copy hc [x.id]
  obtain ⟨-, hv0⟩ := copyS_zero.1 hc
  obtain ⟨f1, -, f3, f4⟩ := hmk.of_ok hk
  obtain ⟨l1, l2, l3⟩ := hmk.last_fit hk
  have hcan : ∀ ds : Nat → Int, (∀ i, i < (s.md c).n → ds i ≤ gI (s.md c).last i) → ∀ i, i < c.words.length → (lessS s [x.id]).can i (ds i) (c.W i) = s.can i (ds i) (c.W i) := by
    intro ds hd i hi
    refine less_can fun a ha hin => ?_
    rw [List.mem_singleton] at hin
    have e := id_inj hg.ids a ha x hx hin
    subst e
    by_cases q : a.frm ≤ (i : Int) ∧ (i : Int) ≤ a.tu
    · left
      obtain ⟨t1, t2⟩ := (ends_of h0).tu a ha
      have q1 := hd i hi
      have q2 := (ends_of h0).lm i a.tu.toNat (by omega) t1
      omega
    · exact .inr q
  have hb : 0 ≤ c.b := hmk.b0
  have he : c.e ≤ 730 := hmk.e7
  have a1 : ((lessS s [x.id]).md c).Fit (gI (s.md c).first) := (fit_same hg.sorted hg2.sorted hb he (hcan _ fun i hi => l3 _ f3 i hi)).2 f3
  have hk2 := hmk2.ok_of a1
  obtain ⟨g1, -, g3, g4⟩ := hmk2.of_ok hk2
  have n2 : ((lessS s [x.id]).md c).n = (s.md c).n := rfl
  have a2 : (s.md c).Fit (gI ((lessS s [x.id]).md c).first) := (fit_same hg.sorted hg2.sorted hb he (hcan _ fun i hi => by have q1 := g4 _ a1 i (by rw [n2]; exact hi); have q2 := l3 _ f3 i hi; omega)).1 g3
  refine ⟨begE_zero.2 ⟨hc2, hk2⟩, list_gI (by rw [g1, f1, n2]) fun i hi => ?_⟩
  rw [g1, n2] at hi
  have q1 := g4 _ a1 i (by rw [n2]; exact hi)
  have q2 := f4 _ a2 i hi
  omega
/-- changes behind the copy's end do not matter -/
theorem less_late {s : Sh} {c : Cp} (h0 : begE s c = 0) {ids : List Int} (hl : ∀ a ∈ s.alts, a.id ∈ ids → c.e < a.day) :
    begE (lessS s ids) c = 0 ∧ ((lessS s ids).md c).first = (s.md c).first ∧ ((lessS s ids).md c).last = (s.md c).last := by
  obtain ⟨hc, hok⟩ := begE_zero.1 h0
  obtain ⟨hg, hmk, hk, -, -, -, -⟩ := beg_know h0
  obtain ⟨hc2, hg2, hmk2⟩ := less_copy hc ids
  obtain ⟨f1, -, f3, f4⟩ := hmk.of_ok hk
  obtain ⟨l1, l2, l3⟩ := hmk.last_fit hk
  have hb : 0 ≤ c.b := hmk.b0
  have he : c.e ≤ 730 := hmk.e7
  have n2 : ((lessS s ids).md c).n = (s.md c).n := rfl
  have hfit : ∀ ds : Nat → Int, (∀ i, i < c.words.length → ds i ≤ c.e) → (((lessS s ids).md c).Fit ds ↔ (s.md c).Fit ds) := fun ds hd =>
    fit_same hg.sorted hg2.sorted hb he fun i hi => less_can fun a ha hin => .inl (by have := hl a ha hin; have := hd i hi; omega)
  have a1 := (hfit _ (fun i hi => (f3 i hi).2.1)).2 f3
  have hk2 := hmk2.ok_of a1
  obtain ⟨g1, -, g3, g4⟩ := hmk2.of_ok hk2
  obtain ⟨k1, k2, k3⟩ := hmk2.last_fit hk2
  have a2 := (hfit _ (fun i hi => (g3 i hi).2.1)).1 g3
  have b1 := (hfit _ (fun i hi => (l2 i hi).2.1)).2 l2
  have b2 := (hfit _ (fun i hi => (k2 i hi).2.1)).1 k2
  refine ⟨begE_zero.2 ⟨hc2, hk2⟩, list_gI (by rw [g1, f1, n2]) fun i hi => ?_, list_gI (by rw [k1, l1, n2]) fun i hi => ?_⟩
  · rw [g1, n2] at hi
    have q1 := g4 _ a1 i (by rw [n2]; exact hi)
    have q2 := f4 _ a2 i hi
    omega
  · rw [k1, n2] at hi
    have q1 := k3 _ b1 i (by rw [n2]; exact hi)
    have q2 := l3 _ b2 i hi
    omega
/-- the changes behind a day -/
def lateL (e : Int) (l : List Alt) : List Int := (l.filter fun a => decide (e < a.day)).map Alt.id
theorem lateL_T {e : Int} {l : List Alt} {k : Nat} (h : k < l.length) (hp : e < l[k].day) : lateL e (l.take (k + 1)) = lateL e (l.take k) ++ [l[k].id] := by
  have e1 : [l[k]].filter (fun a => decide (e < a.day)) = [l[k]] := List.filter_cons_of_pos (p := fun a : Alt => decide (e < a.day)) (decide_eq_true hp)
  unfold lateL; rw [take_snoc h, List.filter_append, List.map_append, e1]; rfl
theorem lateL_F {e : Int} {l : List Alt} {k : Nat} (h : k < l.length) (hp : ¬ e < l[k].day) : lateL e (l.take (k + 1)) = lateL e (l.take k) := by
  have e1 : [l[k]].filter (fun a => decide (e < a.day)) = [] := List.filter_cons_of_neg (p := fun a : Alt => decide (e < a.day)) (by simpa using hp)
  unfold lateL; rw [take_snoc h, List.filter_append, List.map_append, e1]; simp
theorem lateL_len (e : Int) (l : List Alt) : (lateL e l).length ≤ l.length := by unfold lateL; rw [List.length_map]; exact List.length_filter_le ..
theorem lateL_day {s : Sh} (h : (s.alts.map Alt.id).Nodup) {e : Int} : ∀ a ∈ s.alts, a.id ∈ lateL e s.alts → e < a.day := fun a ha hin => by
  obtain ⟨b, hb, eb⟩ := List.mem_map.1 hin
  obtain ⟨hb1, hb2⟩ := List.mem_filter.1 hb
  have := id_inj h b hb1 a ha eb
  subst this
  exact of_decide_eq_true hb2
end Go.Proofs.Ytnjajbkkgfohaaa
namespace Go.Proofs.Ytnjajbkkgfohaaa
open Go.RowKit Go.Wk Go.Proofs
attribute [local irreducible] Go.Wk.Wops Go.Wk.Wp Go.Wk.Mtree Go.Wk.Mops
set_option maxHeartbeats 8000000
set_option maxRecDepth 20000

theorem hasT6 {x : Value} {xs : List Int} {d : Int} (h : d ∈ xs) (w : World) (hx : IntsV w w.heap.size x xs) (hl : xs.length ≤ 1000000000000000) :
    CallsV Try.prog 35 #[x, .int .i64 d] w fun v w' => v = .bool true ∧ Ext w w' :=
  (has_c x xs d w hx hl).mono fun v w' ⟨h1, h2⟩ => ⟨by rw [h1, decide_eq_true h], h2⟩
theorem hasF6 {x : Value} {xs : List Int} {d : Int} (h : ¬ d ∈ xs) (w : World) (hx : IntsV w w.heap.size x xs) (hl : xs.length ≤ 1000000000000000) :
    CallsV Try.prog 35 #[x, .int .i64 d] w fun v w' => v = .bool false ∧ Ext w w' :=
  (has_c x xs d w hx hl).mono fun v w' ⟨h1, h2⟩ => ⟨by rw [h1, decide_eq_false h], h2⟩
theorem mod_nat6 {a : Int} {n : Nat} (ha : 0 ≤ a) (hn : 0 < n) : ∃ s : Nat, a.tmod (n : Int) = (s : Int) ∧ s < n := by
  refine ⟨(a % n).toNat, ?_, ?_⟩
  · rw [Int.tmod_eq_emod_of_nonneg ha]
    have := Int.emod_nonneg a (show (n : Int) ≠ 0 by omega)
    omega
  · have := Int.emod_lt_of_pos a (show (0 : Int) < n by omega)
    have := Int.emod_nonneg a (show (n : Int) ≠ 0 by omega)
    omega
theorem First_b {v u : Value} {s : Sh} {c : Cp} {l : List Int} (h0 : begE s c = 0) (hl : (s.md c).first = l) (w : World) (hV : SheetV w w.heap.size v s) (hU : CopyV w w.heap.size u c) (hf : FitS s) (hg : FitC c) :
    CallsV Try.prog 39 #[v, u] w fun v w' => (∃ A n k, v = .tuple #[.slice A n k, .int .i64 0] ∧ IntsB w' w.heap.size (.slice A n k) l) ∧ Ext w w' :=
  (First_c v u s c w hV hU hf hg).mono fun v w' ⟨t, h1, h2, h3⟩ => by
    rw [h0] at h1; rw [if_pos h0, hl] at h2
    obtain ⟨A, k, rfl⟩ := h2.slice
    exact ⟨⟨A, _, k, h1, h2⟩, h3⟩
theorem Last_b {v u : Value} {s : Sh} {c : Cp} {l : List Int} (h0 : begE s c = 0) (hl : (s.md c).last = l) (w : World) (hV : SheetV w w.heap.size v s) (hU : CopyV w w.heap.size u c) (hf : FitS s) (hg : FitC c) :
    CallsV Try.prog 41 #[v, u] w fun v w' => (∃ A n k, v = .tuple #[.slice A n k, .int .i64 0] ∧ IntsB w' w.heap.size (.slice A n k) l) ∧ Ext w w' :=
  (Last_c v u s c w hV hU hf hg).mono fun v w' ⟨t, h1, h2, h3⟩ => by
    rw [h0] at h1; rw [if_pos h0, hl] at h2
    obtain ⟨A, k, rfl⟩ := h2.slice
    exact ⟨⟨A, _, k, h1, h2⟩, h3⟩
theorem unseen_c (v u : Value) (s : Sh) (c : Cp) (a : Int) (w : World) (hV : SheetV w w.heap.size v s) (hU : CopyV w w.heap.size u c) (ha : 0 ≤ a ∧ a ≤ 255) (hf : FitS s) (hg : FitC c) :
    CallsV Try.prog 14 #[v, u, .int .u8 a] w fun v w' => v = .bool true ∧ Ext w w' := by
  obtain ⟨wv, av, rfl, ⟨A, c1, rfl, -, -⟩, hAl⟩ := id hV
  obtain ⟨A3, c3, rfl, -, -⟩ := id hAl
  obtain ⟨wu, rfl, hW⟩ := id hU
  obtain ⟨A2, c2, rfl, -, -⟩ := id hW
  have hwa : IntKind.i64.wrap a = a := IntWalk.i64_in _ (by omega)
  refine Wp.fn Try.func14 rfl Try.ntmps14 (by simp) ?_
  have xw := Ext.refl w
  refine Wp.keep [0, 1, 2] fun r1 hkeep => ?_
  obtain ⟨e0_1, e1_1, e2_1, -⟩ := hkeep
  simp [go_sem] at e0_1 e1_1 e2_1
  refine Wp.seqRegion (.inl rfl) (by kernel_rfl) fun K' gd hK hg => ?_
  clear hg
  refine Wops.cut 1 fun K1 hK1 => ?_
  simp only [List.take_succ_cons, List.take_zero]
  go_simp
  refine hK1 _ _ ?_
  clear hK1 K1
  simp only [List.drop_succ_cons, List.drop_zero]
  refine Wops.absT fun V3_1 n3 hV3_1 R3 => ?_
  obtain ⟨q3, hV3_1, s3, kV3_1, f3, r3⟩ := hV3_1
  try simp only [q3] at kV3_1 f3 r3 ⊢
  replace R3 := (show RowC _ _ _ _ from R3)
  replace xw := Ext.trans xw hV3_1
  have c3_0 := kV3_1 0 _ rfl
  have c3_1 := kV3_1 1 _ rfl
  clear kV3_1 hV3_1
  clear r3
  refine Wops.cut 1 fun K1 hK1 => ?_
  simp only [List.take_succ_cons, List.take_zero]
  go_simp
  refine hK1 _ _ ?_
  clear hK1 K1
  simp only [List.drop_succ_cons, List.drop_zero]
  refine Wops.absT fun V4_2 n4 hV4_2 R4 => ?_
  obtain ⟨q4, hV4_2, s4, kV4_2, f4, r4⟩ := hV4_2
  try simp only [q4] at kV4_2 f4 r4 ⊢
  replace R4 := (show RowC _ _ _ _ from R4)
  replace f3 := Ext.fz hV4_2 c3_0 f3
  replace xw := Ext.trans xw hV4_2
  replace c3_0 := Ext.cell hV4_2 c3_0
  replace c3_1 := Ext.cell hV4_2 c3_1
  have c4_0 := kV4_2 0 _ rfl
  have c4_1 := kV4_2 1 _ rfl
  have c4_2 := kV4_2 2 _ rfl
  have c4_3 := kV4_2 3 _ rfl
  clear kV4_2 hV4_2
  clear r4
  go_simp
  refine hK _ _ ?_
  clear hK K' gd
  refine Wp.keep [2, 3, 4] fun r2 hkeep => ?_
  obtain ⟨e2_2, e3_2, e4_2, -⟩ := hkeep
  simp [go_sem, e0_1, e1_1, e2_1] at e2_2 e3_2 e4_2
  clear e0_1 e1_1 e2_1
  refine Wp.seqRegion (.inl rfl) (by kernel_rfl) fun K' gd hK hg => ?_
  clear hg
  refine Wops.cut 1 fun K1 hK1 => ?_
  simp only [List.take_succ_cons, List.take_zero]
  go_simp
  refine Wcall (.inl rfl) (head_c _) ?_
  rintro v w2 ⟨rfl, hE⟩
  go_simp
  refine hK1 _ _ ?_
  clear hK1 K1
  simp only [List.drop_succ_cons, List.drop_zero]
  have z3 := Below.size hE
  replace f3 := Ext.fz hE c3_0 f3
  replace f4 := Ext.fz hE c4_0 f4
  replace xw := Ext.trans xw hE
  replace c3_0 := Ext.cell hE c3_0
  replace c3_1 := Ext.cell hE c3_1
  replace c4_0 := Ext.cell hE c4_0
  replace c4_1 := Ext.cell hE c4_1
  replace c4_2 := Ext.cell hE c4_2
  replace c4_3 := Ext.cell hE c4_3
  clear hE
  go_simp
  refine hK _ _ ?_
  clear hK K' gd
  refine Wp.keep [2, 3, 4, 7] fun r4 hkeep => ?_
  obtain ⟨e2_4, e3_4, e4_4, e7_4, -⟩ := hkeep
  simp [go_sem, e2_2, e3_2, e4_2] at e2_4 e3_4 e4_4 e7_4
  clear e2_2 e3_2 e4_2
  by_cases hfw : fewS s
  · skip
    by_cases hbr : c.words.length ≤ 50
    · skip
      by_cases hz : s.alts.length = 0
      · skip
        replace hz : (s.alts.length : Int) = 0 := by omega
        refine Wp.seq ?_
        refine Wp.seqRegion (.inl rfl) (by kernel_rfl) fun K' gd hK hg => ?_
        have g3 : gd 3 = some 34 := hg 3
        have g8 : gd 8 = some 39 := hg 8
        clear hg
        refine Wops.cut 2 fun K1 hK1 => ?_
        simp only [List.take_succ_cons, List.take_zero]
        go_simp
        refine Wcall (.inl rfl) (few_c _ s _ (hV.ext xw)) ?_
        rintro v w3 ⟨rfl, hE⟩
        go_simp
        refine hK1 _ _ ?_
        clear hK1 K1
        simp only [List.drop_succ_cons, List.drop_zero]
        have z5 := Below.size hE
        replace f3 := Ext.fz hE c3_0 f3
        replace f4 := Ext.fz hE c4_0 f4
        replace xw := Ext.trans xw hE
        replace c3_0 := Ext.cell hE c3_0
        replace c3_1 := Ext.cell hE c3_1
        replace c4_0 := Ext.cell hE c4_0
        replace c4_1 := Ext.cell hE c4_1
        replace c4_2 := Ext.cell hE c4_2
        replace c4_3 := Ext.cell hE c4_3
        clear hE
        refine Wops.cut 4 fun K1 hK1 => ?_
        simp only [List.take_succ_cons, List.take_zero]
        go_simp
        refine Wcall (.inl rfl) (brief_c _ c _ (hU.ext xw)) ?_
        rintro v w4 ⟨rfl, hE⟩
        go_simp
        refine hK1 _ _ ?_
        clear hK1 K1
        simp only [List.drop_succ_cons, List.drop_zero]
        have z6 := Below.size hE
        replace f3 := Ext.fz hE c3_0 f3
        replace f4 := Ext.fz hE c4_0 f4
        replace xw := Ext.trans xw hE
        replace c3_0 := Ext.cell hE c3_0
        replace c3_1 := Ext.cell hE c3_1
        replace c4_0 := Ext.cell hE c4_0
        replace c4_1 := Ext.cell hE c4_1
        replace c4_2 := Ext.cell hE c4_2
        replace c4_3 := Ext.cell hE c4_3
        clear hE
        go_simp
        refine hK _ _ ?_
        clear hK K' gd g3 g8
        refine Wp.keep [2, 3, 4, 7, 44] fun r7 hkeep => ?_
        obtain ⟨e2_7, e3_7, e4_7, e7_7, e44_7, -⟩ := hkeep
        simp [go_sem, e2_4, e3_4, e4_4, e7_4] at e2_7 e3_7 e4_7 e7_7 e44_7
        clear e2_4 e3_4 e4_4 e7_4
        refine Wp.condT (by go_simp) ?_
        refine Wp.seqRegion (.inl rfl) (by kernel_rfl) fun K' gd hK hg => ?_
        clear hg
        go_simp
        refine hK _ _ ?_
        clear hK K' gd
        refine Wp.keep [6] fun r8 hkeep => ?_
        obtain ⟨e6_8, -⟩ := hkeep
        simp [go_sem, e2_7, e3_7, e4_7, e7_7, e44_7] at e6_8
        clear e2_7 e3_7 e4_7 e7_7 e44_7
        refine Wp.ret ?_
        refine thenK_ret ?_
        refine endK_tmp Try.results14 (by decide) ?_
        rw [e6_8]
        exact ⟨rfl, xw⟩
      · skip
        refine Wp.seq ?_
        refine Wp.seqRegion (.inl rfl) (by kernel_rfl) fun K' gd hK hg => ?_
        have g3 : gd 3 = some 34 := hg 3
        have g8 : gd 8 = some 39 := hg 8
        clear hg
        refine Wops.cut 2 fun K1 hK1 => ?_
        simp only [List.take_succ_cons, List.take_zero]
        go_simp
        refine Wcall (.inl rfl) (few_c _ s _ (hV.ext xw)) ?_
        rintro v w3 ⟨rfl, hE⟩
        go_simp
        refine hK1 _ _ ?_
        clear hK1 K1
        simp only [List.drop_succ_cons, List.drop_zero]
        have z9 := Below.size hE
        replace f3 := Ext.fz hE c3_0 f3
        replace f4 := Ext.fz hE c4_0 f4
        replace xw := Ext.trans xw hE
        replace c3_0 := Ext.cell hE c3_0
        replace c3_1 := Ext.cell hE c3_1
        replace c4_0 := Ext.cell hE c4_0
        replace c4_1 := Ext.cell hE c4_1
        replace c4_2 := Ext.cell hE c4_2
        replace c4_3 := Ext.cell hE c4_3
        clear hE
        refine Wops.cut 4 fun K1 hK1 => ?_
        simp only [List.take_succ_cons, List.take_zero]
        go_simp
        refine Wcall (.inl rfl) (brief_c _ c _ (hU.ext xw)) ?_
        rintro v w4 ⟨rfl, hE⟩
        go_simp
        refine hK1 _ _ ?_
        clear hK1 K1
        simp only [List.drop_succ_cons, List.drop_zero]
        have z10 := Below.size hE
        replace f3 := Ext.fz hE c3_0 f3
        replace f4 := Ext.fz hE c4_0 f4
        replace xw := Ext.trans xw hE
        replace c3_0 := Ext.cell hE c3_0
        replace c3_1 := Ext.cell hE c3_1
        replace c4_0 := Ext.cell hE c4_0
        replace c4_1 := Ext.cell hE c4_1
        replace c4_2 := Ext.cell hE c4_2
        replace c4_3 := Ext.cell hE c4_3
        clear hE
        go_simp
        refine hK _ _ ?_
        clear hK K' gd g3 g8
        refine Wp.keep [2, 3, 4, 7, 44] fun r11 hkeep => ?_
        obtain ⟨e2_11, e3_11, e4_11, e7_11, e44_11, -⟩ := hkeep
        simp [go_sem, e2_4, e3_4, e4_4, e7_4] at e2_11 e3_11 e4_11 e7_11 e44_11
        clear e2_4 e3_4 e4_4 e7_4
        refine Wp.condF (by go_simp) ?_
        refine Wp.skip ?_
        refine thenK_normal ?_
        refine Wp.seqRegion (.inl rfl) (by kernel_rfl) fun K' gd hK hg => ?_
        clear hg
        refine Wops.cut 3 fun K1 hK1 => ?_
        simp only [List.take_succ_cons, List.take_zero]
        go_simp
        refine Wcall (.inl rfl) (First_c _ _ s c _ (hV.ext xw) (hU.ext xw) hf hg) ?_
        rintro v w5 ⟨t8, rfl, hI, hE⟩
        go_simp
        refine hK1 _ _ ?_
        clear hK1 K1
        simp only [List.drop_succ_cons, List.drop_zero]
        have z12 := Below.size hE
        replace f3 := Ext.fz hE c3_0 f3
        replace f4 := Ext.fz hE c4_0 f4
        replace xw := Ext.trans xw hE
        replace c3_0 := Ext.cell hE c3_0
        replace c3_1 := Ext.cell hE c3_1
        replace c4_0 := Ext.cell hE c4_0
        replace c4_1 := Ext.cell hE c4_1
        replace c4_2 := Ext.cell hE c4_2
        replace c4_3 := Ext.cell hE c4_3
        clear hE
        go_simp
        refine hK _ _ ?_
        clear hK K' gd
        refine Wp.keep [2, 3, 4, 7, 8, 9] fun r13 hkeep => ?_
        obtain ⟨e2_13, e3_13, e4_13, e7_13, e8_13, e9_13, -⟩ := hkeep
        simp [go_sem, e2_11, e3_11, e4_11, e7_11, e44_11] at e2_13 e3_13 e4_13 e7_13 e8_13 e9_13
        clear e2_11 e3_11 e4_11 e7_11 e44_11
        refine Wp.seqRegion (.inl rfl) (by kernel_rfl) fun K' gd hK hg => ?_
        clear hg
        refine Wops.cut 3 fun K1 hK1 => ?_
        simp only [List.take_succ_cons, List.take_zero]
        go_simp
        refine Wcall (.inl rfl) (Last_c _ _ s c _ (hV.ext xw) (hU.ext xw) hf hg) ?_
        rintro v w6 ⟨t10, rfl, hJ, hE⟩
        go_simp
        refine hK1 _ _ ?_
        clear hK1 K1
        simp only [List.drop_succ_cons, List.drop_zero]
        have z14 := Below.size hE
        replace f3 := Ext.fz hE c3_0 f3
        replace f4 := Ext.fz hE c4_0 f4
        replace hI := hI.ext hE
        replace xw := Ext.trans xw hE
        replace c3_0 := Ext.cell hE c3_0
        replace c3_1 := Ext.cell hE c3_1
        replace c4_0 := Ext.cell hE c4_0
        replace c4_1 := Ext.cell hE c4_1
        replace c4_2 := Ext.cell hE c4_2
        replace c4_3 := Ext.cell hE c4_3
        clear hE
        go_simp
        refine hK _ _ ?_
        clear hK K' gd
        refine Wp.keep [2, 3, 4, 7, 8, 9, 10, 11] fun r15 hkeep => ?_
        obtain ⟨e2_15, e3_15, e4_15, e7_15, e8_15, e9_15, e10_15, e11_15, -⟩ := hkeep
        simp [go_sem, e2_13, e3_13, e4_13, e7_13, e8_13, e9_13] at e2_15 e3_15 e4_15 e7_15 e8_15 e9_15 e10_15 e11_15
        clear e2_13 e3_13 e4_13 e7_13 e8_13 e9_13
        refine Wp.seqRegion (.inl rfl) (by kernel_rfl) fun K' gd hK hg => ?_
        clear hg
        refine Wops.cut 3 fun K1 hK1 => ?_
        simp only [List.take_succ_cons, List.take_zero]
        go_simp
        refine Wcall (.inl rfl) (Seen_c _ _ s c _ (hV.ext xw) (hU.ext xw) hf hg (beg_alts hfw)) ?_
        rintro v w7 ⟨s1, s2, rfl, -, i2, hE⟩
        go_simp
        refine hK1 _ _ ?_
        clear hK1 K1
        simp only [List.drop_succ_cons, List.drop_zero]
        have z16 := Below.size hE
        replace f3 := Ext.fz hE c3_0 f3
        replace f4 := Ext.fz hE c4_0 f4
        replace hI := hI.ext hE
        replace hJ := hJ.ext hE
        replace xw := Ext.trans xw hE
        replace c3_0 := Ext.cell hE c3_0
        replace c3_1 := Ext.cell hE c3_1
        replace c4_0 := Ext.cell hE c4_0
        replace c4_1 := Ext.cell hE c4_1
        replace c4_2 := Ext.cell hE c4_2
        replace c4_3 := Ext.cell hE c4_3
        clear hE
        go_simp
        refine hK _ _ ?_
        clear hK K' gd
        refine Wp.keep [2, 3, 4, 7, 8, 9, 10, 11, 13, 14] fun r17 hkeep => ?_
        obtain ⟨e2_17, e3_17, e4_17, e7_17, e8_17, e9_17, e10_17, e11_17, e13_17, e14_17, -⟩ := hkeep
        simp [go_sem, e2_15, e3_15, e4_15, e7_15, e8_15, e9_15, e10_15, e11_15] at e2_17 e3_17 e4_17 e7_17 e8_17 e9_17 e10_17 e11_17 e13_17 e14_17
        clear e2_15 e3_15 e4_15 e7_15 e8_15 e9_15 e10_15 e11_15
        by_cases b0 : begE s c = 0
        · skip
          rw [if_pos b0] at hI hJ i2
          obtain ⟨hgd, hmk, hok, fl, ll, hn1, hn40⟩ := beg_know b0
          have hm40 := hgd.m2
          have hane : s.alts ≠ [] := by intro e; rw [e] at hz; exact hz rfl
          obtain ⟨j, hj, hjl⟩ := mod_nat6 (n := s.alts.length) ha.1 (by omega)
          have hwj : IntKind.i64.wrap (j : Int) = (j : Int) := IntWalk.i64_in _ (by omega)
          have hjl2 : (j : Int) < (s.alts.length : Int) := by omega
          obtain ⟨b, o, rfl, hb, y0, y1, y2, y3, y4, y5⟩ := AltsV.six hAl hjl
          replace y0 := xw.cell y0
          replace y1 := xw.cell y1
          replace y2 := xw.cell y2
          replace y3 := xw.cell y3
          replace y4 := xw.cell y4
          replace y5 := xw.cell y5
          have hxm := List.getElem_mem hjl
          have hfst : ∃ _u : Unit, ¬ s.alts[j].id ∈ idsS s (seenP (s.md c).last) → begE (lessS s [s.alts[j].id]) c = 0 ∧ ((lessS s [s.alts[j].id]).md c).first = (s.md c).first := ⟨(), fun q => less_first b0 hxm (fun q2 => q ((ids_mem hgd.ids hxm _).2 (decide_eq_true q2)))⟩
          have hlate : ∃ _u : Unit, begE (lessS s (lateL c.e s.alts)) c = 0 ∧ ((lessS s (lateL c.e s.alts)).md c).first = (s.md c).first ∧ ((lessS s (lateL c.e s.alts)).md c).last = (s.md c).last := ⟨(), less_late b0 (lateL_day hgd.ids)⟩
          have hlf : ∀ ids, FitS (lessS s ids) := fun ids => ⟨hf.1, Nat.le_trans (List.length_filter_le ..) hf.2⟩
          have hll9 := lateL_len c.e s.alts
          obtain ⟨F, hF⟩ : ∃ F, ∃ _u : Unit, (s.md c).first = F ∧ F.length ≤ 40 := ⟨_, (), rfl, by omega⟩
          obtain ⟨G, hG⟩ : ∃ G, ∃ _u : Unit, (s.md c).last = G ∧ G.length ≤ 40 := ⟨_, (), rfl, by omega⟩
          obtain ⟨l2, hl2⟩ : ∃ l, ∃ _u : Unit, idsS s (seenP (s.md c).last) = l ∧ l.length ≤ 1000000000000000 := ⟨_, (), rfl, Nat.le_trans ids_len hf.2⟩
          rw [hF.choose_spec.1] at hI
          rw [hG.choose_spec.1] at hJ
          rw [hl2.choose_spec.1] at i2
          clear fl ll
          obtain ⟨E8, r8, rfl⟩ := hI.slice
          obtain ⟨E9, r9, rfl⟩ := hJ.slice
          have xv := Ext.refl w7
          have hfst2 : ∃ _u : Unit, ¬ s.alts[j].id ∈ l2 → begE (lessS s [s.alts[j].id]) c = 0 ∧ ((lessS s [s.alts[j].id]).md c).first = F := ⟨(), fun q => by have := hfst.choose_spec (by rw [hl2.choose_spec.1]; exact q); rwa [hF.choose_spec.1] at this⟩
          have hlate2 : ∃ _u : Unit, begE (lessS s (lateL c.e s.alts)) c = 0 ∧ ((lessS s (lateL c.e s.alts)).md c).first = F ∧ ((lessS s (lateL c.e s.alts)).md c).last = G := ⟨(), by have := hlate.choose_spec; rwa [hF.choose_spec.1, hG.choose_spec.1] at this⟩
          clear hfst hlate
          refine Wp.seq ?_
          refine Wp.seqRegion (.inl rfl) (by kernel_rfl) fun K' gd hK hg => ?_
          have g2 : gd 2 = some 67 := hg 2
          have g6 : gd 6 = some 71 := hg 6
          clear hg
          go_simp
          refine hK _ _ ?_
          clear hK K' gd g2 g6
          refine Wp.keep [2, 3, 4, 7, 8, 9, 10, 11, 13, 14, 74] fun r18 hkeep => ?_
          obtain ⟨e2_18, e3_18, e4_18, e7_18, e8_18, e9_18, e10_18, e11_18, e13_18, e14_18, e74_18, -⟩ := hkeep
          simp [go_sem, e2_17, e3_17, e4_17, e7_17, e8_17, e9_17, e10_17, e11_17, e13_17, e14_17] at e2_18 e3_18 e4_18 e7_18 e8_18 e9_18 e10_18 e11_18 e13_18 e14_18 e74_18
          clear e2_17 e3_17 e4_17 e7_17 e8_17 e9_17 e10_17 e11_17 e13_17 e14_17
          refine Wp.condF (by go_simp) ?_
          refine Wp.skip ?_
          refine thenK_normal ?_
          refine Wp.seqDraw (.inl rfl) mixed [([0, 1, 2, 3, 4], none), ([5, 6, 7, 8, 9], some (10, false)), ([], some (11, true))] (by kernel_rfl) fun K' gd hK hg => ?_
          clear hg
          simp only [pick, nth, List.map_cons, List.map_nil, Option.map_none, Option.map_some]
          refine Mops.absD fun D4 hD4 zD4 => ?_
          replace f3 := Ext.fz hD4 c3_0 f3
          replace f4 := Ext.fz hD4 c4_0 f4
          replace xw := Ext.trans xw hD4
          replace xv := Ext.trans xv hD4
          replace c3_0 := Ext.cell hD4 c3_0
          replace c3_1 := Ext.cell hD4 c3_1
          replace c4_0 := Ext.cell hD4 c4_0
          replace c4_1 := Ext.cell hD4 c4_1
          replace c4_2 := Ext.cell hD4 c4_2
          replace c4_3 := Ext.cell hD4 c4_3
          replace y0 := Ext.cell hD4 y0
          replace y1 := Ext.cell hD4 y1
          replace y2 := Ext.cell hD4 y2
          replace y3 := Ext.cell hD4 y3
          replace y4 := Ext.cell hD4 y4
          replace y5 := Ext.cell hD4 y5
          clear hD4
          apply Mops.none
          · intro w' hE'
            have hC' := hE'.cellsS
            go_simp
            with_reducible rfl
          apply Mops.act
          · intro w' hE'
            have hC' := hE'.cellsS
            go_simp
            with_reducible rfl
          intro K1 hK1
          go_simp
          refine hK1 _ _ (XA) ?_
          clear hK1 K1
          refine Mops.absT fun V15_5 n15 hV15_5 R15 => ?_
          obtain ⟨q15, hV15_5, s15, kV15_5, f15, r15⟩ := hV15_5
          try simp only [q15] at kV15_5 f15 r15 ⊢
          replace R15 := (show RowC _ _ _ _ from R15)
          replace f3 := Ext.fz hV15_5 c3_0 f3
          replace f4 := Ext.fz hV15_5 c4_0 f4
          replace xw := Ext.trans xw hV15_5
          replace xv := Ext.trans xv hV15_5
          replace c3_0 := Ext.cell hV15_5 c3_0
          replace c3_1 := Ext.cell hV15_5 c3_1
          replace c4_0 := Ext.cell hV15_5 c4_0
          replace c4_1 := Ext.cell hV15_5 c4_1
          replace c4_2 := Ext.cell hV15_5 c4_2
          replace c4_3 := Ext.cell hV15_5 c4_3
          replace y0 := Ext.cell hV15_5 y0
          replace y1 := Ext.cell hV15_5 y1
          replace y2 := Ext.cell hV15_5 y2
          replace y3 := Ext.cell hV15_5 y3
          replace y4 := Ext.cell hV15_5 y4
          replace y5 := Ext.cell hV15_5 y5
          have c15_0 := kV15_5 0 _ rfl
          have c15_1 := kV15_5 1 _ rfl
          have c15_2 := kV15_5 2 _ rfl
          have c15_3 := kV15_5 3 _ rfl
          have c15_4 := kV15_5 4 _ rfl
          have c15_5 := kV15_5 5 _ rfl
          clear kV15_5 hV15_5
          clear r15
          apply Mops.last
          · exact fun _ _ => Rops_done
          intro K1 hK1
          go_simp
          refine hK1 _ _ ?_
          clear hK1 K1
          refine Mops.absS (b := n15) (i := 0) [_, _, _, _, _, _] (somes [cellVal c15_0, cellVal c15_1, cellVal c15_2, cellVal c15_3, cellVal c15_4, cellVal c15_5] (by simp) (by intro j v hj; match j, hj with | 0, hj => (simp at hj; subst hj; exact c15_0) | 1, hj => (simp at hj; subst hj; exact c15_1) | 2, hj => (simp at hj; subst hj; exact c15_2) | 3, hj => (simp at hj; subst hj; exact c15_3) | 4, hj => (simp at hj; subst hj; exact c15_4) | 5, hj => (simp at hj; subst hj; exact c15_5))) fun P6 hP6 => ?_
          have zP6 := hP6.same
          replace f3 := Put.frz hP6 f3
          replace f4 := Put.frz hP6 f4
          replace f15 := Put.frz hP6 f15
          replace xw := Put.to xw hP6 (by omega)
          replace xv := Put.to xv hP6 (by omega)
          replace c3_0 := Put.cell hP6 c3_0 (by omega)
          replace c3_1 := Put.cell hP6 c3_1 (by omega)
          replace c4_0 := Put.cell hP6 c4_0 (by omega)
          replace c4_1 := Put.cell hP6 c4_1 (by omega)
          replace c4_2 := Put.cell hP6 c4_2 (by omega)
          replace c4_3 := Put.cell hP6 c4_3 (by omega)
          replace y0 := Put.cell hP6 y0 (by omega)
          replace y1 := Put.cell hP6 y1 (by omega)
          replace y2 := Put.cell hP6 y2 (by omega)
          replace y3 := Put.cell hP6 y3 (by omega)
          replace y4 := Put.cell hP6 y4 (by omega)
          replace y5 := Put.cell hP6 y5 (by omega)
          clear c15_0
          clear c15_1
          clear c15_2
          clear c15_3
          clear c15_4
          clear c15_5
          have c15_0 := hP6.new 0 _ rfl
          try simp only [Nat.reduceAdd, Nat.zero_add, Nat.add_zero] at c15_0
          have c15_1 := hP6.new 1 _ rfl
          try simp only [Nat.reduceAdd, Nat.zero_add, Nat.add_zero] at c15_1
          have c15_2 := hP6.new 2 _ rfl
          try simp only [Nat.reduceAdd, Nat.zero_add, Nat.add_zero] at c15_2
          have c15_3 := hP6.new 3 _ rfl
          try simp only [Nat.reduceAdd, Nat.zero_add, Nat.add_zero] at c15_3
          have c15_4 := hP6.new 4 _ rfl
          try simp only [Nat.reduceAdd, Nat.zero_add, Nat.add_zero] at c15_4
          have c15_5 := hP6.new 5 _ rfl
          try simp only [Nat.reduceAdd, Nat.zero_add, Nat.add_zero] at c15_5
          clear hP6
          refine Mops.done ?_
          refine hK _ _ ?_
          clear hK K' gd
          refine Wp.keep [3, 4, 7, 8, 10, 13, 15] fun r19 hkeep => ?_
          obtain ⟨e3_19, e4_19, e7_19, e8_19, e10_19, e13_19, e15_19, -⟩ := hkeep
          simp [go_sem, e2_18, e3_18, e4_18, e7_18, e8_18, e9_18, e10_18, e11_18, e13_18, e14_18, e74_18] at e3_19 e4_19 e7_19 e8_19 e10_19 e13_19 e15_19
          clear e2_18 e3_18 e4_18 e7_18 e8_18 e9_18 e10_18 e11_18 e13_18 e14_18 e74_18
          refine Wp.seq ?_
          refine Wp.cut (fun ρ ds W => AllEq [3, 4, 7, 8, 10] ρ r19 ∧ ds = [] ∧ (Ext P6 W) ∧ (True)) ?_ ?_
          · have xq7 := Ext.refl P6
            by_cases hm : s.alts[j].id ∈ l2
            · skip
              refine Wp.seqRegion (.inl rfl) (by kernel_rfl) fun K' gd hK hg => ?_
              clear hg
              refine Wops.cut 4 fun K1 hK1 => ?_
              simp only [List.take_succ_cons, List.take_zero]
              go_simp
              refine Wcall (.inl rfl) (hasT6 hm _ (i2.ext xv).ints hl2.choose_spec.2) ?_
              rintro v w8 ⟨rfl, hE⟩
              go_simp
              refine hK1 _ _ ?_
              clear hK1 K1
              simp only [List.drop_succ_cons, List.drop_zero]
              have z20 := Below.size hE
              replace f3 := Ext.fz hE c3_0 f3
              replace f4 := Ext.fz hE c4_0 f4
              replace f15 := Ext.fz hE c15_0 f15
              replace xw := Ext.trans xw hE
              replace xv := Ext.trans xv hE
              replace xq7 := Ext.trans xq7 hE
              replace c3_0 := Ext.cell hE c3_0
              replace c3_1 := Ext.cell hE c3_1
              replace c4_0 := Ext.cell hE c4_0
              replace c4_1 := Ext.cell hE c4_1
              replace c4_2 := Ext.cell hE c4_2
              replace c4_3 := Ext.cell hE c4_3
              replace y0 := Ext.cell hE y0
              replace y1 := Ext.cell hE y1
              replace y2 := Ext.cell hE y2
              replace y3 := Ext.cell hE y3
              replace y4 := Ext.cell hE y4
              replace y5 := Ext.cell hE y5
              replace c15_0 := Ext.cell hE c15_0
              replace c15_1 := Ext.cell hE c15_1
              replace c15_2 := Ext.cell hE c15_2
              replace c15_3 := Ext.cell hE c15_3
              replace c15_4 := Ext.cell hE c15_4
              replace c15_5 := Ext.cell hE c15_5
              clear hE
              go_simp
              refine hK _ _ ?_
              clear hK K' gd
              refine Wp.keep [3, 4, 7, 8, 10, 15, 100] fun r21 hkeep => ?_
              obtain ⟨e3_21, e4_21, e7_21, e8_21, e10_21, e15_21, e100_21, -⟩ := hkeep
              simp [go_sem, e3_19, e4_19, e7_19, e8_19, e10_19, e13_19, e15_19] at e3_21 e4_21 e7_21 e8_21 e10_21 e15_21 e100_21
              clear e13_19 e15_19
              refine Wp.condF (by go_simp) ?_
              refine Wp.skip ?_
              refine cutK_normal ⟨⟨by rw [e3_21, e3_19], by rw [e4_21, e4_19], by rw [e7_21, e7_19], by rw [e8_21, e8_19], by rw [e10_21, e10_19], trivial⟩, rfl, xq7, ?_⟩
              trivial
            · skip
              refine Wp.seqRegion (.inl rfl) (by kernel_rfl) fun K' gd hK hg => ?_
              clear hg
              refine Wops.cut 4 fun K1 hK1 => ?_
              simp only [List.take_succ_cons, List.take_zero]
              go_simp
              refine Wcall (.inl rfl) (hasF6 hm _ (i2.ext xv).ints hl2.choose_spec.2) ?_
              rintro v w8 ⟨rfl, hE⟩
              go_simp
              refine hK1 _ _ ?_
              clear hK1 K1
              simp only [List.drop_succ_cons, List.drop_zero]
              have z22 := Below.size hE
              replace f3 := Ext.fz hE c3_0 f3
              replace f4 := Ext.fz hE c4_0 f4
              replace f15 := Ext.fz hE c15_0 f15
              replace xw := Ext.trans xw hE
              replace xv := Ext.trans xv hE
              replace xq7 := Ext.trans xq7 hE
              replace c3_0 := Ext.cell hE c3_0
              replace c3_1 := Ext.cell hE c3_1
              replace c4_0 := Ext.cell hE c4_0
              replace c4_1 := Ext.cell hE c4_1
              replace c4_2 := Ext.cell hE c4_2
              replace c4_3 := Ext.cell hE c4_3
              replace y0 := Ext.cell hE y0
              replace y1 := Ext.cell hE y1
              replace y2 := Ext.cell hE y2
              replace y3 := Ext.cell hE y3
              replace y4 := Ext.cell hE y4
              replace y5 := Ext.cell hE y5
              replace c15_0 := Ext.cell hE c15_0
              replace c15_1 := Ext.cell hE c15_1
              replace c15_2 := Ext.cell hE c15_2
              replace c15_3 := Ext.cell hE c15_3
              replace c15_4 := Ext.cell hE c15_4
              replace c15_5 := Ext.cell hE c15_5
              clear hE
              go_simp
              refine hK _ _ ?_
              clear hK K' gd
              refine Wp.keep [3, 4, 7, 8, 10, 15, 100] fun r23 hkeep => ?_
              obtain ⟨e3_23, e4_23, e7_23, e8_23, e10_23, e15_23, e100_23, -⟩ := hkeep
              simp [go_sem, e3_19, e4_19, e7_19, e8_19, e10_19, e13_19, e15_19] at e3_23 e4_23 e7_23 e8_23 e10_23 e15_23 e100_23
              clear e13_19 e15_19
              refine Wp.condT (by go_simp) ?_
              obtain ⟨e1, e2⟩ := hfst2.choose_spec hm
              refine Wp.seqRegion (.inl rfl) (by kernel_rfl) fun K' gd hK hg => ?_
              clear hg
              refine Wops.cut 4 fun K1 hK1 => ?_
              simp only [List.take_succ_cons, List.take_zero]
              go_simp
              refine hK1 _ _ ?_
              clear hK1 K1
              simp only [List.drop_succ_cons, List.drop_zero]
              refine Wops.absT fun V105_8 n105 hV105_8 R105 => ?_
              obtain ⟨q105, hV105_8, s105, kV105_8, f105, r105⟩ := hV105_8
              try simp only [q105] at kV105_8 f105 r105 ⊢
              replace R105 := (show RowC _ _ _ _ from R105)
              replace f3 := Ext.fz hV105_8 c3_0 f3
              replace f4 := Ext.fz hV105_8 c4_0 f4
              replace f15 := Ext.fz hV105_8 c15_0 f15
              replace xw := Ext.trans xw hV105_8
              replace xv := Ext.trans xv hV105_8
              replace xq7 := Ext.trans xq7 hV105_8
              replace c3_0 := Ext.cell hV105_8 c3_0
              replace c3_1 := Ext.cell hV105_8 c3_1
              replace c4_0 := Ext.cell hV105_8 c4_0
              replace c4_1 := Ext.cell hV105_8 c4_1
              replace c4_2 := Ext.cell hV105_8 c4_2
              replace c4_3 := Ext.cell hV105_8 c4_3
              replace y0 := Ext.cell hV105_8 y0
              replace y1 := Ext.cell hV105_8 y1
              replace y2 := Ext.cell hV105_8 y2
              replace y3 := Ext.cell hV105_8 y3
              replace y4 := Ext.cell hV105_8 y4
              replace y5 := Ext.cell hV105_8 y5
              replace c15_0 := Ext.cell hV105_8 c15_0
              replace c15_1 := Ext.cell hV105_8 c15_1
              replace c15_2 := Ext.cell hV105_8 c15_2
              replace c15_3 := Ext.cell hV105_8 c15_3
              replace c15_4 := Ext.cell hV105_8 c15_4
              replace c15_5 := Ext.cell hV105_8 c15_5
              clear hV105_8 f105
              have c105_0 := kV105_8 0 _ rfl
              clear kV105_8
              refine Wops.cut 1 fun K1 hK1 => ?_
              simp only [List.take_succ_cons, List.take_zero]
              go_simp
              refine Wcall (.inl rfl) (Without_c _ _ s [s.alts[j].id] _ (hV.ext xw) (rowC_ints R105 rfl rfl) hf hgd (by simp) hane) ?_
              rintro v w9 ⟨⟨t16, rfl, hS⟩, hE⟩
              obtain ⟨P, p, Q, q, rfl, -, -⟩ := id hS
              go_simp
              refine hK1 _ _ ?_
              clear hK1 K1
              simp only [List.drop_succ_cons, List.drop_zero]
              have z24 := Below.size hE
              replace f3 := Ext.fz hE c3_0 f3
              replace f4 := Ext.fz hE c4_0 f4
              replace f15 := Ext.fz hE c15_0 f15
              replace R105 := R105.ext hE
              replace xw := Ext.trans xw hE
              replace xv := Ext.trans xv hE
              replace xq7 := Ext.trans xq7 hE
              replace c3_0 := Ext.cell hE c3_0
              replace c3_1 := Ext.cell hE c3_1
              replace c4_0 := Ext.cell hE c4_0
              replace c4_1 := Ext.cell hE c4_1
              replace c4_2 := Ext.cell hE c4_2
              replace c4_3 := Ext.cell hE c4_3
              replace y0 := Ext.cell hE y0
              replace y1 := Ext.cell hE y1
              replace y2 := Ext.cell hE y2
              replace y3 := Ext.cell hE y3
              replace y4 := Ext.cell hE y4
              replace y5 := Ext.cell hE y5
              replace c15_0 := Ext.cell hE c15_0
              replace c15_1 := Ext.cell hE c15_1
              replace c15_2 := Ext.cell hE c15_2
              replace c15_3 := Ext.cell hE c15_3
              replace c15_4 := Ext.cell hE c15_4
              replace c15_5 := Ext.cell hE c15_5
              replace c105_0 := Ext.cell hE c105_0
              clear hE
              refine Wops.cut 5 fun K1 hK1 => ?_
              simp only [List.take_succ_cons, List.take_zero]
              go_simp
              refine hK1 _ _ ?_
              clear hK1 K1
              simp only [List.drop_succ_cons, List.drop_zero]
              refine Wops.absT fun V16_9 n16 hV16_9 R16 => ?_
              obtain ⟨q16, hV16_9, s16, kV16_9, f16, r16⟩ := hV16_9
              try simp only [q16] at kV16_9 f16 r16 ⊢
              replace R16 := (show RowC _ _ _ _ from R16)
              replace f3 := Ext.fz hV16_9 c3_0 f3
              replace f4 := Ext.fz hV16_9 c4_0 f4
              replace f15 := Ext.fz hV16_9 c15_0 f15
              replace R105 := R105.ext hV16_9
              replace hS := hS.ext hV16_9
              replace xw := Ext.trans xw hV16_9
              replace xv := Ext.trans xv hV16_9
              replace xq7 := Ext.trans xq7 hV16_9
              replace c3_0 := Ext.cell hV16_9 c3_0
              replace c3_1 := Ext.cell hV16_9 c3_1
              replace c4_0 := Ext.cell hV16_9 c4_0
              replace c4_1 := Ext.cell hV16_9 c4_1
              replace c4_2 := Ext.cell hV16_9 c4_2
              replace c4_3 := Ext.cell hV16_9 c4_3
              replace y0 := Ext.cell hV16_9 y0
              replace y1 := Ext.cell hV16_9 y1
              replace y2 := Ext.cell hV16_9 y2
              replace y3 := Ext.cell hV16_9 y3
              replace y4 := Ext.cell hV16_9 y4
              replace y5 := Ext.cell hV16_9 y5
              replace c15_0 := Ext.cell hV16_9 c15_0
              replace c15_1 := Ext.cell hV16_9 c15_1
              replace c15_2 := Ext.cell hV16_9 c15_2
              replace c15_3 := Ext.cell hV16_9 c15_3
              replace c15_4 := Ext.cell hV16_9 c15_4
              replace c15_5 := Ext.cell hV16_9 c15_5
              replace c105_0 := Ext.cell hV16_9 c105_0
              have c16_0 := kV16_9 0 _ rfl
              have c16_1 := kV16_9 1 _ rfl
              clear kV16_9 hV16_9
              clear r16
              go_simp
              refine hK _ _ ?_
              clear hK K' gd
              refine Wp.keep [3, 4, 7, 8, 10, 16, 17] fun r25 hkeep => ?_
              obtain ⟨e3_25, e4_25, e7_25, e8_25, e10_25, e16_25, e17_25, -⟩ := hkeep
              simp [go_sem, e3_23, e4_23, e7_23, e8_23, e10_23, e15_23, e100_23] at e3_25 e4_25 e7_25 e8_25 e10_25 e16_25 e17_25
              clear e3_23 e4_23 e7_23 e8_23 e10_23 e15_23 e100_23
              refine Wp.seqRegion (.inl rfl) (by kernel_rfl) fun K' gd hK hg => ?_
              clear hg
              refine Wops.cut 3 fun K1 hK1 => ?_
              simp only [List.take_succ_cons, List.take_zero]
              go_simp
              refine Wcall (.inl rfl) (First_b e1 e2 _ hS.sheet (hU.ext xw) (hlf _) hg) ?_
              rintro v w10 ⟨⟨E7, m7, r7, rfl, hI2⟩, hE⟩
              go_simp
              refine hK1 _ _ ?_
              clear hK1 K1
              simp only [List.drop_succ_cons, List.drop_zero]
              have z26 := Below.size hE
              replace f3 := Ext.fz hE c3_0 f3
              replace f4 := Ext.fz hE c4_0 f4
              replace f15 := Ext.fz hE c15_0 f15
              replace f16 := Ext.fz hE c16_0 f16
              replace R105 := R105.ext hE
              replace hS := hS.ext hE
              replace xw := Ext.trans xw hE
              replace xv := Ext.trans xv hE
              replace xq7 := Ext.trans xq7 hE
              replace c3_0 := Ext.cell hE c3_0
              replace c3_1 := Ext.cell hE c3_1
              replace c4_0 := Ext.cell hE c4_0
              replace c4_1 := Ext.cell hE c4_1
              replace c4_2 := Ext.cell hE c4_2
              replace c4_3 := Ext.cell hE c4_3
              replace y0 := Ext.cell hE y0
              replace y1 := Ext.cell hE y1
              replace y2 := Ext.cell hE y2
              replace y3 := Ext.cell hE y3
              replace y4 := Ext.cell hE y4
              replace y5 := Ext.cell hE y5
              replace c15_0 := Ext.cell hE c15_0
              replace c15_1 := Ext.cell hE c15_1
              replace c15_2 := Ext.cell hE c15_2
              replace c15_3 := Ext.cell hE c15_3
              replace c15_4 := Ext.cell hE c15_4
              replace c15_5 := Ext.cell hE c15_5
              replace c105_0 := Ext.cell hE c105_0
              replace c16_0 := Ext.cell hE c16_0
              replace c16_1 := Ext.cell hE c16_1
              clear hE
              go_simp
              refine hK _ _ ?_
              clear hK K' gd
              refine Wp.keep [3, 4, 7, 8, 10, 17, 18, 19] fun r27 hkeep => ?_
              obtain ⟨e3_27, e4_27, e7_27, e8_27, e10_27, e17_27, e18_27, e19_27, -⟩ := hkeep
              simp [go_sem, e3_25, e4_25, e7_25, e8_25, e10_25, e16_25, e17_25] at e3_27 e4_27 e7_27 e8_27 e10_27 e17_27 e18_27 e19_27
              clear e3_25 e4_25 e7_25 e8_25 e10_25 e16_25 e17_25
              refine Wp.seqRegion (.inl rfl) (by kernel_rfl) fun K' gd hK hg => ?_
              clear hg
              refine Wops.cut 3 fun K1 hK1 => ?_
              simp only [List.take_succ_cons, List.take_zero]
              go_simp
              refine Wcall (.inl rfl) (sameI_T rfl _ hI2.ints (hI.ext xv).ints (by have := hF.choose_spec.2; omega)) ?_
              rintro v w11 ⟨rfl, hE⟩
              go_simp
              refine hK1 _ _ ?_
              clear hK1 K1
              simp only [List.drop_succ_cons, List.drop_zero]
              have z28 := Below.size hE
              replace f3 := Ext.fz hE c3_0 f3
              replace f4 := Ext.fz hE c4_0 f4
              replace f15 := Ext.fz hE c15_0 f15
              replace f16 := Ext.fz hE c16_0 f16
              replace R105 := R105.ext hE
              replace hS := hS.ext hE
              replace hI2 := hI2.ext hE
              replace xw := Ext.trans xw hE
              replace xv := Ext.trans xv hE
              replace xq7 := Ext.trans xq7 hE
              replace c3_0 := Ext.cell hE c3_0
              replace c3_1 := Ext.cell hE c3_1
              replace c4_0 := Ext.cell hE c4_0
              replace c4_1 := Ext.cell hE c4_1
              replace c4_2 := Ext.cell hE c4_2
              replace c4_3 := Ext.cell hE c4_3
              replace y0 := Ext.cell hE y0
              replace y1 := Ext.cell hE y1
              replace y2 := Ext.cell hE y2
              replace y3 := Ext.cell hE y3
              replace y4 := Ext.cell hE y4
              replace y5 := Ext.cell hE y5
              replace c15_0 := Ext.cell hE c15_0
              replace c15_1 := Ext.cell hE c15_1
              replace c15_2 := Ext.cell hE c15_2
              replace c15_3 := Ext.cell hE c15_3
              replace c15_4 := Ext.cell hE c15_4
              replace c15_5 := Ext.cell hE c15_5
              replace c105_0 := Ext.cell hE c105_0
              replace c16_0 := Ext.cell hE c16_0
              replace c16_1 := Ext.cell hE c16_1
              clear hE
              go_simp
              refine hK _ _ ?_
              clear hK K' gd
              refine Wp.keep [3, 4, 7, 8, 10, 17, 19, 20] fun r29 hkeep => ?_
              obtain ⟨e3_29, e4_29, e7_29, e8_29, e10_29, e17_29, e19_29, e20_29, -⟩ := hkeep
              simp [go_sem, e3_27, e4_27, e7_27, e8_27, e10_27, e17_27, e18_27, e19_27] at e3_29 e4_29 e7_29 e8_29 e10_29 e17_29 e19_29 e20_29
              clear e3_27 e4_27 e7_27 e8_27 e10_27 e17_27 e18_27 e19_27
              refine Wp.seqRegion (.inl rfl) (by kernel_rfl) fun K' gd hK hg => ?_
              have g2 : gd 2 = some 120 := hg 2
              have g6 : gd 6 = some 124 := hg 6
              clear hg
              go_simp
              refine hK _ _ ?_
              clear hK K' gd g2 g6
              refine Wp.keep [3, 4, 7, 8, 10, 127] fun r30 hkeep => ?_
              obtain ⟨e3_30, e4_30, e7_30, e8_30, e10_30, e127_30, -⟩ := hkeep
              simp [go_sem, e3_29, e4_29, e7_29, e8_29, e10_29, e17_29, e19_29, e20_29] at e3_30 e4_30 e7_30 e8_30 e10_30 e127_30
              clear e3_29 e4_29 e7_29 e8_29 e10_29 e17_29 e19_29 e20_29
              refine Wp.condF (by go_simp) ?_
              refine Wp.skip ?_
              refine cutK_normal ⟨⟨by rw [e3_30, e3_19], by rw [e4_30, e4_19], by rw [e7_30, e7_19], by rw [e8_30, e8_19], by rw [e10_30, e10_19], trivial⟩, rfl, xq7, ?_⟩
              trivial
          · rintro r31 _ W7 ⟨hA, rfl, xq7, -⟩
            obtain ⟨e3_31, e4_31, e7_31, e8_31, e10_31, -⟩ := hA
            rw [e3_19] at e3_31
            rw [e4_19] at e4_31
            rw [e7_19] at e7_31
            rw [e8_19] at e8_31
            rw [e10_19] at e10_31
            clear e3_19 e4_19 e7_19 e8_19 e10_19 e13_19 e15_19
            have zxq7 := Below.size xq7
            replace f3 := Ext.fz xq7 c3_0 f3
            replace f4 := Ext.fz xq7 c4_0 f4
            replace f15 := Ext.fz xq7 c15_0 f15
            replace xw := Ext.trans xw xq7
            replace xv := Ext.trans xv xq7
            replace c3_0 := Ext.cell xq7 c3_0
            replace c3_1 := Ext.cell xq7 c3_1
            replace c4_0 := Ext.cell xq7 c4_0
            replace c4_1 := Ext.cell xq7 c4_1
            replace c4_2 := Ext.cell xq7 c4_2
            replace c4_3 := Ext.cell xq7 c4_3
            replace y0 := Ext.cell xq7 y0
            replace y1 := Ext.cell xq7 y1
            replace y2 := Ext.cell xq7 y2
            replace y3 := Ext.cell xq7 y3
            replace y4 := Ext.cell xq7 y4
            replace y5 := Ext.cell xq7 y5
            replace c15_0 := Ext.cell xq7 c15_0
            replace c15_1 := Ext.cell xq7 c15_1
            replace c15_2 := Ext.cell xq7 c15_2
            replace c15_3 := Ext.cell xq7 c15_3
            replace c15_4 := Ext.cell xq7 c15_4
            replace c15_5 := Ext.cell xq7 c15_5
            refine thenK_normal ?_
            obtain ⟨B0, hB0⟩ : ∃ B0 : Nat, B0 = W7.heap.size := ⟨_, rfl⟩
            refine Wp.seqRegion (.inl rfl) (by kernel_rfl) fun K' gd hK hg => ?_
            clear hg
            go_simp
            refine hK _ _ ?_
            clear hK K' gd
            refine Wp.keep [3, 4, 7, 8, 10, 21] fun r32 hkeep => ?_
            obtain ⟨e3_32, e4_32, e7_32, e8_32, e10_32, e21_32, -⟩ := hkeep
            simp [go_sem, e3_31, e4_31, e7_31, e8_31, e10_31] at e3_32 e4_32 e7_32 e8_32 e10_32 e21_32
            clear e3_31 e4_31 e7_31 e8_31 e10_31
            refine Wp.seq ?_
            refine Wp.seqRegion (.inl rfl) (by kernel_rfl) fun K' gd hK hg => ?_
            clear hg
            go_simp
            refine hK _ _ ?_
            clear hK K' gd
            refine Wp.keep [3, 4, 7, 8, 10, 21, 22] fun r33 hkeep => ?_
            obtain ⟨e3_33, e4_33, e7_33, e8_33, e10_33, e21_33, e22_33, -⟩ := hkeep
            simp [go_sem, e3_32, e4_32, e7_32, e8_32, e10_32, e21_32] at e3_33 e4_33 e7_33 e8_33 e10_33 e21_33 e22_33
            clear e3_32 e4_32 e7_32 e8_32 e10_32 e21_32
            refine Wp.block ?_
            refine Wp.loop (fun k ρ ds wk => AllEq [3, 4, 7, 8, 10] ρ r33 ∧ ds = [] ∧ (Ext W7 wk) ∧ (∃ v, ρ 22 = .int .i64 (k : Int) ∧ ρ 21 = v ∧ OwnI wk B0 v (lateL c.e (s.alts.take k)))) (s.alts.length) ?_ ?_
            · refine ⟨AllEq.refl _ _, rfl, Ext.refl _, ?_⟩
              exact ⟨_, by rw [e22_33]; rfl, e21_33, World.ownsRow_nil _ _ _ _⟩
            · rintro k r34 _ wk hk ⟨hA, rfl, xl10, ⟨v21, e22, e21, hO⟩⟩
              obtain ⟨e3_34, e4_34, e7_34, e8_34, e10_34, -⟩ := hA
              rw [e3_33] at e3_34
              rw [e4_33] at e4_34
              rw [e7_33] at e7_34
              rw [e8_33] at e8_34
              rw [e10_33] at e10_34
              have zxl10 := Below.size xl10
              replace f3 := Ext.fz xl10 c3_0 f3
              replace f4 := Ext.fz xl10 c4_0 f4
              replace f15 := Ext.fz xl10 c15_0 f15
              replace xw := Ext.trans xw xl10
              replace xv := Ext.trans xv xl10
              replace c3_0 := Ext.cell xl10 c3_0
              replace c3_1 := Ext.cell xl10 c3_1
              replace c4_0 := Ext.cell xl10 c4_0
              replace c4_1 := Ext.cell xl10 c4_1
              replace c4_2 := Ext.cell xl10 c4_2
              replace c4_3 := Ext.cell xl10 c4_3
              replace y0 := Ext.cell xl10 y0
              replace y1 := Ext.cell xl10 y1
              replace y2 := Ext.cell xl10 y2
              replace y3 := Ext.cell xl10 y3
              replace y4 := Ext.cell xl10 y4
              replace y5 := Ext.cell xl10 y5
              replace c15_0 := Ext.cell xl10 c15_0
              replace c15_1 := Ext.cell xl10 c15_1
              replace c15_2 := Ext.cell xl10 c15_2
              replace c15_3 := Ext.cell xl10 c15_3
              replace c15_4 := Ext.cell xl10 c15_4
              replace c15_5 := Ext.cell xl10 c15_5
              obtain ⟨A9, c9, rfl⟩ := OwnI.slice hO
              refine Wp.seq ?_
              refine Wp.seqRegion (.inl rfl) (by kernel_rfl) fun K' gd hK hg => ?_
              clear hg
              go_simp
              refine hK _ _ ?_
              clear hK K' gd
              refine Wp.keep [3, 4, 7, 8, 10, 21, 22, 132] fun r35 hkeep => ?_
              obtain ⟨e3_35, e4_35, e7_35, e8_35, e10_35, e21_35, e22_35, e132_35, -⟩ := hkeep
              simp [go_sem, e3_34, e4_34, e7_34, e8_34, e10_34, e21, e22] at e3_35 e4_35 e7_35 e8_35 e10_35 e21_35 e22_35 e132_35
              clear e3_34 e4_34 e7_34 e8_34 e10_34 e21 e22
              by_cases h : k < s.alts.length
              · refine Wp.condT (by go_simp) ?_
                obtain ⟨b5, o5, f5, hb5, x0, x1, x2, x3, x4, x5⟩ := AltsV.six hAl h
                injection f5 with f5
                injection f5 with f6 f7
                subst f6
                subst f7
                replace x0 := xw.cell x0
                replace x2 := xw.cell x2
                clear x1 x3 x4 x5
                have hlk := lateL_len c.e (s.alts.take k)
                have hlk2 : (s.alts.take k).length ≤ 40 := by rw [List.length_take]; omega
                by_cases hd : c.e < s.alts[k].day
                · skip
                  refine Wp.skip ?_
                  refine thenK_normal ?_
                  refine Wp.seq ?_
                  refine Wp.block ?_
                  refine Wp.seqDraw (.inl rfl) mixed [([0, 1, 2, 3, 4], none), ([5, 6, 7, 8], none)] (by kernel_rfl) fun K' gd hK hg => ?_
                  clear hg
                  simp only [pick, nth, List.map_cons, List.map_nil, Option.map_none, Option.map_some]
                  refine Mops.absD fun D11 hD11 zD11 => ?_
                  replace f3 := Ext.fz hD11 c3_0 f3
                  replace f4 := Ext.fz hD11 c4_0 f4
                  replace f15 := Ext.fz hD11 c15_0 f15
                  replace hO := hO.ext hD11
                  replace xw := Ext.trans xw hD11
                  replace xv := Ext.trans xv hD11
                  replace xl10 := Ext.trans xl10 hD11
                  replace c3_0 := Ext.cell hD11 c3_0
                  replace c3_1 := Ext.cell hD11 c3_1
                  replace c4_0 := Ext.cell hD11 c4_0
                  replace c4_1 := Ext.cell hD11 c4_1
                  replace c4_2 := Ext.cell hD11 c4_2
                  replace c4_3 := Ext.cell hD11 c4_3
                  replace y0 := Ext.cell hD11 y0
                  replace y1 := Ext.cell hD11 y1
                  replace y2 := Ext.cell hD11 y2
                  replace y3 := Ext.cell hD11 y3
                  replace y4 := Ext.cell hD11 y4
                  replace y5 := Ext.cell hD11 y5
                  replace c15_0 := Ext.cell hD11 c15_0
                  replace c15_1 := Ext.cell hD11 c15_1
                  replace c15_2 := Ext.cell hD11 c15_2
                  replace c15_3 := Ext.cell hD11 c15_3
                  replace c15_4 := Ext.cell hD11 c15_4
                  replace c15_5 := Ext.cell hD11 c15_5
                  replace x0 := Ext.cell hD11 x0
                  replace x2 := Ext.cell hD11 x2
                  clear hD11
                  apply Mops.none
                  · intro w' hE'
                    have hC' := hE'.cellsS
                    go_simp
                    with_reducible rfl
                  apply Mops.none
                  · intro w' hE'
                    have hC' := hE'.cellsS
                    go_simp
                    with_reducible rfl
                  refine Mops.done ?_
                  refine hK _ _ ?_
                  clear hK K' gd
                  refine Wp.keep [3, 4, 7, 8, 10, 21, 22, 143] fun r36 hkeep => ?_
                  obtain ⟨e3_36, e4_36, e7_36, e8_36, e10_36, e21_36, e22_36, e143_36, -⟩ := hkeep
                  simp [go_sem, e3_35, e4_35, e7_35, e8_35, e10_35, e21_35, e22_35, e132_35] at e3_36 e4_36 e7_36 e8_36 e10_36 e21_36 e22_36 e143_36
                  clear e3_35 e4_35 e7_35 e8_35 e10_35 e21_35 e22_35 e132_35
                  refine Wp.condT (by go_simp) ?_
                  refine Wp.loneRegion (.inl rfl) (by kernel_rfl) fun K' gd hK hg => ?_
                  clear hg
                  refine Wops.cut 8 fun K1 hK1 => ?_
                  simp only [List.take_succ_cons, List.take_zero]
                  go_simp
                  refine hK1 _ _ ?_
                  clear hK1 K1
                  simp only [List.drop_succ_cons, List.drop_zero]
                  refine Wops.absT fun V151_12 n151 hV151_12 R151 => ?_
                  obtain ⟨q151, hV151_12, s151, kV151_12, f151, r151⟩ := hV151_12
                  try simp only [q151] at kV151_12 f151 r151 ⊢
                  replace R151 := (show RowC _ _ _ _ from R151)
                  replace f3 := Ext.fz hV151_12 c3_0 f3
                  replace f4 := Ext.fz hV151_12 c4_0 f4
                  replace f15 := Ext.fz hV151_12 c15_0 f15
                  replace hO := hO.ext hV151_12
                  replace xw := Ext.trans xw hV151_12
                  replace xv := Ext.trans xv hV151_12
                  replace xl10 := Ext.trans xl10 hV151_12
                  replace c3_0 := Ext.cell hV151_12 c3_0
                  replace c3_1 := Ext.cell hV151_12 c3_1
                  replace c4_0 := Ext.cell hV151_12 c4_0
                  replace c4_1 := Ext.cell hV151_12 c4_1
                  replace c4_2 := Ext.cell hV151_12 c4_2
                  replace c4_3 := Ext.cell hV151_12 c4_3
                  replace y0 := Ext.cell hV151_12 y0
                  replace y1 := Ext.cell hV151_12 y1
                  replace y2 := Ext.cell hV151_12 y2
                  replace y3 := Ext.cell hV151_12 y3
                  replace y4 := Ext.cell hV151_12 y4
                  replace y5 := Ext.cell hV151_12 y5
                  replace c15_0 := Ext.cell hV151_12 c15_0
                  replace c15_1 := Ext.cell hV151_12 c15_1
                  replace c15_2 := Ext.cell hV151_12 c15_2
                  replace c15_3 := Ext.cell hV151_12 c15_3
                  replace c15_4 := Ext.cell hV151_12 c15_4
                  replace c15_5 := Ext.cell hV151_12 c15_5
                  replace x0 := Ext.cell hV151_12 x0
                  replace x2 := Ext.cell hV151_12 x2
                  clear hV151_12 f151
                  have c151_0 := kV151_12 0 _ rfl
                  clear kV151_12
                  refine Wops.cut 1 fun K1 hK1 => ?_
                  simp only [List.take_succ_cons, List.take_zero]
                  obtain ⟨v', w12, hrun, hO2, hgr, -⟩ := app_run ints_T hO ⟨n151, 0, none⟩ 1 1 [.int .i64 s.alts[k].id] 22 rfl (news_one c151_0) (one_one rfl) (by omega) (by omega)
                  refine Wops.law rfl (exec_append2 rfl hrun (by go_simp) (by go_simp)) ?_
                  simp only [updO_some, Wops_nil]
                  refine hK1 _ _ ?_
                  clear hK1 K1
                  simp only [List.drop_succ_cons, List.drop_zero]
                  have z37 := World.grownBy.size hgr
                  replace f3 := Chg.fz (grown_chg hgr) c3_0 f3 (lt_off (World.ownsRow.lt hO) (by omega))
                  replace f4 := Chg.fz (grown_chg hgr) c4_0 f4 (lt_off (World.ownsRow.lt hO) (by omega))
                  replace f15 := Chg.fz (grown_chg hgr) c15_0 f15 (lt_off (World.ownsRow.lt hO) (by omega))
                  replace xw := Chg.to xw (grown_chg hgr) (lt_ge (World.ownsRow.lt hO) (by omega))
                  replace xv := Chg.to xv (grown_chg hgr) (lt_ge (World.ownsRow.lt hO) (by omega))
                  replace xl10 := Chg.to xl10 (grown_chg hgr) (lt_ge (World.ownsRow.lt hO) (by omega))
                  replace c3_0 := Chg.cell (grown_chg hgr) c3_0 (lt_off (World.ownsRow.lt hO) (by omega))
                  replace c3_1 := Chg.cell (grown_chg hgr) c3_1 (lt_off (World.ownsRow.lt hO) (by omega))
                  replace c4_0 := Chg.cell (grown_chg hgr) c4_0 (lt_off (World.ownsRow.lt hO) (by omega))
                  replace c4_1 := Chg.cell (grown_chg hgr) c4_1 (lt_off (World.ownsRow.lt hO) (by omega))
                  replace c4_2 := Chg.cell (grown_chg hgr) c4_2 (lt_off (World.ownsRow.lt hO) (by omega))
                  replace c4_3 := Chg.cell (grown_chg hgr) c4_3 (lt_off (World.ownsRow.lt hO) (by omega))
                  replace y0 := Chg.cell (grown_chg hgr) y0 (lt_off (World.ownsRow.lt hO) (by omega))
                  replace y1 := Chg.cell (grown_chg hgr) y1 (lt_off (World.ownsRow.lt hO) (by omega))
                  replace y2 := Chg.cell (grown_chg hgr) y2 (lt_off (World.ownsRow.lt hO) (by omega))
                  replace y3 := Chg.cell (grown_chg hgr) y3 (lt_off (World.ownsRow.lt hO) (by omega))
                  replace y4 := Chg.cell (grown_chg hgr) y4 (lt_off (World.ownsRow.lt hO) (by omega))
                  replace y5 := Chg.cell (grown_chg hgr) y5 (lt_off (World.ownsRow.lt hO) (by omega))
                  replace c15_0 := Chg.cell (grown_chg hgr) c15_0 (lt_off (World.ownsRow.lt hO) (by omega))
                  replace c15_1 := Chg.cell (grown_chg hgr) c15_1 (lt_off (World.ownsRow.lt hO) (by omega))
                  replace c15_2 := Chg.cell (grown_chg hgr) c15_2 (lt_off (World.ownsRow.lt hO) (by omega))
                  replace c15_3 := Chg.cell (grown_chg hgr) c15_3 (lt_off (World.ownsRow.lt hO) (by omega))
                  replace c15_4 := Chg.cell (grown_chg hgr) c15_4 (lt_off (World.ownsRow.lt hO) (by omega))
                  replace c15_5 := Chg.cell (grown_chg hgr) c15_5 (lt_off (World.ownsRow.lt hO) (by omega))
                  go_simp
                  refine hK _ _ ?_
                  clear hK K' gd
                  refine Ends.keep [3, 4, 7, 8, 10, 21, 22] fun r38 hkeep => ?_
                  obtain ⟨e3_38, e4_38, e7_38, e8_38, e10_38, e21_38, e22_38, -⟩ := hkeep
                  simp [go_sem, e3_36, e4_36, e7_36, e8_36, e10_36, e21_36, e22_36, e143_36] at e3_38 e4_38 e7_38 e8_38 e10_38 e21_38 e22_38
                  clear e3_36 e4_36 e7_36 e8_36 e10_36 e21_36 e22_36 e143_36
                  refine Ends.mk ?_
                  refine blockK_normal ?_
                  refine thenK_normal ?_
                  refine Wp.loneRegion (.inl rfl) (by kernel_rfl) fun K' gd hK hg => ?_
                  clear hg
                  go_simp
                  refine hK _ _ ?_
                  clear hK K' gd
                  refine Ends.keep [3, 4, 7, 8, 10, 21, 22] fun r39 hkeep => ?_
                  obtain ⟨e3_39, e4_39, e7_39, e8_39, e10_39, e21_39, e22_39, -⟩ := hkeep
                  simp [go_sem, e3_38, e4_38, e7_38, e8_38, e10_38, e21_38, e22_38] at e3_39 e4_39 e7_39 e8_39 e10_39 e21_39 e22_39
                  clear e3_38 e4_38 e7_38 e8_38 e10_38 e21_38 e22_38
                  refine Ends.mk ?_
                  refine thenK_normal ⟨by omega, ⟨by rw [e3_39, e3_33], by rw [e4_39, e4_33], by rw [e7_39, e7_33], by rw [e8_39, e8_33], by rw [e10_39, e10_33], trivial⟩, rfl, xl10, ?_⟩
                  exact ⟨_, by rw [e22_39, IntWalk.i64_in _ (by omega)]; rfl, e21_39, by rw [lateL_T h hd]; unfold OwnI; rw [encI_add, List.length_append]; exact hO2⟩
                · skip
                  refine Wp.skip ?_
                  refine thenK_normal ?_
                  refine Wp.seq ?_
                  refine Wp.block ?_
                  refine Wp.seqDraw (.inl rfl) mixed [([0, 1, 2, 3, 4], none), ([5, 6, 7, 8], none)] (by kernel_rfl) fun K' gd hK hg => ?_
                  clear hg
                  simp only [pick, nth, List.map_cons, List.map_nil, Option.map_none, Option.map_some]
                  refine Mops.absD fun D13 hD13 zD13 => ?_
                  replace f3 := Ext.fz hD13 c3_0 f3
                  replace f4 := Ext.fz hD13 c4_0 f4
                  replace f15 := Ext.fz hD13 c15_0 f15
                  replace hO := hO.ext hD13
                  replace xw := Ext.trans xw hD13
                  replace xv := Ext.trans xv hD13
                  replace xl10 := Ext.trans xl10 hD13
                  replace c3_0 := Ext.cell hD13 c3_0
                  replace c3_1 := Ext.cell hD13 c3_1
                  replace c4_0 := Ext.cell hD13 c4_0
                  replace c4_1 := Ext.cell hD13 c4_1
                  replace c4_2 := Ext.cell hD13 c4_2
                  replace c4_3 := Ext.cell hD13 c4_3
                  replace y0 := Ext.cell hD13 y0
                  replace y1 := Ext.cell hD13 y1
                  replace y2 := Ext.cell hD13 y2
                  replace y3 := Ext.cell hD13 y3
                  replace y4 := Ext.cell hD13 y4
                  replace y5 := Ext.cell hD13 y5
                  replace c15_0 := Ext.cell hD13 c15_0
                  replace c15_1 := Ext.cell hD13 c15_1
                  replace c15_2 := Ext.cell hD13 c15_2
                  replace c15_3 := Ext.cell hD13 c15_3
                  replace c15_4 := Ext.cell hD13 c15_4
                  replace c15_5 := Ext.cell hD13 c15_5
                  replace x0 := Ext.cell hD13 x0
                  replace x2 := Ext.cell hD13 x2
                  clear hD13
                  apply Mops.none
                  · intro w' hE'
                    have hC' := hE'.cellsS
                    go_simp
                    with_reducible rfl
                  apply Mops.none
                  · intro w' hE'
                    have hC' := hE'.cellsS
                    go_simp
                    with_reducible rfl
                  refine Mops.done ?_
                  refine hK _ _ ?_
                  clear hK K' gd
                  refine Wp.keep [3, 4, 7, 8, 10, 21, 22, 143] fun r40 hkeep => ?_
                  obtain ⟨e3_40, e4_40, e7_40, e8_40, e10_40, e21_40, e22_40, e143_40, -⟩ := hkeep
                  simp [go_sem, e3_35, e4_35, e7_35, e8_35, e10_35, e21_35, e22_35, e132_35] at e3_40 e4_40 e7_40 e8_40 e10_40 e21_40 e22_40 e143_40
                  clear e3_35 e4_35 e7_35 e8_35 e10_35 e21_35 e22_35 e132_35
                  refine Wp.condF (by go_simp) ?_
                  refine Wp.skip ?_
                  refine blockK_normal ?_
                  refine thenK_normal ?_
                  refine Wp.loneRegion (.inl rfl) (by kernel_rfl) fun K' gd hK hg => ?_
                  clear hg
                  go_simp
                  refine hK _ _ ?_
                  clear hK K' gd
                  refine Ends.keep [3, 4, 7, 8, 10, 21, 22] fun r41 hkeep => ?_
                  obtain ⟨e3_41, e4_41, e7_41, e8_41, e10_41, e21_41, e22_41, -⟩ := hkeep
                  simp [go_sem, e3_40, e4_40, e7_40, e8_40, e10_40, e21_40, e22_40, e143_40] at e3_41 e4_41 e7_41 e8_41 e10_41 e21_41 e22_41
                  clear e3_40 e4_40 e7_40 e8_40 e10_40 e21_40 e22_40 e143_40
                  refine Ends.mk ?_
                  refine thenK_normal ⟨by omega, ⟨by rw [e3_41, e3_33], by rw [e4_41, e4_33], by rw [e7_41, e7_33], by rw [e8_41, e8_33], by rw [e10_41, e10_33], trivial⟩, rfl, xl10, ?_⟩
                  exact ⟨_, by rw [e22_41, IntWalk.i64_in _ (by omega)]; rfl, e21_41, by rw [lateL_F h hd]; exact hO⟩
              · refine Wp.condF (by go_simp) ?_
                obtain rfl : k = s.alts.length := by omega
                rw [List.take_length] at hO
                obtain ⟨e1, e2, e3⟩ := hlate2.choose_spec
                refine Wp.exit ?_
                refine thenK_exit ?_
                refine thenK_exit ?_
                refine blockK_here ?_
                refine thenK_normal ?_
                refine Wp.seqRegion (.inl rfl) (by kernel_rfl) fun K' gd hK hg => ?_
                clear hg
                refine Wops.cut 3 fun K1 hK1 => ?_
                simp only [List.take_succ_cons, List.take_zero]
                go_simp
                refine Wcall (.inl rfl) (Without_c _ _ s (lateL c.e s.alts) _ (hV.ext xw) (OwnI.intsV hO) hf hgd (by omega) hane) ?_
                rintro v w13 ⟨⟨t23, rfl, hS⟩, hE⟩
                obtain ⟨P, p, Q, q, rfl, -, -⟩ := id hS
                go_simp
                refine hK1 _ _ ?_
                clear hK1 K1
                simp only [List.drop_succ_cons, List.drop_zero]
                have z42 := Below.size hE
                replace f3 := Ext.fz hE c3_0 f3
                replace f4 := Ext.fz hE c4_0 f4
                replace f15 := Ext.fz hE c15_0 f15
                replace hO := hO.ext hE
                replace xw := Ext.trans xw hE
                replace xv := Ext.trans xv hE
                replace xl10 := Ext.trans xl10 hE
                replace c3_0 := Ext.cell hE c3_0
                replace c3_1 := Ext.cell hE c3_1
                replace c4_0 := Ext.cell hE c4_0
                replace c4_1 := Ext.cell hE c4_1
                replace c4_2 := Ext.cell hE c4_2
                replace c4_3 := Ext.cell hE c4_3
                replace y0 := Ext.cell hE y0
                replace y1 := Ext.cell hE y1
                replace y2 := Ext.cell hE y2
                replace y3 := Ext.cell hE y3
                replace y4 := Ext.cell hE y4
                replace y5 := Ext.cell hE y5
                replace c15_0 := Ext.cell hE c15_0
                replace c15_1 := Ext.cell hE c15_1
                replace c15_2 := Ext.cell hE c15_2
                replace c15_3 := Ext.cell hE c15_3
                replace c15_4 := Ext.cell hE c15_4
                replace c15_5 := Ext.cell hE c15_5
                clear hE
                refine Wops.cut 5 fun K1 hK1 => ?_
                simp only [List.take_succ_cons, List.take_zero]
                go_simp
                refine hK1 _ _ ?_
                clear hK1 K1
                simp only [List.drop_succ_cons, List.drop_zero]
                refine Wops.absT fun V23_14 n23 hV23_14 R23 => ?_
                obtain ⟨q23, hV23_14, s23, kV23_14, f23, r23⟩ := hV23_14
                try simp only [q23] at kV23_14 f23 r23 ⊢
                replace R23 := (show RowC _ _ _ _ from R23)
                replace f3 := Ext.fz hV23_14 c3_0 f3
                replace f4 := Ext.fz hV23_14 c4_0 f4
                replace f15 := Ext.fz hV23_14 c15_0 f15
                replace hO := hO.ext hV23_14
                replace hS := hS.ext hV23_14
                replace xw := Ext.trans xw hV23_14
                replace xv := Ext.trans xv hV23_14
                replace xl10 := Ext.trans xl10 hV23_14
                replace c3_0 := Ext.cell hV23_14 c3_0
                replace c3_1 := Ext.cell hV23_14 c3_1
                replace c4_0 := Ext.cell hV23_14 c4_0
                replace c4_1 := Ext.cell hV23_14 c4_1
                replace c4_2 := Ext.cell hV23_14 c4_2
                replace c4_3 := Ext.cell hV23_14 c4_3
                replace y0 := Ext.cell hV23_14 y0
                replace y1 := Ext.cell hV23_14 y1
                replace y2 := Ext.cell hV23_14 y2
                replace y3 := Ext.cell hV23_14 y3
                replace y4 := Ext.cell hV23_14 y4
                replace y5 := Ext.cell hV23_14 y5
                replace c15_0 := Ext.cell hV23_14 c15_0
                replace c15_1 := Ext.cell hV23_14 c15_1
                replace c15_2 := Ext.cell hV23_14 c15_2
                replace c15_3 := Ext.cell hV23_14 c15_3
                replace c15_4 := Ext.cell hV23_14 c15_4
                replace c15_5 := Ext.cell hV23_14 c15_5
                have c23_0 := kV23_14 0 _ rfl
                have c23_1 := kV23_14 1 _ rfl
                clear kV23_14 hV23_14
                clear r23
                go_simp
                refine hK _ _ ?_
                clear hK K' gd
                refine Wp.keep [4, 7, 8, 10, 23, 24] fun r43 hkeep => ?_
                obtain ⟨e4_43, e7_43, e8_43, e10_43, e23_43, e24_43, -⟩ := hkeep
                simp [go_sem, e3_35, e4_35, e7_35, e8_35, e10_35, e21_35, e22_35, e132_35] at e4_43 e7_43 e8_43 e10_43 e23_43 e24_43
                clear e3_35 e4_35 e7_35 e8_35 e10_35 e21_35 e22_35 e132_35
                refine Wp.seqRegion (.inl rfl) (by kernel_rfl) fun K' gd hK hg => ?_
                clear hg
                refine Wops.cut 3 fun K1 hK1 => ?_
                simp only [List.take_succ_cons, List.take_zero]
                go_simp
                refine Wcall (.inl rfl) (First_b e1 e2 _ hS.sheet (hU.ext xw) (hlf _) hg) ?_
                rintro v w14 ⟨⟨E7, m7, r7, rfl, hI2⟩, hE⟩
                go_simp
                refine hK1 _ _ ?_
                clear hK1 K1
                simp only [List.drop_succ_cons, List.drop_zero]
                have z44 := Below.size hE
                replace f3 := Ext.fz hE c3_0 f3
                replace f4 := Ext.fz hE c4_0 f4
                replace f15 := Ext.fz hE c15_0 f15
                replace f23 := Ext.fz hE c23_0 f23
                replace hO := hO.ext hE
                replace hS := hS.ext hE
                replace xw := Ext.trans xw hE
                replace xv := Ext.trans xv hE
                replace xl10 := Ext.trans xl10 hE
                replace c3_0 := Ext.cell hE c3_0
                replace c3_1 := Ext.cell hE c3_1
                replace c4_0 := Ext.cell hE c4_0
                replace c4_1 := Ext.cell hE c4_1
                replace c4_2 := Ext.cell hE c4_2
                replace c4_3 := Ext.cell hE c4_3
                replace y0 := Ext.cell hE y0
                replace y1 := Ext.cell hE y1
                replace y2 := Ext.cell hE y2
                replace y3 := Ext.cell hE y3
                replace y4 := Ext.cell hE y4
                replace y5 := Ext.cell hE y5
                replace c15_0 := Ext.cell hE c15_0
                replace c15_1 := Ext.cell hE c15_1
                replace c15_2 := Ext.cell hE c15_2
                replace c15_3 := Ext.cell hE c15_3
                replace c15_4 := Ext.cell hE c15_4
                replace c15_5 := Ext.cell hE c15_5
                replace c23_0 := Ext.cell hE c23_0
                replace c23_1 := Ext.cell hE c23_1
                clear hE
                go_simp
                refine hK _ _ ?_
                clear hK K' gd
                refine Wp.keep [4, 7, 8, 10, 23, 24, 25, 26] fun r45 hkeep => ?_
                obtain ⟨e4_45, e7_45, e8_45, e10_45, e23_45, e24_45, e25_45, e26_45, -⟩ := hkeep
                simp [go_sem, e4_43, e7_43, e8_43, e10_43, e23_43, e24_43] at e4_45 e7_45 e8_45 e10_45 e23_45 e24_45 e25_45 e26_45
                clear e4_43 e7_43 e8_43 e10_43 e23_43 e24_43
                refine Wp.seqRegion (.inl rfl) (by kernel_rfl) fun K' gd hK hg => ?_
                clear hg
                refine Wops.cut 3 fun K1 hK1 => ?_
                simp only [List.take_succ_cons, List.take_zero]
                go_simp
                refine Wcall (.inl rfl) (Last_b e1 e3 _ hS.sheet (hU.ext xw) (hlf _) hg) ?_
                rintro v w15 ⟨⟨E6, m6, r6, rfl, hJ2⟩, hE⟩
                go_simp
                refine hK1 _ _ ?_
                clear hK1 K1
                simp only [List.drop_succ_cons, List.drop_zero]
                have z46 := Below.size hE
                replace f3 := Ext.fz hE c3_0 f3
                replace f4 := Ext.fz hE c4_0 f4
                replace f15 := Ext.fz hE c15_0 f15
                replace f23 := Ext.fz hE c23_0 f23
                replace hO := hO.ext hE
                replace hS := hS.ext hE
                replace hI2 := hI2.ext hE
                replace xw := Ext.trans xw hE
                replace xv := Ext.trans xv hE
                replace xl10 := Ext.trans xl10 hE
                replace c3_0 := Ext.cell hE c3_0
                replace c3_1 := Ext.cell hE c3_1
                replace c4_0 := Ext.cell hE c4_0
                replace c4_1 := Ext.cell hE c4_1
                replace c4_2 := Ext.cell hE c4_2
                replace c4_3 := Ext.cell hE c4_3
                replace y0 := Ext.cell hE y0
                replace y1 := Ext.cell hE y1
                replace y2 := Ext.cell hE y2
                replace y3 := Ext.cell hE y3
                replace y4 := Ext.cell hE y4
                replace y5 := Ext.cell hE y5
                replace c15_0 := Ext.cell hE c15_0
                replace c15_1 := Ext.cell hE c15_1
                replace c15_2 := Ext.cell hE c15_2
                replace c15_3 := Ext.cell hE c15_3
                replace c15_4 := Ext.cell hE c15_4
                replace c15_5 := Ext.cell hE c15_5
                replace c23_0 := Ext.cell hE c23_0
                replace c23_1 := Ext.cell hE c23_1
                clear hE
                go_simp
                refine hK _ _ ?_
                clear hK K' gd
                refine Wp.keep [7, 8, 10, 24, 25, 26, 27, 28] fun r47 hkeep => ?_
                obtain ⟨e7_47, e8_47, e10_47, e24_47, e25_47, e26_47, e27_47, e28_47, -⟩ := hkeep
                simp [go_sem, e4_45, e7_45, e8_45, e10_45, e23_45, e24_45, e25_45, e26_45] at e7_47 e8_47 e10_47 e24_47 e25_47 e26_47 e27_47 e28_47
                clear e4_45 e7_45 e8_45 e10_45 e23_45 e24_45 e25_45 e26_45
                refine Wp.seqRegion (.inl rfl) (by kernel_rfl) fun K' gd hK hg => ?_
                have g3 : gd 3 = some 174 := hg 3
                clear hg
                refine Wops.cut 3 fun K1 hK1 => ?_
                simp only [List.take_succ_cons, List.take_zero]
                go_simp
                refine Wcall (.inl rfl) (sameI_T rfl _ hI2.ints (hI.ext xv).ints (by have := hF.choose_spec.2; omega)) ?_
                rintro v w16 ⟨rfl, hE⟩
                go_simp
                refine hK1 _ _ ?_
                clear hK1 K1
                simp only [List.drop_succ_cons, List.drop_zero]
                have z48 := Below.size hE
                replace f3 := Ext.fz hE c3_0 f3
                replace f4 := Ext.fz hE c4_0 f4
                replace f15 := Ext.fz hE c15_0 f15
                replace f23 := Ext.fz hE c23_0 f23
                replace hO := hO.ext hE
                replace hS := hS.ext hE
                replace hI2 := hI2.ext hE
                replace hJ2 := hJ2.ext hE
                replace xw := Ext.trans xw hE
                replace xv := Ext.trans xv hE
                replace xl10 := Ext.trans xl10 hE
                replace c3_0 := Ext.cell hE c3_0
                replace c3_1 := Ext.cell hE c3_1
                replace c4_0 := Ext.cell hE c4_0
                replace c4_1 := Ext.cell hE c4_1
                replace c4_2 := Ext.cell hE c4_2
                replace c4_3 := Ext.cell hE c4_3
                replace y0 := Ext.cell hE y0
                replace y1 := Ext.cell hE y1
                replace y2 := Ext.cell hE y2
                replace y3 := Ext.cell hE y3
                replace y4 := Ext.cell hE y4
                replace y5 := Ext.cell hE y5
                replace c15_0 := Ext.cell hE c15_0
                replace c15_1 := Ext.cell hE c15_1
                replace c15_2 := Ext.cell hE c15_2
                replace c15_3 := Ext.cell hE c15_3
                replace c15_4 := Ext.cell hE c15_4
                replace c15_5 := Ext.cell hE c15_5
                replace c23_0 := Ext.cell hE c23_0
                replace c23_1 := Ext.cell hE c23_1
                clear hE
                refine Wops.cut 4 fun K1 hK1 => ?_
                simp only [List.take_succ_cons, List.take_zero]
                go_simp
                refine Wcall (.inl rfl) (sameI_T rfl _ hJ2.ints (hJ.ext xv).ints (by have := hG.choose_spec.2; omega)) ?_
                rintro v w17 ⟨rfl, hE⟩
                go_simp
                refine hK1 _ _ ?_
                clear hK1 K1
                simp only [List.drop_succ_cons, List.drop_zero]
                have z49 := Below.size hE
                replace f3 := Ext.fz hE c3_0 f3
                replace f4 := Ext.fz hE c4_0 f4
                replace f15 := Ext.fz hE c15_0 f15
                replace f23 := Ext.fz hE c23_0 f23
                replace hO := hO.ext hE
                replace hS := hS.ext hE
                replace hI2 := hI2.ext hE
                replace hJ2 := hJ2.ext hE
                replace xw := Ext.trans xw hE
                replace xv := Ext.trans xv hE
                replace xl10 := Ext.trans xl10 hE
                replace c3_0 := Ext.cell hE c3_0
                replace c3_1 := Ext.cell hE c3_1
                replace c4_0 := Ext.cell hE c4_0
                replace c4_1 := Ext.cell hE c4_1
                replace c4_2 := Ext.cell hE c4_2
                replace c4_3 := Ext.cell hE c4_3
                replace y0 := Ext.cell hE y0
                replace y1 := Ext.cell hE y1
                replace y2 := Ext.cell hE y2
                replace y3 := Ext.cell hE y3
                replace y4 := Ext.cell hE y4
                replace y5 := Ext.cell hE y5
                replace c15_0 := Ext.cell hE c15_0
                replace c15_1 := Ext.cell hE c15_1
                replace c15_2 := Ext.cell hE c15_2
                replace c15_3 := Ext.cell hE c15_3
                replace c15_4 := Ext.cell hE c15_4
                replace c15_5 := Ext.cell hE c15_5
                replace c23_0 := Ext.cell hE c23_0
                replace c23_1 := Ext.cell hE c23_1
                clear hE
                go_simp
                refine hK _ _ ?_
                clear hK K' gd g3
                refine Wp.keep [7, 24, 26, 28, 29] fun r50 hkeep => ?_
                obtain ⟨e7_50, e24_50, e26_50, e28_50, e29_50, -⟩ := hkeep
                simp [go_sem, e7_47, e8_47, e10_47, e24_47, e25_47, e26_47, e27_47, e28_47] at e7_50 e24_50 e26_50 e28_50 e29_50
                clear e7_47 e8_47 e10_47 e24_47 e25_47 e26_47 e27_47 e28_47
                refine Wp.seqRegion (.inl rfl) (by kernel_rfl) fun K' gd hK hg => ?_
                have g1 : gd 1 = some 180 := hg 1
                have g5 : gd 5 = some 184 := hg 5
                have g9 : gd 9 = some 188 := hg 9
                have g13 : gd 13 = some 192 := hg 13
                clear hg
                go_simp
                refine hK _ _ ?_
                clear hK K' gd g1 g5 g9 g13
                refine Wp.keep [6] fun r51 hkeep => ?_
                obtain ⟨e6_51, -⟩ := hkeep
                simp [go_sem, e7_50, e24_50, e26_50, e28_50, e29_50] at e6_51
                clear e7_50 e24_50 e26_50 e28_50 e29_50
                refine Wp.ret ?_
                refine endK_tmp Try.results14 (by decide) ?_
                rw [e6_51]
                exact ⟨by first | rfl | go_simp, xw⟩
        · skip
          refine Wp.seq ?_
          refine Wp.seqRegion (.inl rfl) (by kernel_rfl) fun K' gd hK hg => ?_
          have g2 : gd 2 = some 67 := hg 2
          have g6 : gd 6 = some 71 := hg 6
          clear hg
          go_simp
          refine hK _ _ ?_
          clear hK K' gd g2 g6
          refine Wp.keep [2, 3, 4, 7, 8, 9, 10, 11, 13, 14, 74] fun r52 hkeep => ?_
          obtain ⟨e2_52, e3_52, e4_52, e7_52, e8_52, e9_52, e10_52, e11_52, e13_52, e14_52, e74_52, -⟩ := hkeep
          simp [go_sem, e2_17, e3_17, e4_17, e7_17, e8_17, e9_17, e10_17, e11_17, e13_17, e14_17] at e2_52 e3_52 e4_52 e7_52 e8_52 e9_52 e10_52 e11_52 e13_52 e14_52 e74_52
          clear e2_17 e3_17 e4_17 e7_17 e8_17 e9_17 e10_17 e11_17 e13_17 e14_17
          refine Wp.condT (by go_simp) ?_
          refine Wp.seqRegion (.inl rfl) (by kernel_rfl) fun K' gd hK hg => ?_
          have g1 : gd 1 = some 76 := hg 1
          have g6 : gd 6 = some 81 := hg 6
          clear hg
          go_simp
          refine hK _ _ ?_
          clear hK K' gd g1 g6
          refine Wp.keep [6] fun r53 hkeep => ?_
          obtain ⟨e6_53, -⟩ := hkeep
          simp [go_sem, e2_52, e3_52, e4_52, e7_52, e8_52, e9_52, e10_52, e11_52, e13_52, e14_52, e74_52] at e6_53
          clear e2_52 e3_52 e4_52 e7_52 e8_52 e9_52 e10_52 e11_52 e13_52 e14_52 e74_52
          refine Wp.ret ?_
          refine thenK_ret ?_
          refine endK_tmp Try.results14 (by decide) ?_
          rw [e6_53]
          exact ⟨by first | rfl | go_simp, xw⟩
    · skip
      refine Wp.seq ?_
      refine Wp.seqRegion (.inl rfl) (by kernel_rfl) fun K' gd hK hg => ?_
      have g3 : gd 3 = some 34 := hg 3
      have g8 : gd 8 = some 39 := hg 8
      clear hg
      refine Wops.cut 2 fun K1 hK1 => ?_
      simp only [List.take_succ_cons, List.take_zero]
      go_simp
      refine Wcall (.inl rfl) (few_c _ s _ (hV.ext xw)) ?_
      rintro v w3 ⟨rfl, hE⟩
      go_simp
      refine hK1 _ _ ?_
      clear hK1 K1
      simp only [List.drop_succ_cons, List.drop_zero]
      have z54 := Below.size hE
      replace f3 := Ext.fz hE c3_0 f3
      replace f4 := Ext.fz hE c4_0 f4
      replace xw := Ext.trans xw hE
      replace c3_0 := Ext.cell hE c3_0
      replace c3_1 := Ext.cell hE c3_1
      replace c4_0 := Ext.cell hE c4_0
      replace c4_1 := Ext.cell hE c4_1
      replace c4_2 := Ext.cell hE c4_2
      replace c4_3 := Ext.cell hE c4_3
      clear hE
      refine Wops.cut 4 fun K1 hK1 => ?_
      simp only [List.take_succ_cons, List.take_zero]
      go_simp
      refine Wcall (.inl rfl) (brief_c _ c _ (hU.ext xw)) ?_
      rintro v w4 ⟨rfl, hE⟩
      go_simp
      refine hK1 _ _ ?_
      clear hK1 K1
      simp only [List.drop_succ_cons, List.drop_zero]
      have z55 := Below.size hE
      replace f3 := Ext.fz hE c3_0 f3
      replace f4 := Ext.fz hE c4_0 f4
      replace xw := Ext.trans xw hE
      replace c3_0 := Ext.cell hE c3_0
      replace c3_1 := Ext.cell hE c3_1
      replace c4_0 := Ext.cell hE c4_0
      replace c4_1 := Ext.cell hE c4_1
      replace c4_2 := Ext.cell hE c4_2
      replace c4_3 := Ext.cell hE c4_3
      clear hE
      go_simp
      refine hK _ _ ?_
      clear hK K' gd g3 g8
      refine Wp.keep [2, 3, 4, 7, 44] fun r56 hkeep => ?_
      obtain ⟨e2_56, e3_56, e4_56, e7_56, e44_56, -⟩ := hkeep
      simp [go_sem, e2_4, e3_4, e4_4, e7_4] at e2_56 e3_56 e4_56 e7_56 e44_56
      clear e2_4 e3_4 e4_4 e7_4
      refine Wp.condT (by go_simp) ?_
      refine Wp.seqRegion (.inl rfl) (by kernel_rfl) fun K' gd hK hg => ?_
      clear hg
      go_simp
      refine hK _ _ ?_
      clear hK K' gd
      refine Wp.keep [6] fun r57 hkeep => ?_
      obtain ⟨e6_57, -⟩ := hkeep
      simp [go_sem, e2_56, e3_56, e4_56, e7_56, e44_56] at e6_57
      clear e2_56 e3_56 e4_56 e7_56 e44_56
      refine Wp.ret ?_
      refine thenK_ret ?_
      refine endK_tmp Try.results14 (by decide) ?_
      rw [e6_57]
      exact ⟨rfl, xw⟩
  · skip
    refine Wp.seq ?_
    refine Wp.seqRegion (.inl rfl) (by kernel_rfl) fun K' gd hK hg => ?_
    have g3 : gd 3 = some 34 := hg 3
    have g8 : gd 8 = some 39 := hg 8
    clear hg
    refine Wops.cut 2 fun K1 hK1 => ?_
    simp only [List.take_succ_cons, List.take_zero]
    go_simp
    refine Wcall (.inl rfl) (few_c _ s _ (hV.ext xw)) ?_
    rintro v w3 ⟨rfl, hE⟩
    go_simp
    refine hK1 _ _ ?_
    clear hK1 K1
    simp only [List.drop_succ_cons, List.drop_zero]
    have z58 := Below.size hE
    replace f3 := Ext.fz hE c3_0 f3
    replace f4 := Ext.fz hE c4_0 f4
    replace xw := Ext.trans xw hE
    replace c3_0 := Ext.cell hE c3_0
    replace c3_1 := Ext.cell hE c3_1
    replace c4_0 := Ext.cell hE c4_0
    replace c4_1 := Ext.cell hE c4_1
    replace c4_2 := Ext.cell hE c4_2
    replace c4_3 := Ext.cell hE c4_3
    clear hE
    refine Wops.cut 4 fun K1 hK1 => ?_
    simp only [List.take_succ_cons, List.take_zero]
    go_simp
    refine hK1 _ _ ?_
    clear hK1 K1
    simp only [List.drop_succ_cons, List.drop_zero]
    go_simp
    refine hK _ _ ?_
    clear hK K' gd g3 g8
    refine Wp.keep [2, 3, 4, 7, 44] fun r59 hkeep => ?_
    obtain ⟨e2_59, e3_59, e4_59, e7_59, e44_59, -⟩ := hkeep
    simp [go_sem, e2_4, e3_4, e4_4, e7_4] at e2_59 e3_59 e4_59 e7_59 e44_59
    clear e2_4 e3_4 e4_4 e7_4
    refine Wp.condT (by go_simp) ?_
    refine Wp.seqRegion (.inl rfl) (by kernel_rfl) fun K' gd hK hg => ?_
    clear hg
    go_simp
    refine hK _ _ ?_
    clear hK K' gd
    refine Wp.keep [6] fun r60 hkeep => ?_
    obtain ⟨e6_60, -⟩ := hkeep
    simp [go_sem, e2_59, e3_59, e4_59, e7_59, e44_59] at e6_60
    clear e2_59 e3_59 e4_59 e7_59 e44_59
    refine Wp.ret ?_
    refine thenK_ret ?_
    refine endK_tmp Try.results14 (by decide) ?_
    rw [e6_60]
    exact ⟨rfl, xw⟩
end Go.Proofs.Ytnjajbkkgfohaaa
