/- The faces of a line, yielded. A copy with the days on which each line can have been copied: its earliest and its latest days (plain law). Rows of our own that grow between the rounds of a range. Contains; rows of our own beside a block that turns; Reads. A store into a row of our own; spans of our own. The days on which a word can be copied: when, When. Days in a row of our own; a table of spans; a copy with its days in memory. Lists that are made. When; madeOf. Lists of spans: Clone, Reverse, the nearest one. -/
import Derived.Test.YtnjajbkkgfohaaaP2
import Derived.Test.YtnjajbkkgfohaaaP1
import Derived.Laws.MakeOwn
import Derived.Laws.OwnMore
set_option linter.all false
namespace Go.Proofs.Ytnjajbkkgfohaaa
open Go.RowKit Go.Wk Go.Proofs
attribute [local irreducible] Go.Wk.Wops Go.Wk.Wp Go.Wk.Mtree Go.Wk.Mops
set_option maxHeartbeats 4000000
set_option maxRecDepth 20000

def encF (_ : Nat) (x : Int × Int × Face) : Array Value := #[.agg #[.int .i64 x.1, .int .i64 x.2.1], .agg #[.int .i64 x.2.2.1, .int .i64 x.2.2.2.1, .bool x.2.2.2.2]]
/-- block b is a row of t's -/
def TyB (W : World) (b : Nat) (t : TypeId) : Prop := ∃ cs, W.heap[b]? = some (.cells cs t (0, 0))
section
variable {W V : World} {b : Nat} {t : TypeId}
theorem TyB.of {cs : List Value} (h : RowC W b t cs) : TyB W b t := ⟨_, h⟩
theorem TyB.ext (h : TyB W b t) (hE : Ext W V) : TyB V b t := by obtain ⟨cs, h⟩ := h; exact ⟨cs, (Below.block hE b (Array.getElem?_eq_some_iff.1 h).1).trans h⟩
theorem TyB.adm {m : Nat} (h : TyB W b t) (hE : Adm m W V) : TyB V b t := by obtain ⟨cs, h⟩ := h; exact ⟨cs, hE.heap h⟩
theorem TyB.chg {L : List Nat} (h : TyB W b t) (hE : Chg L W V) (hL : b ∉ L) : TyB V b t := by obtain ⟨cs, h⟩ := h; exact ⟨cs, (hE.block b (Array.getElem?_eq_some_iff.1 h).1 hL).trans h⟩
theorem TyB.put {k i : Nat} {vs : List Value} (h : TyB W b t) (p : Put W V k i vs) (_ : 0 = 0) : TyB V b t := by
  by_cases e : b = k
  · subst e; obtain ⟨cs, h⟩ := h; obtain ⟨cs', h1, -⟩ := p.row cs t h; exact ⟨cs', h1⟩
  · exact h.chg p.chg (by simpa using e)
theorem TyB.held {X Y : World} (h : TyB W b t) (hK : Held X W Y) (hb : X.heap.size ≤ b) : TyB Y b t := by obtain ⟨cs, h⟩ := h; exact ⟨cs, hK b _ hb h rfl⟩
theorem TyB.own {base e size n : Nat} {v : Value} {xs : List Value} (h : TyB W b t) (ho : W.ownsRow base e size v n xs) (he : e ≠ t) : v.ownBlock ≠ some b := by
  rcases ho.2 with ⟨rfl, -⟩ | ⟨g, cap, cur, rfl, -, hg, -⟩
  · simp [Value.ownBlock]
  · intro e'
    simp only [Value.ownBlock, Option.some.injEq] at e'
    subst e'
    obtain ⟨cs, h⟩ := h
    rw [hg] at h
    injection h with h; injection h with _ h
    exact he h
end
/-- block g holds the face -/
def FaceC (W : World) (g : Nat) (f : Face) : Prop := (W.cell? ⟨g, 0, none⟩ = some (.int .i64 f.1) ∧ W.cell? ⟨g, 1, none⟩ = some (.int .i64 f.2.1) ∧ W.cell? ⟨g, 2, none⟩ = some (.bool f.2.2)) ∧ (∀ k, W.frozen? ⟨g, k, none⟩ = false) ∧ TyB W g 117
def facC (W : World) (g : Nat) (x : Int × Int × Face) : Prop := FaceC W g x.2.2
theorem FaceC.ext {W V : World} {g : Nat} {f : Face} (h : FaceC W g f) (hE : Ext W V) : FaceC V g f := ⟨⟨hE.cell h.1.1, hE.cell h.1.2.1, hE.cell h.1.2.2⟩, Ext.fz hE h.1.1 h.2.1, h.2.2.ext hE⟩
theorem FaceC.adm {m : Nat} {W V : World} {g : Nat} {f : Face} (h : FaceC W g f) (hE : Adm m W V) : FaceC V g f := ⟨⟨hE.cell h.1.1, hE.cell h.1.2.1, hE.cell h.1.2.2⟩, Adm.fz hE h.1.1 h.2.1, h.2.2.adm hE⟩
theorem FaceC.chg {L : List Nat} {W V : World} {g : Nat} {f : Face} (h : FaceC W g f) (hE : Chg L W V) (hL : g ∉ L) : FaceC V g f := ⟨⟨Chg.cell hE h.1.1 hL, Chg.cell hE h.1.2.1 hL, Chg.cell hE h.1.2.2 hL⟩, Chg.fz hE h.1.1 h.2.1 hL, h.2.2.chg hE hL⟩
theorem FaceC.put {W V : World} {g b i : Nat} {vs : List Value} {f : Face} (h : FaceC W g f) (p : Put W V b i vs) (hb : g ≠ b) : FaceC V g f := h.chg p.chg (by simpa using hb)
theorem facC.ext {W V : World} {g : Nat} {f : Int × Int × Face} (h : facC W g f) (hE : Ext W V) : facC V g f := FaceC.ext h hE
theorem facC.adm {m : Nat} {W V : World} {g : Nat} {f : Int × Int × Face} (h : facC W g f) (hE : Adm m W V) : facC V g f := FaceC.adm h hE
theorem facC.chg {L : List Nat} {W V : World} {g : Nat} {f : Int × Int × Face} (h : facC W g f) (hE : Chg L W V) (hL : g ∉ L) : facC V g f := FaceC.chg h hE hL
theorem facC.put {W V : World} {g b i : Nat} {vs : List Value} {f : Int × Int × Face} (h : facC W g f) (p : Put W V b i vs) (hb : g ≠ b) : facC V g f := FaceC.put h p hb
theorem FaceC.lt {W : World} {g : Nat} {f : Face} (h : FaceC W g f) : g < W.heap.size := cell_lt h.1.1
/-- what the faces of a line are read from -/
structure FacesD (W : World) (bs bi : Nat) (s : Sh) (i : Nat) (b o n c : Nat) (A : Option Addr) (c2 : Nat) : Prop where
  c0 : W.cell? ⟨bs, 0, none⟩ = some (.slice (some ⟨b, o, none⟩) n c)
  c1 : W.cell? ⟨bs, 1, none⟩ = some (.slice A s.alts.length c2)
  ci : W.cell? ⟨bi, 0, none⟩ = some (.int .i64 (i : Int))
  cw : W.cell? ⟨b, o + i, none⟩ = some (.int .i64 (s.W i))
  ca : AltsV W W.heap.size (.slice A s.alts.length c2) s.alts
theorem after_c2 {x y : Int} {z : Bool} {a : Alt} {x2 y2 : Int} {z2 : Bool} (h : aft (x, y, z) a = (x2, y2, z2)) (w : World) :
    CallsV Try.prog 127 #[.agg #[.int .i64 x, .int .i64 y, .bool z], .agg #[.int .i64 a.id, .int .i64 a.kind, .int .i64 a.day, .int .i64 a.frm, .int .i64 a.tu, .int .i64 a.word]] w fun v w' =>
      v = .agg #[.int .i64 x2, .int .i64 y2, .bool z2] ∧ Ext w w' := by
  have := after_c x y z a w
  rw [h] at this
  exact this
theorem faces_step {i : Int} {a : Alt} {l : List Alt} {f : Face} {d : Int} : facesL i (a :: l) f d = if nxt i f a = f then facesL i l f d else if d < a.day then (d, a.day - 1, f) :: facesL i l (nxt i f a) a.day else facesL i l (nxt i f a) a.day := rfl
theorem drop_next {α : Type} {l m : List α} {j : Nat} {x : α} (h : l.drop j = x :: m) : l[j]? = some x ∧ l.drop (j + 1) = m := by
  constructor
  · have := List.getElem?_drop (xs := l) (i := j) (j := 0)
    rw [h] at this; simpa using this.symm
  · rw [← List.drop_drop (i := 1), h]; rfl
theorem face_set {w : World} {g : Nat} {f : Face} {x2 y2 : Int} {z2 : Bool} (h : FaceC w g f) {b o : Nat} {v : Value} (hb : w.cell? ⟨b, o, none⟩ = some v) (hne : b ≠ g) :
    FaceC (((w.drew.setCell ⟨g, 0, none⟩ (.int .i64 x2)).setCell ⟨g, 1, none⟩ (.int .i64 y2)).setCell ⟨g, 2, none⟩ (.bool z2)) g (x2, y2, z2) ∧
    Chg [g] w (((w.drew.setCell ⟨g, 0, none⟩ (.int .i64 x2)).setCell ⟨g, 1, none⟩ (.int .i64 y2)).setCell ⟨g, 2, none⟩ (.bool z2)) ∧
    ∀ v0 v1 v2, (((w.drew.setCell ⟨g, 0, none⟩ v0).setCell ⟨g, 1, none⟩ v1).setCell ⟨g, 2, none⟩ v2).cell? ⟨b, o, none⟩ = some v := by
  have p := setL_put (w := w.drew) (b := g) (i := 0) (vs := [.int .i64 x2, .int .i64 y2, .bool z2]) (by
    intro j hj
    match j, hj with
    | 0, _ => simp [cell_drew h.1.1]
    | 1, _ => simp [cell_drew h.1.2.1]
    | 2, _ => simp [cell_drew h.1.2.2])
  refine ⟨⟨⟨p.new 0 _ rfl, p.new 1 _ rfl, p.new 2 _ rfl⟩, fun k => (p.fz _).trans (h.2.1 k), TyB.put (V := ((w.drew.setCell _ _).setCell _ _).setCell _ _) (h.2.2.ext (Ext.refl _).drew) p rfl⟩, (((Chg.refl [g] w).drew.setC (by simp)).setC (by simp)).setC (by simp), fun v0 v1 v2 => ?_⟩
  rw [World.cell?_setCell_other _ _ _ _ (by intro e; injection e with e _; exact hne e.symm), World.cell?_setCell_other _ _ _ _ (by intro e; injection e with e _; exact hne e.symm), World.cell?_setCell_other _ _ _ _ (by intro e; injection e with e _; exact hne e.symm)]
  exact hb
theorem faces_it (s : Sh) (i : Nat) (bs bi b o n c : Nat) (A : Option Addr) (c2 : Nat) (hi : i < n) (hl : s.alts.length ≤ 1000000000000000) (hd : ∀ a ∈ s.alts, 0 ≤ a.day ∧ a.day ≤ 730) :
    IterH Try.prog 126 #[.pointer (some ⟨bs, 0, none⟩), .pointer (some ⟨bi, 0, none⟩)] encF facC (fun W => FacesD W bs bi s i b o n c A c2) (s.faces i) := by
  intro l J Jx w hD hJE hJxE hJg h0 hY
  show CallsV _ _ #[.func (.yield l) #[] #[], .pointer (some ⟨bs, 0, none⟩), .pointer (some ⟨bi, 0, none⟩)] _ _
  have hin : (i : Int) < (n : Int) := by omega
  have d00 := hD _ _ _ (h0 w.heap.size w (Nat.le_refl _) (Ext.refl _))
  have y0 := d00.c0
  have y1 := d00.c1
  have yi := d00.ci
  have yw := d00.cw
  clear d00
  refine Wp.fn Try.func126 rfl Try.ntmps126 (by simp) ?_
  have xw := Ext.refl w
  refine Wp.keep [0, 1, 2] fun r1 hkeep => ?_
  obtain ⟨e0_1, e1_1, e2_1, -⟩ := hkeep
  simp [go_sem] at e0_1 e1_1 e2_1
  refine Wp.seqRegion (.inl rfl) (by kernel_rfl) fun K' gd hK hg => ?_
  clear hg
  refine Wops.cut 9 fun K1 hK1 => ?_
  simp only [List.take_succ_cons, List.take_zero]
  go_simp
  refine hK1 _ _ ?_
  clear hK1 K1
  simp only [List.drop_succ_cons, List.drop_zero]
  refine Wops.absT fun V4_1 n4 hV4_1 R4 => ?_
  obtain ⟨q4, hV4_1, s4, kV4_1, f4, r4⟩ := hV4_1
  try simp only [q4] at kV4_1 f4 r4 ⊢
  replace R4 := (show RowC _ _ _ _ from R4)
  replace xw := Ext.trans xw hV4_1
  replace y0 := Ext.cell hV4_1 y0
  replace y1 := Ext.cell hV4_1 y1
  replace yi := Ext.cell hV4_1 yi
  replace yw := Ext.cell hV4_1 yw
  have c4_0 := kV4_1 0 _ rfl
  have c4_1 := kV4_1 1 _ rfl
  have c4_2 := kV4_1 2 _ rfl
  clear kV4_1 hV4_1
  clear r4
  try simp only [Wops_nil, updO_some, updO_none]
  refine hK _ _ ?_
  clear hK K' gd
  refine Wp.keep [0, 1, 2, 4] fun r2 hkeep => ?_
  obtain ⟨e0_2, e1_2, e2_2, e4_2, -⟩ := hkeep
  simp [go_sem, e0_1, e1_1, e2_1] at e0_2 e1_2 e2_2 e4_2
  clear e0_1 e1_1 e2_1
  have t4 := TyB.of R4
  refine Wp.seqRegion (.inl rfl) (by kernel_rfl) fun K' gd hK hg => ?_
  clear hg
  go_simp
  refine hK _ _ ?_
  clear hK K' gd
  refine Wp.keep [0, 1, 2, 4, 5] fun r3 hkeep => ?_
  obtain ⟨e0_3, e1_3, e2_3, e4_3, e5_3, -⟩ := hkeep
  simp [go_sem, e0_2, e1_2, e2_2, e4_2] at e0_3 e1_3 e2_3 e4_3 e5_3
  clear e0_2 e1_2 e2_2 e4_2
  refine Wp.seq ?_
  refine Wp.seqRegion (.inl rfl) (by kernel_rfl) fun K' gd hK hg => ?_
  clear hg
  go_simp
  refine hK _ _ ?_
  clear hK K' gd
  refine Wp.keep [0, 2, 4, 5, 17, 18, 19] fun r4 hkeep => ?_
  obtain ⟨e0_4, e2_4, e4_4, e5_4, e17_4, e18_4, e19_4, -⟩ := hkeep
  simp [go_sem, e0_3, e1_3, e2_3, e4_3, e5_3] at e0_4 e2_4 e4_4 e5_4 e17_4 e18_4 e19_4
  clear e0_3 e1_3 e2_3 e4_3 e5_3
  refine Wp.block ?_
  refine Wp.loop (fun k ρ ds wk => AllEq [0, 2, 4, 17, 18] ρ r4 ∧ ds = [] ∧ True ∧ (∃ x y z d j, ρ 19 = .int .i64 (k : Int) ∧ ρ 5 = .int .i64 d ∧ J n4 j wk ∧ FaceC wk n4 (x, y, z) ∧ (s.faces i).drop j = facesL i (s.alts.drop k) (x, y, z) d)) (s.alts.length) ?_ ?_
  · refine ⟨AllEq.refl _ _, rfl, trivial, ?_⟩
    exact ⟨_, _, _, _, 0, by rw [e19_4]; rfl, e5_4, h0 _ _ (by omega) xw, ⟨⟨c4_0, c4_1, c4_2⟩, f4, t4⟩, rfl⟩
  · skip
    try clear t4
    try clear f4
    try clear c4_2
    try clear c4_1
    try clear c4_0
    try clear yw
    try clear yi
    try clear y1
    try clear y0
    try clear xw
    rintro k r5 _ wk hk ⟨hA, rfl, -, ⟨x, y, z, d, j, e19, e5, hJ, hC, hdr⟩⟩
    obtain ⟨e0_5, e2_5, e4_5, e17_5, e18_5, -⟩ := hA
    rw [e0_4] at e0_5
    rw [e2_4] at e2_5
    rw [e4_4] at e4_5
    rw [e17_4] at e17_5
    rw [e18_4] at e18_5
    have xo := Ext.refl wk
    refine Wp.seqRegion (.inl rfl) (by kernel_rfl) fun K' gd hK hg => ?_
    clear hg
    go_simp
    refine hK _ _ ?_
    clear hK K' gd
    refine Wp.keep [0, 2, 4, 5, 17, 18, 19, 20] fun r6 hkeep => ?_
    obtain ⟨e0_6, e2_6, e4_6, e5_6, e17_6, e18_6, e19_6, e20_6, -⟩ := hkeep
    simp [go_sem, e0_5, e2_5, e4_5, e5, e17_5, e18_5, e19] at e0_6 e2_6 e4_6 e5_6 e17_6 e18_6 e19_6 e20_6
    clear e0_5 e2_5 e4_5 e5 e17_5 e18_5 e19
    refine Wp.seq ?_
    by_cases h : k < s.alts.length
    · refine Wp.condT (by go_simp) ?_
      have dk := hD _ _ _ hJ
      obtain ⟨b2, o2, rfl, hb2, u0, u1, u2, u3, u4, u5⟩ := AltsV.six dk.ca h
      have ui := dk.ci
      clear dk
      rw [drop_cons h, faces_step] at hdr
      obtain ⟨⟨c4_0, c4_1, c4_2⟩, f4, t4⟩ := hC
      dsimp only at c4_0 c4_1 c4_2
      have lbi : bi < wk.heap.size := cell_lt ui
      have l4 : n4 < wk.heap.size := cell_lt c4_0
      have hda := hd _ (List.getElem_mem h)
      have hw1 : IntKind.i64.wrap (s.alts[k].day - 1) = s.alts[k].day - 1 := IntWalk.i64_in _ (by omega)
      by_cases hh : s.alts[k].frm ≤ (i : Int) ∧ (i : Int) ≤ s.alts[k].tu
      · skip
        obtain ⟨x2, y2, z2, hx2⟩ : ∃ x2 y2 z2, aft (x, y, z) s.alts[k] = (x2, y2, z2) := ⟨_, _, _, rfl⟩
        have hnx : ∃ _u : Unit, nxt i (x, y, z) s.alts[k] = (x2, y2, z2) := ⟨(), by unfold nxt; rw [if_pos hh, hx2]⟩
        refine Wp.skip ?_
        refine thenK_normal ?_
        refine Wp.seq ?_
        refine Wp.block ?_
        refine Wp.seqRegion (.inl rfl) (by kernel_rfl) fun K' gd hK hg => ?_
        clear hg
        refine Wops.cut 4 fun K1 hK1 => ?_
        simp only [List.take_succ_cons, List.take_zero]
        go_simp
        refine hK1 _ _ ?_
        clear hK1 K1
        simp only [List.drop_succ_cons, List.drop_zero]
        refine Wops.absT fun V7_3 n7 hV7_3 R7 => ?_
        obtain ⟨q7, hV7_3, s7, kV7_3, f7, r7⟩ := hV7_3
        try simp only [q7] at kV7_3 f7 r7 ⊢
        replace R7 := (show RowC _ _ _ _ from R7)
        replace f4 := Ext.fz hV7_3 c4_0 f4
        replace t4 := t4.ext hV7_3
        replace xo := Ext.trans xo hV7_3
        replace c4_0 := Ext.cell hV7_3 c4_0
        replace c4_1 := Ext.cell hV7_3 c4_1
        replace c4_2 := Ext.cell hV7_3 c4_2
        replace ui := Ext.cell hV7_3 ui
        replace u0 := Ext.cell hV7_3 u0
        replace u1 := Ext.cell hV7_3 u1
        replace u2 := Ext.cell hV7_3 u2
        replace u3 := Ext.cell hV7_3 u3
        replace u4 := Ext.cell hV7_3 u4
        replace u5 := Ext.cell hV7_3 u5
        have c7_0 := kV7_3 0 _ rfl
        have c7_1 := kV7_3 1 _ rfl
        have c7_2 := kV7_3 2 _ rfl
        have c7_3 := kV7_3 3 _ rfl
        have c7_4 := kV7_3 4 _ rfl
        have c7_5 := kV7_3 5 _ rfl
        clear kV7_3 hV7_3
        clear r7
        try simp only [Wops_nil, updO_some, updO_none]
        refine hK _ _ ?_
        clear hK K' gd
        refine Wp.keep [0, 2, 4, 5, 7, 17, 18, 19] fun r7 hkeep => ?_
        obtain ⟨e0_7, e2_7, e4_7, e5_7, e7_7, e17_7, e18_7, e19_7, -⟩ := hkeep
        simp [go_sem, e0_6, e2_6, e4_6, e5_6, e17_6, e18_6, e19_6, e20_6] at e0_7 e2_7 e4_7 e5_7 e7_7 e17_7 e18_7 e19_7
        clear e0_6 e2_6 e4_6 e5_6 e17_6 e18_6 e19_6 e20_6
        refine Wp.seqRegion (.inl rfl) (by kernel_rfl) fun K' gd hK hg => ?_
        clear hg
        refine Wops.cut 3 fun K1 hK1 => ?_
        simp only [List.take_succ_cons, List.take_zero]
        go_simp
        refine hK1 _ _ ?_
        clear hK1 K1
        simp only [List.drop_succ_cons, List.drop_zero]
        refine Wops.absT fun V8_4 n8 hV8_4 R8 => ?_
        obtain ⟨q8, hV8_4, s8, kV8_4, f8, r8⟩ := hV8_4
        try simp only [q8] at kV8_4 f8 r8 ⊢
        replace R8 := (show RowC _ _ _ _ from R8)
        replace f4 := Ext.fz hV8_4 c4_0 f4
        replace f7 := Ext.fz hV8_4 c7_0 f7
        replace t4 := t4.ext hV8_4
        replace xo := Ext.trans xo hV8_4
        replace c4_0 := Ext.cell hV8_4 c4_0
        replace c4_1 := Ext.cell hV8_4 c4_1
        replace c4_2 := Ext.cell hV8_4 c4_2
        replace ui := Ext.cell hV8_4 ui
        replace u0 := Ext.cell hV8_4 u0
        replace u1 := Ext.cell hV8_4 u1
        replace u2 := Ext.cell hV8_4 u2
        replace u3 := Ext.cell hV8_4 u3
        replace u4 := Ext.cell hV8_4 u4
        replace u5 := Ext.cell hV8_4 u5
        replace c7_0 := Ext.cell hV8_4 c7_0
        replace c7_1 := Ext.cell hV8_4 c7_1
        replace c7_2 := Ext.cell hV8_4 c7_2
        replace c7_3 := Ext.cell hV8_4 c7_3
        replace c7_4 := Ext.cell hV8_4 c7_4
        replace c7_5 := Ext.cell hV8_4 c7_5
        have c8_0 := kV8_4 0 _ rfl
        have c8_1 := kV8_4 1 _ rfl
        have c8_2 := kV8_4 2 _ rfl
        clear kV8_4 hV8_4
        clear r8
        try simp only [Wops_nil, updO_some, updO_none]
        refine hK _ _ ?_
        clear hK K' gd
        refine Wp.keep [0, 2, 4, 5, 7, 8, 17, 18, 19] fun r8 hkeep => ?_
        obtain ⟨e0_8, e2_8, e4_8, e5_8, e7_8, e8_8, e17_8, e18_8, e19_8, -⟩ := hkeep
        simp [go_sem, e0_7, e2_7, e4_7, e5_7, e7_7, e17_7, e18_7, e19_7] at e0_8 e2_8 e4_8 e5_8 e7_8 e8_8 e17_8 e18_8 e19_8
        clear e0_7 e2_7 e4_7 e5_7 e7_7 e17_7 e18_7 e19_7
        refine Wp.seq ?_
        refine Wp.seqRegion (.inl rfl) (by kernel_rfl) fun K' gd hK hg => ?_
        clear hg
        refine Wops.cut 6 fun K1 hK1 => ?_
        simp only [List.take_succ_cons, List.take_zero]
        go_simp
        refine Wcall (.inl rfl) (within_T hh _) ?_
        rintro v w4 ⟨rfl, hE⟩
        go_simp
        refine hK1 _ _ ?_
        clear hK1 K1
        simp only [List.drop_succ_cons, List.drop_zero]
        have z9 := Below.size hE
        replace f4 := Ext.fz hE c4_0 f4
        replace f7 := Ext.fz hE c7_0 f7
        replace f8 := Ext.fz hE c8_0 f8
        replace t4 := t4.ext hE
        replace xo := Ext.trans xo hE
        replace c4_0 := Ext.cell hE c4_0
        replace c4_1 := Ext.cell hE c4_1
        replace c4_2 := Ext.cell hE c4_2
        replace ui := Ext.cell hE ui
        replace u0 := Ext.cell hE u0
        replace u1 := Ext.cell hE u1
        replace u2 := Ext.cell hE u2
        replace u3 := Ext.cell hE u3
        replace u4 := Ext.cell hE u4
        replace u5 := Ext.cell hE u5
        replace c7_0 := Ext.cell hE c7_0
        replace c7_1 := Ext.cell hE c7_1
        replace c7_2 := Ext.cell hE c7_2
        replace c7_3 := Ext.cell hE c7_3
        replace c7_4 := Ext.cell hE c7_4
        replace c7_5 := Ext.cell hE c7_5
        replace c8_0 := Ext.cell hE c8_0
        replace c8_1 := Ext.cell hE c8_1
        replace c8_2 := Ext.cell hE c8_2
        clear hE
        try simp only [Wops_nil, updO_some, updO_none]
        refine hK _ _ ?_
        clear hK K' gd
        refine Wp.keep [0, 2, 4, 5, 7, 8, 17, 18, 19, 29] fun r10 hkeep => ?_
        obtain ⟨e0_10, e2_10, e4_10, e5_10, e7_10, e8_10, e17_10, e18_10, e19_10, e29_10, -⟩ := hkeep
        simp [go_sem, e0_8, e2_8, e4_8, e5_8, e7_8, e8_8, e17_8, e18_8, e19_8] at e0_10 e2_10 e4_10 e5_10 e7_10 e8_10 e17_10 e18_10 e19_10 e29_10
        clear e0_8 e2_8 e4_8 e5_8 e7_8 e8_8 e17_8 e18_8 e19_8
        refine Wp.condT (by go_simp) ?_
        refine Wp.loneRegion (.inl rfl) (by kernel_rfl) fun K' gd hK hg => ?_
        clear hg
        refine Wops.cut 3 fun K1 hK1 => ?_
        simp only [List.take_succ_cons, List.take_zero]
        go_simp
        refine Wcall (.inl rfl) (after_c2 hx2 _) ?_
        rintro v w5 ⟨rfl, hE⟩
        go_simp
        refine hK1 _ _ ?_
        clear hK1 K1
        simp only [List.drop_succ_cons, List.drop_zero]
        have z11 := Below.size hE
        replace f4 := Ext.fz hE c4_0 f4
        replace f7 := Ext.fz hE c7_0 f7
        replace f8 := Ext.fz hE c8_0 f8
        replace t4 := t4.ext hE
        replace xo := Ext.trans xo hE
        replace c4_0 := Ext.cell hE c4_0
        replace c4_1 := Ext.cell hE c4_1
        replace c4_2 := Ext.cell hE c4_2
        replace ui := Ext.cell hE ui
        replace u0 := Ext.cell hE u0
        replace u1 := Ext.cell hE u1
        replace u2 := Ext.cell hE u2
        replace u3 := Ext.cell hE u3
        replace u4 := Ext.cell hE u4
        replace u5 := Ext.cell hE u5
        replace c7_0 := Ext.cell hE c7_0
        replace c7_1 := Ext.cell hE c7_1
        replace c7_2 := Ext.cell hE c7_2
        replace c7_3 := Ext.cell hE c7_3
        replace c7_4 := Ext.cell hE c7_4
        replace c7_5 := Ext.cell hE c7_5
        replace c8_0 := Ext.cell hE c8_0
        replace c8_1 := Ext.cell hE c8_1
        replace c8_2 := Ext.cell hE c8_2
        clear hE
        refine Wops.cut 1 fun K1 hK1 => ?_
        simp only [List.take_succ_cons, List.take_zero]
        go_simp
        refine hK1 _ _ ?_
        clear hK1 K1
        simp only [List.drop_succ_cons, List.drop_zero]
        refine Wops.absS (b := n8) (i := 0) [_, _, _] (somes [cellVal c8_0, cellVal c8_1, cellVal c8_2] (by simp) (by intro j v hj; match j, hj with | 0, hj => (simp at hj; subst hj; exact c8_0) | 1, hj => (simp at hj; subst hj; exact c8_1) | 2, hj => (simp at hj; subst hj; exact c8_2))) fun P5 hP5 => ?_
        have zP5 := hP5.same
        replace f4 := Put.frz hP5 f4
        replace f7 := Put.frz hP5 f7
        replace f8 := Put.frz hP5 f8
        replace t4 := t4.put hP5 (by omega)
        replace xo := Put.to xo hP5 (by omega)
        replace c4_0 := Put.cell hP5 c4_0 (by omega)
        replace c4_1 := Put.cell hP5 c4_1 (by omega)
        replace c4_2 := Put.cell hP5 c4_2 (by omega)
        replace ui := Put.cell hP5 ui (by omega)
        replace u0 := Put.cell hP5 u0 (by omega)
        replace u1 := Put.cell hP5 u1 (by omega)
        replace u2 := Put.cell hP5 u2 (by omega)
        replace u3 := Put.cell hP5 u3 (by omega)
        replace u4 := Put.cell hP5 u4 (by omega)
        replace u5 := Put.cell hP5 u5 (by omega)
        replace c7_0 := Put.cell hP5 c7_0 (by omega)
        replace c7_1 := Put.cell hP5 c7_1 (by omega)
        replace c7_2 := Put.cell hP5 c7_2 (by omega)
        replace c7_3 := Put.cell hP5 c7_3 (by omega)
        replace c7_4 := Put.cell hP5 c7_4 (by omega)
        replace c7_5 := Put.cell hP5 c7_5 (by omega)
        clear c8_0
        clear c8_1
        clear c8_2
        have c8_0 := hP5.new 0 _ rfl
        try simp only [Nat.reduceAdd, Nat.zero_add, Nat.add_zero] at c8_0
        have c8_1 := hP5.new 1 _ rfl
        try simp only [Nat.reduceAdd, Nat.zero_add, Nat.add_zero] at c8_1
        have c8_2 := hP5.new 2 _ rfl
        try simp only [Nat.reduceAdd, Nat.zero_add, Nat.add_zero] at c8_2
        clear hP5
        try simp only [Wops_nil, updO_some, updO_none]
        refine hK _ _ ?_
        clear hK K' gd
        refine Ends.keep [0, 2, 4, 5, 7, 8, 17, 18, 19] fun r12 hkeep => ?_
        obtain ⟨e0_12, e2_12, e4_12, e5_12, e7_12, e8_12, e17_12, e18_12, e19_12, -⟩ := hkeep
        simp [go_sem, e0_10, e2_10, e4_10, e5_10, e7_10, e8_10, e17_10, e18_10, e19_10, e29_10] at e0_12 e2_12 e4_12 e5_12 e7_12 e8_12 e17_12 e18_12 e19_12
        clear e0_10 e2_10 e4_10 e5_10 e7_10 e8_10 e17_10 e18_10 e19_10 e29_10
        refine Ends.mk ?_
        refine thenK_normal ?_
        by_cases hn : x2 = x ∧ y2 = y ∧ z2 = z
        · skip
          obtain ⟨rfl, rfl, rfl⟩ := hn
          rw [if_pos hnx.choose_spec] at hdr
          refine Wp.seq ?_
          refine Wp.seqRegion (.inl rfl) (by kernel_rfl) fun K' gd hK hg => ?_
          clear hg
          go_simp
          refine hK _ _ ?_
          clear hK K' gd
          refine Wp.keep [0, 2, 4, 5, 7, 8, 17, 18, 19, 35] fun r13 hkeep => ?_
          obtain ⟨e0_13, e2_13, e4_13, e5_13, e7_13, e8_13, e17_13, e18_13, e19_13, e35_13, -⟩ := hkeep
          simp [go_sem, e0_12, e2_12, e4_12, e5_12, e7_12, e8_12, e17_12, e18_12, e19_12] at e0_13 e2_13 e4_13 e5_13 e7_13 e8_13 e17_13 e18_13 e19_13 e35_13
          clear e0_12 e2_12 e4_12 e5_12 e7_12 e8_12 e17_12 e18_12 e19_12
          refine Wp.condT (by go_simp) ?_
          refine Wp.exit ?_
          refine thenK_exit ?_
          refine blockK_here ?_
          refine thenK_normal ?_
          refine Wp.loneRegion (.inl rfl) (by kernel_rfl) fun K' gd hK hg => ?_
          clear hg
          go_simp
          refine hK _ _ ?_
          clear hK K' gd
          refine Ends.keep [0, 2, 4, 5, 17, 18, 19] fun r14 hkeep => ?_
          obtain ⟨e0_14, e2_14, e4_14, e5_14, e17_14, e18_14, e19_14, -⟩ := hkeep
          simp [go_sem, e0_13, e2_13, e4_13, e5_13, e7_13, e8_13, e17_13, e18_13, e19_13, e35_13] at e0_14 e2_14 e4_14 e5_14 e17_14 e18_14 e19_14
          clear e0_13 e2_13 e4_13 e5_13 e7_13 e8_13 e17_13 e18_13 e19_13 e35_13
          refine Ends.mk ?_
          refine thenK_normal ⟨by omega, ⟨by rw [e0_14, e0_4], by rw [e2_14, e2_4], by rw [e4_14, e4_4], by rw [e17_14, e17_4], by rw [e18_14, e18_4], trivial⟩, rfl, trivial, ?_⟩
          exact ⟨_, _, _, d, j, by rw [e19_14, IntWalk.i64_in _ (by omega)]; rfl, e5_14, hJE _ _ _ _ xo hJ, ⟨⟨c4_0, c4_1, c4_2⟩, f4, t4⟩, hdr⟩
        · skip
          rw [if_neg (by rw [hnx.choose_spec]; intro e; injection e with e1 e; injection e with e2 e3; exact hn ⟨e1, e2, e3⟩), hnx.choose_spec] at hdr
          have hif : ∀ (R1 R2 : Result Next) [Decidable (x2 = x → ¬ y2 = y)] [Decidable (z2 = z)], (if x2 = x → ¬ y2 = y then R1 else if z2 = z then R2 else R1) = R1 := fun R1 R2 _ _ => by split; rfl; split; (exact absurd ⟨Classical.byContradiction fun h1 => absurd (fun h2 => absurd h2 h1) ‹_›, Classical.byContradiction fun h1 => absurd (fun _ => h1) ‹_›, ‹_›⟩ hn); rfl
          refine Wp.seq ?_
          refine Wp.seqRegion (.inl rfl) (by kernel_rfl) fun K' gd hK hg => ?_
          clear hg
          go_simp
          refine hK _ _ ?_
          clear hK K' gd
          refine Wp.keep [0, 2, 4, 5, 7, 8, 17, 18, 19, 35] fun r15 hkeep => ?_
          obtain ⟨e0_15, e2_15, e4_15, e5_15, e7_15, e8_15, e17_15, e18_15, e19_15, e35_15, -⟩ := hkeep
          simp [go_sem, e0_12, e2_12, e4_12, e5_12, e7_12, e8_12, e17_12, e18_12, e19_12] at e0_15 e2_15 e4_15 e5_15 e7_15 e8_15 e17_15 e18_15 e19_15 e35_15
          clear e0_12 e2_12 e4_12 e5_12 e7_12 e8_12 e17_12 e18_12 e19_12
          refine Wp.condF (by go_simp) ?_
          by_cases hlt : d < s.alts[k].day
          · skip
            rw [if_pos hlt] at hdr
            obtain ⟨hj1, hj2⟩ := drop_next hdr
            obtain ⟨fn, tmps, as_, bo, hy, hR1⟩ := hY n4 j _ wk P5 hj1 hJ xo ⟨⟨c4_0, c4_1, c4_2⟩, f4, t4⟩
            simp only [encF] at hy
            refine Wp.skip ?_
            refine thenK_normal ?_
            refine Wp.seq ?_
            refine Wp.seqRegion (.inl rfl) (by kernel_rfl) fun K' gd hK hg => ?_
            have g4 : gd 4 = some 40 := hg 4
            clear hg
            refine Wops.cut 13 fun K1 hK1 => ?_
            simp only [List.take_succ_cons, List.take_zero]
            go_simp
            refine Wyield (hR1) ?_
            rintro e w1 (⟨rfl, ⟨hJ2, hC2, hKp⟩⟩ | ⟨rfl, hJx⟩)
            · refine ⟨_, rfl, ?_⟩
              clear f4
              replace f7 := fun i => (Held.frozen (i := i) hKp (by omega) c7_0).trans (f7 i)
              replace f8 := fun i => (Held.frozen (i := i) hKp (by omega) c8_0).trans (f8 i)
              clear t4
              clear xo
              clear c4_0
              clear c4_1
              clear c4_2
              clear ui
              clear u0
              clear u1
              clear u2
              clear u3
              clear u4
              clear u5
              replace c7_0 := Held.cell hKp (by omega) c7_0
              replace c7_1 := Held.cell hKp (by omega) c7_1
              replace c7_2 := Held.cell hKp (by omega) c7_2
              replace c7_3 := Held.cell hKp (by omega) c7_3
              replace c7_4 := Held.cell hKp (by omega) c7_4
              replace c7_5 := Held.cell hKp (by omega) c7_5
              replace c8_0 := Held.cell hKp (by omega) c8_0
              replace c8_1 := Held.cell hKp (by omega) c8_1
              replace c8_2 := Held.cell hKp (by omega) c8_2
              obtain ⟨⟨c4_0, c4_1, c4_2⟩, f4, t4⟩ := hC2
              dsimp only at c4_0 c4_1 c4_2
              go_simp
              refine hK1 _ _ ?_
              clear hK1 K1
              simp only [List.drop_succ_cons, List.drop_zero]
              go_simp
              refine hK _ _ ?_
              clear hK K' gd g4
              refine Wp.keep [0, 2, 4, 7, 8, 17, 18, 19, 50] fun r16 hkeep => ?_
              obtain ⟨e0_16, e2_16, e4_16, e7_16, e8_16, e17_16, e18_16, e19_16, e50_16, -⟩ := hkeep
              simp [go_sem, e0_15, e2_15, e4_15, e5_15, e7_15, e8_15, e17_15, e18_15, e19_15, e35_15] at e0_16 e2_16 e4_16 e7_16 e8_16 e17_16 e18_16 e19_16 e50_16
              clear e0_15 e2_15 e4_15 e5_15 e7_15 e8_15 e17_15 e18_15 e19_15 e35_15
              refine Wp.condF (by go_simp) ?_
              obtain ⟨hS1, hS2, k6⟩ := face_set (x2 := x2) (y2 := y2) (z2 := z2) (show FaceC w1 n4 (x, y, z) from ⟨⟨c4_0, c4_1, c4_2⟩, f4, t4⟩) c7_2 (show n7 ≠ n4 by omega)
              refine Wp.skip ?_
              refine thenK_normal ?_
              refine Wp.loneDrawT (.inl rfl) mixed (.rd [0] (.both (.act 1 false (.both (.act 2 false (.act 3 true (.act 4 true .done))) (.act 3 true (.act 2 false (.act 4 true .done))))) (.act 3 true (.act 1 false (.act 2 false (.act 4 true .done)))))) (by kernel_rfl) (fun ρ W => AllEq [0, 2, 4, 17, 18, 19] ρ r16 ∧ (ρ 5 = .int .i64 s.alts[k].day ∧ FaceC W n4 (x2, y2, z2) ∧ Chg [n4] w1 W)) (fun K' gd hK hg => ?_) ?_
              · skip
                clear hg
                simp only [pickT, nth, List.map_cons, List.map_nil]
                apply Mtree.reads
                · intro w' hE'
                  have hC' := hE'.cellsS
                  go_simp
                  with_reducible rfl
                repeat' first
                  | refine Mtree.two ?_ ?_
                  | (refine Mtree.fin ?_; refine hK _ _ ⟨by simp [AllEq, go_sem], ?_⟩; exact ⟨by go_simp, hS1, hS2⟩)
                  | (refine Mtree.stepT fun K1 hK1 => ?_; go_simp; refine hK1 _ _ ?_; clear hK1 K1)
                  | (refine Mtree.step fun K1 hK1 => ?_; go_simp; refine hK1 _ _ XA ?_; clear hK1 K1)
              · rintro r17 W ⟨hA, e5, hC3, xg⟩
                obtain ⟨e0_17, e2_17, e4_17, e17_17, e18_17, e19_17, -⟩ := hA
                rw [e0_16] at e0_17
                rw [e2_16] at e2_17
                rw [e4_16] at e4_17
                rw [e17_16] at e17_17
                rw [e18_16] at e18_17
                rw [e19_16] at e19_17
                clear e0_16 e2_16 e4_16 e7_16 e8_16 e17_16 e18_16 e19_16 e50_16
                refine Ends.mk ?_
                refine blockK_normal ?_
                refine thenK_normal ?_
                refine Wp.loneRegion (.inl rfl) (by kernel_rfl) fun K' gd hK hg => ?_
                clear hg
                go_simp
                refine hK _ _ ?_
                clear hK K' gd
                refine Ends.keep [0, 2, 4, 5, 17, 18, 19] fun r18 hkeep => ?_
                obtain ⟨e0_18, e2_18, e4_18, e5_18, e17_18, e18_18, e19_18, -⟩ := hkeep
                simp [go_sem, e0_17, e2_17, e4_17, e5, e17_17, e18_17, e19_17] at e0_18 e2_18 e4_18 e5_18 e17_18 e18_18 e19_18
                clear e0_17 e2_17 e4_17 e5 e17_17 e18_17 e19_17
                refine Ends.mk ?_
                refine thenK_normal ⟨by omega, ⟨by rw [e0_18, e0_4], by rw [e2_18, e2_4], by rw [e4_18, e4_4], by rw [e17_18, e17_4], by rw [e18_18, e18_4], trivial⟩, rfl, trivial, ?_⟩
                exact ⟨_, _, _, _, j + 1, by rw [e19_18, IntWalk.i64_in _ (by omega)]; rfl, e5_18, hJg _ _ _ _ xg hJ2, hC3, hj2⟩
            · refine ⟨_, rfl, ?_⟩
              clear f4
              clear f7
              clear f8
              clear t4
              clear xo
              clear c4_0
              clear c4_1
              clear c4_2
              clear ui
              clear u0
              clear u1
              clear u2
              clear u3
              clear u4
              clear u5
              clear c7_0
              clear c7_1
              clear c7_2
              clear c7_3
              clear c7_4
              clear c7_5
              clear c8_0
              clear c8_1
              clear c8_2
              go_simp
              refine hK1 _ _ ?_
              clear hK1 K1
              simp only [List.drop_succ_cons, List.drop_zero]
              go_simp
              refine hK _ _ ?_
              clear hK K' gd g4
              refine Wp.keep [0, 2, 4, 7, 8, 17, 18, 19, 50] fun r19 hkeep => ?_
              obtain ⟨e0_19, e2_19, e4_19, e7_19, e8_19, e17_19, e18_19, e19_19, e50_19, -⟩ := hkeep
              simp [go_sem, e0_15, e2_15, e4_15, e5_15, e7_15, e8_15, e17_15, e18_15, e19_15, e35_15] at e0_19 e2_19 e4_19 e7_19 e8_19 e17_19 e18_19 e19_19 e50_19
              clear e0_15 e2_15 e4_15 e5_15 e7_15 e8_15 e17_15 e18_15 e19_15 e35_15
              refine Wp.condT (by go_simp) ?_
              refine Wp.ret ?_
              refine thenK_ret ?_
              refine blockK_ret ?_
              refine thenK_ret ?_
              refine thenK_ret ?_
              refine blockK_ret ?_
              refine thenK_ret ?_
              refine endK_none Try.results126 ?_
              exact .inr hJx
          · skip
            rw [if_neg hlt] at hdr
            refine Wp.skip ?_
            refine thenK_normal ?_
            refine Wp.seq ?_
            refine Wp.seqRegion (.inl rfl) (by kernel_rfl) fun K' gd hK hg => ?_
            have g4 : gd 4 = some 40 := hg 4
            clear hg
            refine Wops.cut 13 fun K1 hK1 => ?_
            simp only [List.take_succ_cons, List.take_zero]
            go_simp
            refine hK1 _ _ ?_
            clear hK1 K1
            simp only [List.drop_succ_cons, List.drop_zero]
            go_simp
            refine hK _ _ ?_
            clear hK K' gd g4
            refine Wp.keep [0, 2, 4, 7, 8, 17, 18, 19, 50] fun r20 hkeep => ?_
            obtain ⟨e0_20, e2_20, e4_20, e7_20, e8_20, e17_20, e18_20, e19_20, e50_20, -⟩ := hkeep
            simp [go_sem, e0_15, e2_15, e4_15, e5_15, e7_15, e8_15, e17_15, e18_15, e19_15, e35_15] at e0_20 e2_20 e4_20 e7_20 e8_20 e17_20 e18_20 e19_20 e50_20
            clear e0_15 e2_15 e4_15 e5_15 e7_15 e8_15 e17_15 e18_15 e19_15 e35_15
            refine Wp.condF (by go_simp) ?_
            obtain ⟨hS1, hS2, k6⟩ := face_set (x2 := x2) (y2 := y2) (z2 := z2) (show FaceC P5 n4 (x, y, z) from ⟨⟨c4_0, c4_1, c4_2⟩, f4, t4⟩) c7_2 (show n7 ≠ n4 by omega)
            refine Wp.skip ?_
            refine thenK_normal ?_
            refine Wp.loneDrawT (.inl rfl) mixed (.rd [0] (.both (.act 1 false (.both (.act 2 false (.act 3 true (.act 4 true .done))) (.act 3 true (.act 2 false (.act 4 true .done))))) (.act 3 true (.act 1 false (.act 2 false (.act 4 true .done)))))) (by kernel_rfl) (fun ρ W => AllEq [0, 2, 4, 17, 18, 19] ρ r20 ∧ (ρ 5 = .int .i64 s.alts[k].day ∧ FaceC W n4 (x2, y2, z2) ∧ Chg [n4] P5 W)) (fun K' gd hK hg => ?_) ?_
            · skip
              clear hg
              simp only [pickT, nth, List.map_cons, List.map_nil]
              apply Mtree.reads
              · intro w' hE'
                have hC' := hE'.cellsS
                go_simp
                with_reducible rfl
              repeat' first
                | refine Mtree.two ?_ ?_
                | (refine Mtree.fin ?_; refine hK _ _ ⟨by simp [AllEq, go_sem], ?_⟩; exact ⟨by go_simp, hS1, hS2⟩)
                | (refine Mtree.stepT fun K1 hK1 => ?_; go_simp; refine hK1 _ _ ?_; clear hK1 K1)
                | (refine Mtree.step fun K1 hK1 => ?_; go_simp; refine hK1 _ _ XA ?_; clear hK1 K1)
            · rintro r21 W ⟨hA, e5, hC3, xg⟩
              obtain ⟨e0_21, e2_21, e4_21, e17_21, e18_21, e19_21, -⟩ := hA
              rw [e0_20] at e0_21
              rw [e2_20] at e2_21
              rw [e4_20] at e4_21
              rw [e17_20] at e17_21
              rw [e18_20] at e18_21
              rw [e19_20] at e19_21
              clear e0_20 e2_20 e4_20 e7_20 e8_20 e17_20 e18_20 e19_20 e50_20
              refine Ends.mk ?_
              refine blockK_normal ?_
              refine thenK_normal ?_
              refine Wp.loneRegion (.inl rfl) (by kernel_rfl) fun K' gd hK hg => ?_
              clear hg
              go_simp
              refine hK _ _ ?_
              clear hK K' gd
              refine Ends.keep [0, 2, 4, 5, 17, 18, 19] fun r22 hkeep => ?_
              obtain ⟨e0_22, e2_22, e4_22, e5_22, e17_22, e18_22, e19_22, -⟩ := hkeep
              simp [go_sem, e0_21, e2_21, e4_21, e5, e17_21, e18_21, e19_21] at e0_22 e2_22 e4_22 e5_22 e17_22 e18_22 e19_22
              clear e0_21 e2_21 e4_21 e5 e17_21 e18_21 e19_21
              refine Ends.mk ?_
              refine thenK_normal ⟨by omega, ⟨by rw [e0_22, e0_4], by rw [e2_22, e2_4], by rw [e4_22, e4_4], by rw [e17_22, e17_4], by rw [e18_22, e18_4], trivial⟩, rfl, trivial, ?_⟩
              exact ⟨_, _, _, _, j, by rw [e19_22, IntWalk.i64_in _ (by omega)]; rfl, e5_22, hJg _ _ _ _ xg (hJE _ _ _ _ xo hJ), hC3, hdr⟩
      · skip
        refine Wp.skip ?_
        refine thenK_normal ?_
        refine Wp.seq ?_
        refine Wp.block ?_
        refine Wp.seqRegion (.inl rfl) (by kernel_rfl) fun K' gd hK hg => ?_
        clear hg
        refine Wops.cut 4 fun K1 hK1 => ?_
        simp only [List.take_succ_cons, List.take_zero]
        go_simp
        refine hK1 _ _ ?_
        clear hK1 K1
        simp only [List.drop_succ_cons, List.drop_zero]
        refine Wops.absT fun V7_8 n7 hV7_8 R7 => ?_
        obtain ⟨q7, hV7_8, s7, kV7_8, f7, r7⟩ := hV7_8
        try simp only [q7] at kV7_8 f7 r7 ⊢
        replace R7 := (show RowC _ _ _ _ from R7)
        replace f4 := Ext.fz hV7_8 c4_0 f4
        replace t4 := t4.ext hV7_8
        replace xo := Ext.trans xo hV7_8
        replace c4_0 := Ext.cell hV7_8 c4_0
        replace c4_1 := Ext.cell hV7_8 c4_1
        replace c4_2 := Ext.cell hV7_8 c4_2
        replace ui := Ext.cell hV7_8 ui
        replace u0 := Ext.cell hV7_8 u0
        replace u1 := Ext.cell hV7_8 u1
        replace u2 := Ext.cell hV7_8 u2
        replace u3 := Ext.cell hV7_8 u3
        replace u4 := Ext.cell hV7_8 u4
        replace u5 := Ext.cell hV7_8 u5
        have c7_0 := kV7_8 0 _ rfl
        have c7_1 := kV7_8 1 _ rfl
        have c7_2 := kV7_8 2 _ rfl
        have c7_3 := kV7_8 3 _ rfl
        have c7_4 := kV7_8 4 _ rfl
        have c7_5 := kV7_8 5 _ rfl
        clear kV7_8 hV7_8
        clear r7
        try simp only [Wops_nil, updO_some, updO_none]
        refine hK _ _ ?_
        clear hK K' gd
        refine Wp.keep [0, 2, 4, 5, 7, 17, 18, 19] fun r23 hkeep => ?_
        obtain ⟨e0_23, e2_23, e4_23, e5_23, e7_23, e17_23, e18_23, e19_23, -⟩ := hkeep
        simp [go_sem, e0_6, e2_6, e4_6, e5_6, e17_6, e18_6, e19_6, e20_6] at e0_23 e2_23 e4_23 e5_23 e7_23 e17_23 e18_23 e19_23
        clear e0_6 e2_6 e4_6 e5_6 e17_6 e18_6 e19_6 e20_6
        refine Wp.seqRegion (.inl rfl) (by kernel_rfl) fun K' gd hK hg => ?_
        clear hg
        refine Wops.cut 3 fun K1 hK1 => ?_
        simp only [List.take_succ_cons, List.take_zero]
        go_simp
        refine hK1 _ _ ?_
        clear hK1 K1
        simp only [List.drop_succ_cons, List.drop_zero]
        refine Wops.absT fun V8_9 n8 hV8_9 R8 => ?_
        obtain ⟨q8, hV8_9, s8, kV8_9, f8, r8⟩ := hV8_9
        try simp only [q8] at kV8_9 f8 r8 ⊢
        replace R8 := (show RowC _ _ _ _ from R8)
        replace f4 := Ext.fz hV8_9 c4_0 f4
        replace f7 := Ext.fz hV8_9 c7_0 f7
        replace t4 := t4.ext hV8_9
        replace xo := Ext.trans xo hV8_9
        replace c4_0 := Ext.cell hV8_9 c4_0
        replace c4_1 := Ext.cell hV8_9 c4_1
        replace c4_2 := Ext.cell hV8_9 c4_2
        replace ui := Ext.cell hV8_9 ui
        replace u0 := Ext.cell hV8_9 u0
        replace u1 := Ext.cell hV8_9 u1
        replace u2 := Ext.cell hV8_9 u2
        replace u3 := Ext.cell hV8_9 u3
        replace u4 := Ext.cell hV8_9 u4
        replace u5 := Ext.cell hV8_9 u5
        replace c7_0 := Ext.cell hV8_9 c7_0
        replace c7_1 := Ext.cell hV8_9 c7_1
        replace c7_2 := Ext.cell hV8_9 c7_2
        replace c7_3 := Ext.cell hV8_9 c7_3
        replace c7_4 := Ext.cell hV8_9 c7_4
        replace c7_5 := Ext.cell hV8_9 c7_5
        have c8_0 := kV8_9 0 _ rfl
        have c8_1 := kV8_9 1 _ rfl
        have c8_2 := kV8_9 2 _ rfl
        clear kV8_9 hV8_9
        clear r8
        try simp only [Wops_nil, updO_some, updO_none]
        refine hK _ _ ?_
        clear hK K' gd
        refine Wp.keep [0, 2, 4, 5, 7, 8, 17, 18, 19] fun r24 hkeep => ?_
        obtain ⟨e0_24, e2_24, e4_24, e5_24, e7_24, e8_24, e17_24, e18_24, e19_24, -⟩ := hkeep
        simp [go_sem, e0_23, e2_23, e4_23, e5_23, e7_23, e17_23, e18_23, e19_23] at e0_24 e2_24 e4_24 e5_24 e7_24 e8_24 e17_24 e18_24 e19_24
        clear e0_23 e2_23 e4_23 e5_23 e7_23 e17_23 e18_23 e19_23
        refine Wp.seq ?_
        refine Wp.seqRegion (.inl rfl) (by kernel_rfl) fun K' gd hK hg => ?_
        clear hg
        refine Wops.cut 6 fun K1 hK1 => ?_
        simp only [List.take_succ_cons, List.take_zero]
        go_simp
        refine Wcall (.inl rfl) (within_F hh _) ?_
        rintro v w4 ⟨rfl, hE⟩
        go_simp
        refine hK1 _ _ ?_
        clear hK1 K1
        simp only [List.drop_succ_cons, List.drop_zero]
        have z25 := Below.size hE
        replace f4 := Ext.fz hE c4_0 f4
        replace f7 := Ext.fz hE c7_0 f7
        replace f8 := Ext.fz hE c8_0 f8
        replace t4 := t4.ext hE
        replace xo := Ext.trans xo hE
        replace c4_0 := Ext.cell hE c4_0
        replace c4_1 := Ext.cell hE c4_1
        replace c4_2 := Ext.cell hE c4_2
        replace ui := Ext.cell hE ui
        replace u0 := Ext.cell hE u0
        replace u1 := Ext.cell hE u1
        replace u2 := Ext.cell hE u2
        replace u3 := Ext.cell hE u3
        replace u4 := Ext.cell hE u4
        replace u5 := Ext.cell hE u5
        replace c7_0 := Ext.cell hE c7_0
        replace c7_1 := Ext.cell hE c7_1
        replace c7_2 := Ext.cell hE c7_2
        replace c7_3 := Ext.cell hE c7_3
        replace c7_4 := Ext.cell hE c7_4
        replace c7_5 := Ext.cell hE c7_5
        replace c8_0 := Ext.cell hE c8_0
        replace c8_1 := Ext.cell hE c8_1
        replace c8_2 := Ext.cell hE c8_2
        clear hE
        try simp only [Wops_nil, updO_some, updO_none]
        refine hK _ _ ?_
        clear hK K' gd
        refine Wp.keep [0, 2, 4, 5, 7, 8, 17, 18, 19, 29] fun r26 hkeep => ?_
        obtain ⟨e0_26, e2_26, e4_26, e5_26, e7_26, e8_26, e17_26, e18_26, e19_26, e29_26, -⟩ := hkeep
        simp [go_sem, e0_24, e2_24, e4_24, e5_24, e7_24, e8_24, e17_24, e18_24, e19_24] at e0_26 e2_26 e4_26 e5_26 e7_26 e8_26 e17_26 e18_26 e19_26 e29_26
        clear e0_24 e2_24 e4_24 e5_24 e7_24 e8_24 e17_24 e18_24 e19_24
        refine Wp.condF (by go_simp) ?_
        refine Wp.skip ?_
        refine thenK_normal ?_
        refine Wp.seq ?_
        refine Wp.seqRegion (.inl rfl) (by kernel_rfl) fun K' gd hK hg => ?_
        clear hg
        go_simp
        refine hK _ _ ?_
        clear hK K' gd
        refine Wp.keep [0, 2, 4, 5, 7, 8, 17, 18, 19, 35] fun r27 hkeep => ?_
        obtain ⟨e0_27, e2_27, e4_27, e5_27, e7_27, e8_27, e17_27, e18_27, e19_27, e35_27, -⟩ := hkeep
        simp [go_sem, e0_26, e2_26, e4_26, e5_26, e7_26, e8_26, e17_26, e18_26, e19_26, e29_26] at e0_27 e2_27 e4_27 e5_27 e7_27 e8_27 e17_27 e18_27 e19_27 e35_27
        clear e0_26 e2_26 e4_26 e5_26 e7_26 e8_26 e17_26 e18_26 e19_26 e29_26
        refine Wp.condT (by go_simp) ?_
        refine Wp.exit ?_
        refine thenK_exit ?_
        refine blockK_here ?_
        refine thenK_normal ?_
        refine Wp.loneRegion (.inl rfl) (by kernel_rfl) fun K' gd hK hg => ?_
        clear hg
        go_simp
        refine hK _ _ ?_
        clear hK K' gd
        refine Ends.keep [0, 2, 4, 5, 17, 18, 19] fun r28 hkeep => ?_
        obtain ⟨e0_28, e2_28, e4_28, e5_28, e17_28, e18_28, e19_28, -⟩ := hkeep
        simp [go_sem, e0_27, e2_27, e4_27, e5_27, e7_27, e8_27, e17_27, e18_27, e19_27, e35_27] at e0_28 e2_28 e4_28 e5_28 e17_28 e18_28 e19_28
        clear e0_27 e2_27 e4_27 e5_27 e7_27 e8_27 e17_27 e18_27 e19_27 e35_27
        refine Ends.mk ?_
        refine thenK_normal ⟨by omega, ⟨by rw [e0_28, e0_4], by rw [e2_28, e2_4], by rw [e4_28, e4_4], by rw [e17_28, e17_4], by rw [e18_28, e18_4], trivial⟩, rfl, trivial, ?_⟩
        exact ⟨_, _, _, d, j, by rw [e19_28, IntWalk.i64_in _ (by omega)]; rfl, e5_28, hJE _ _ _ _ xo hJ, ⟨⟨c4_0, c4_1, c4_2⟩, f4, t4⟩, by rw [hdr, if_pos (by unfold nxt; rw [if_neg hh])]⟩
    · refine Wp.condF (by go_simp) ?_
      obtain rfl : k = s.alts.length := by omega
      rw [List.drop_length, facesL] at hdr
      obtain ⟨⟨c4_0, c4_1, c4_2⟩, f4, t4⟩ := hC
      dsimp only at c4_0 c4_1 c4_2
      obtain ⟨hj1, hj2⟩ := drop_next hdr
      obtain ⟨fn, tmps, as_, bo, hy, hR1⟩ := hY n4 j _ wk wk hj1 hJ xo ⟨⟨c4_0, c4_1, c4_2⟩, f4, t4⟩
      simp only [encF] at hy
      refine Wp.exit ?_
      refine thenK_exit ?_
      refine thenK_exit ?_
      refine blockK_here ?_
      refine thenK_normal ?_
      refine Wp.loneRegion (.inl rfl) (by kernel_rfl) fun K' gd hK hg => ?_
      clear hg
      refine Wops.cut 5 fun K1 hK1 => ?_
      simp only [List.take_succ_cons, List.take_zero]
      go_simp
      refine Wyield (hR1) ?_
      rintro e w1 (⟨rfl, ⟨hJ2, hC2, hKp⟩⟩ | ⟨rfl, hJx⟩)
      · refine ⟨_, rfl, ?_⟩
        clear f4
        clear xo
        clear c4_0
        clear c4_1
        clear c4_2
        clear t4
        have hz1 := (List.getElem?_eq_some_iff.1 hj1).1
        have hz2 : (s.faces i).length = j + 1 := by have := congrArg List.length hj2; rw [List.length_drop] at this; simp at this; omega
        go_simp
        refine hK1 _ _ ?_
        clear hK1 K1
        simp only [List.drop_succ_cons, List.drop_zero]
        try simp only [Wops_nil, updO_some, updO_none]
        refine hK _ _ ?_
        clear hK K' gd
        refine Ends.keep [] fun r29 hkeep => ?_
        clear hkeep
        clear e0_6 e2_6 e4_6 e5_6 e17_6 e18_6 e19_6 e20_6
        refine Ends.mk ?_
        refine endN_none Try.results126 ?_
        exact .inl ⟨n4, by rw [hz2]; exact hJ2⟩
      · refine ⟨_, rfl, ?_⟩
        clear f4
        clear xo
        clear c4_0
        clear c4_1
        clear c4_2
        clear t4
        go_simp
        refine hK1 _ _ ?_
        clear hK1 K1
        simp only [List.drop_succ_cons, List.drop_zero]
        try simp only [Wops_nil, updO_some, updO_none]
        refine hK _ _ ?_
        clear hK K' gd
        refine Ends.keep [] fun r30 hkeep => ?_
        clear hkeep
        clear e0_6 e2_6 e4_6 e5_6 e17_6 e18_6 e19_6 e20_6
        refine Ends.mk ?_
        refine endN_none Try.results126 ?_
        exact .inr hJx
end Go.Proofs.Ytnjajbkkgfohaaa
namespace Go.Proofs.Ytnjajbkkgfohaaa

def Cp.W (c : Cp) (i : Nat) : Int := c.words[i]?.getD 0
structure Md where
  c : Cp
  tab : List (List (Int × Int))
def Md.n (m : Md) : Nat := m.c.words.length
def Md.T (m : Md) (i : Nat) : List (Int × Int) := m.tab[i]?.getD []
def Md.nx (m : Md) (i : Nat) (day : Int) : Int := nextS (m.T i) m.c.e day
def Md.bf (m : Md) (i : Nat) (day : Int) : Int := befS (m.T i) m.c.b day
def Md.first (m : Md) : List Int := firstGo m.nx m.c.b m.c.p.toNat m.n
def Md.last (m : Md) : List Int := lastGo m.bf m.c.e m.c.p.toNat m.n m.n
def Md.ok (m : Md) : Bool := !decide (m.first.getLast? = some 731)
def Md.can (m : Md) (i : Nat) (d : Int) : Prop := inside (m.T i) d
def Md.Fit (m : Md) (ds : Nat → Int) : Prop := FitP m.can m.c.b m.c.e m.c.p.toNat m.n ds
structure MdOk (m : Md) : Prop where
  n1 : 1 ≤ m.n
  n2 : m.n ≤ 40
  len : m.tab.length = m.n
  sp : ∀ i, SpansTo 730 (m.T i)
  lo : ∀ i, ∀ x ∈ m.T i, 0 ≤ x.1
  many : ∀ i, (m.T i).length ≤ 1000
  b0 : 0 ≤ m.c.b
  be : m.c.b ≤ m.c.e
  e7 : m.c.e ≤ 730
  p1 : 1 ≤ m.c.p
  p2 : m.c.p ≤ 40
theorem FitP.gI_congr {can : Nat → Int → Prop} {b e : Int} {p m : Nat} {k l : List Int} (h : FitP can b e p m (gI k)) (he : ∀ i, i < m → gI l i = gI k i) : FitP can b e p m (gI l) := h.congr he
theorem list_gI {l k : List Int} (h : l.length = k.length) (hg : ∀ i, i < l.length → gI l i = gI k i) : l = k := by
  apply List.ext_getElem h
  intro i h1 h2
  have := hg i h1
  unfold gI at this
  rw [List.getElem?_eq_getElem h1, List.getElem?_eq_getElem h2] at this
  exact this
theorem gI_lt {l : List Int} {i : Nat} (h : i < l.length) : gI l i = l[i] := by unfold gI; rw [List.getElem?_eq_getElem h]; rfl
theorem gI_mem {l : List Int} {i : Nat} (h : i < l.length) : gI l i ∈ l := by rw [gI_lt h]; exact List.getElem_mem h
namespace MdOk
variable {m : Md}
theorem nxIs (h : MdOk m) (i : Nat) (day : Int) : NextIs (m.can i) m.c.e day (m.nx i day) := next_is (h.sp i) h.e7
theorem bfIs (h : MdOk m) (i : Nat) (day : Int) : BefIs (m.can i) m.c.b day (m.bf i day) := bef_is (h.sp i) h.b0
theorem pp (h : MdOk m) : 1 ≤ m.c.p.toNat := by have := h.p1; omega
/-- there are days that fit: the earliest ones -/
theorem first_fit (h : MdOk m) {ds : Nat → Int} (hd : m.Fit ds) : m.first.length = m.n ∧ (∀ x ∈ m.first, x ≠ 731) ∧ m.Fit (gI m.first) ∧ ∀ ds, m.Fit ds → ∀ i, i < m.n → gI m.first i ≤ ds i :=
  first_ok h.pp h.e7 (fun i day _ => h.nxIs i day) hd
theorem ok_of (h : MdOk m) {ds : Nat → Int} (hd : m.Fit ds) : m.ok = true := by
  obtain ⟨h1, h2, -⟩ := h.first_fit hd
  unfold Md.ok
  rw [decide_eq_false]; rfl
  exact fun e => h2 731 (List.mem_of_getLast? e) rfl
theorem of_ok (h : MdOk m) (hk : m.ok = true) : m.first.length = m.n ∧ (∀ x ∈ m.first, x ≠ 731) ∧ m.Fit (gI m.first) ∧ ∀ ds, m.Fit ds → ∀ i, i < m.n → gI m.first i ≤ ds i := by
  rcases first_is (b := m.c.b) h.pp h.e7 m.n (fun i day _ => h.nxIs i day) with h1 | ⟨j, h1, h2, h3, h4, h5⟩
  · exact h1
  · exfalso
    unfold Md.ok Md.first at hk
    rw [h2] at hk
    simp at hk
theorem not_ok (h : MdOk m) (hk : m.ok = false) : ∃ j, j < m.n ∧ m.first = firstGo m.nx m.c.b m.c.p.toNat j ++ [731] ∧ (firstGo m.nx m.c.b m.c.p.toNat j).length = j ∧ (∀ x ∈ firstGo m.nx m.c.b m.c.p.toNat j, x ≠ 731) ∧
    ∀ ds, ¬ FitP m.can m.c.b m.c.e m.c.p.toNat (j + 1) ds := by
  rcases first_is (b := m.c.b) h.pp h.e7 m.n (fun i day _ => h.nxIs i day) with h1 | h1
  · exfalso
    have := h.ok_of (ds := gI m.first) h1.2.2.1
    rw [hk] at this; cases this
  · exact h1
theorem no_fit (h : MdOk m) (hk : m.ok = false) (ds : Nat → Int) : ¬ m.Fit ds := fun hd => by
  have := h.ok_of hd
  rw [hk] at this; cases this
theorem last_fit (h : MdOk m) (hk : m.ok = true) : m.last.length = m.n ∧ m.Fit (gI m.last) ∧ ∀ ds, m.Fit ds → ∀ i, i < m.n → ds i ≤ gI m.last i :=
  last_ok h.pp h.b0 (fun i day _ => h.bfIs i day) (h.of_ok hk).2.2.1
end MdOk
/-- the copy of a sheet -/
def Sh.tab (s : Sh) (c : Cp) : List (List (Int × Int)) := (List.range c.words.length).map fun i => s.whenL i (c.W i)
def Sh.md (s : Sh) (c : Cp) : Md := ⟨c, s.tab c⟩
theorem Sh.md_T {s : Sh} {c : Cp} {i : Nat} (h : i < c.words.length) : (s.md c).T i = s.whenL i (c.W i) := by
  unfold Sh.md Md.T Sh.tab; simp [h]
theorem Sh.md_T_none {s : Sh} {c : Cp} {i : Nat} (h : c.words.length ≤ i) : (s.md c).T i = [] := by
  unfold Sh.md Md.T Sh.tab; rw [List.getElem?_eq_none (by simpa using h)]; rfl
theorem addS_len (out : List (Int × Int)) (lo hi : Int) : (addS out lo hi).length ≤ out.length + 1 := by
  rcases List.eq_nil_or_concat out with rfl | ⟨l, s, rfl⟩
  · simp [addS]
  · simp only [List.concat_eq_append, addS_snoc]; split <;> simp
theorem whenF_len (w : Int) : ∀ (l : List (Int × Int × Face)) (out : List (Int × Int)), (whenF w l out).length ≤ out.length + l.length
  | [], out => by simp [whenF]
  | x :: l, out => by
    have ih := whenF_len w l (if rds x.2.2 w = true then addS out x.1 x.2.1 else out)
    have ha := addS_len out x.1 x.2.1
    have e : whenF w (x :: l) out = whenF w l (if rds x.2.2 w = true then addS out x.1 x.2.1 else out) := rfl
    rw [e, List.length_cons]
    split at ih <;> rename_i hr <;> simp only [hr, if_true, Bool.false_eq_true, if_false] <;> omega
theorem faces_len (i : Int) : ∀ (l : List Alt) (f : Face) (d : Int), (facesL i l f d).length ≤ l.length + 1
  | [], _, _ => by simp [facesL]
  | a :: l, f, d => by
    unfold facesL
    have h1 := faces_len i l f d
    have h2 := faces_len i l (nxt i f a) a.day
    split
    · simp; omega
    · split <;> simp <;> omega
theorem Sh.when_len (s : Sh) (i : Nat) (w : Int) : (s.whenL i w).length ≤ s.alts.length + 1 := by
  have h1 := whenF_len w (s.faces i) []
  have h2 := faces_len i s.alts (s.W i, 0, false) 0
  unfold Sh.whenL; unfold Sh.faces at *
  simp at h1; omega
theorem Sh.md_can {s : Sh} (hs : SortA 0 s.alts) {c : Cp} {i : Nat} (h : i < c.words.length) (d : Int) : (s.md c).can i d ↔ 0 ≤ d ∧ d ≤ 730 ∧ s.can i d (c.W i) = true := by
  unfold Md.can
  rw [Sh.md_T h]; exact (Sh.when_spans hs i _).2 d
theorem Good.mdOk {s : Sh} (g : Good s) {c : Cp} (h : ValidC s c) : MdOk (s.md c) := by
  obtain ⟨h1, h2, h3, h4, h5⟩ := h
  have sp : ∀ i, SpansTo 730 ((s.md c).T i) ∧ (∀ d, inside ((s.md c).T i) d → 0 ≤ d) ∧ ((s.md c).T i).length ≤ 1000 := fun i => by
    rcases Nat.lt_or_ge i c.words.length with hi | hi
    · rw [Sh.md_T hi]
      obtain ⟨k1, k2⟩ := Sh.when_spans g.sorted i (c.W i)
      exact ⟨k1, fun d hd => ((k2 d).1 hd).1, by have := Sh.when_len s i (c.W i); have := g.m2; omega⟩
    · rw [Sh.md_T_none hi]
      exact ⟨⟨by simp, by simp⟩, by simp [inside], by simp⟩
  refine ⟨?_, ?_, ?_, fun i => (sp i).1, fun i x hx => (sp i).2.1 x.1 ⟨x, hx, Int.le_refl _, ((sp i).1.1 x hx).1⟩, fun i => (sp i).2.2, h3.1, h3.2, h4, h5.1, h5.2⟩
  · show 1 ≤ c.words.length; rw [h1]; exact g.n1
  · show c.words.length ≤ 40; rw [h1]; exact g.n2
  · simp [Sh.md, Sh.tab, Md.n]
/-- what fits -/
theorem Sh.fit_iff {s : Sh} (hs : SortA 0 s.alts) {c : Cp} (hb : 0 ≤ c.b) (he : c.e ≤ 730) (ds : Nat → Int) : (s.md c).Fit ds ↔ FitP (fun i d => s.can i d (c.W i) = true) c.b c.e c.p.toNat c.words.length ds := by
  constructor
  · intro h i hi
    obtain ⟨h1, h2, h3, h4⟩ := h i hi
    exact ⟨h1, h2, ((Sh.md_can hs hi _).1 h3).2.2, h4⟩
  · intro h i hi
    obtain ⟨h1, h2, h3, h4⟩ := h i hi
    exact ⟨h1, h2, (Sh.md_can hs hi _).2 ⟨by omega, by omega, h3⟩, h4⟩
end Go.Proofs.Ytnjajbkkgfohaaa
namespace Go.Proofs.Ytnjajbkkgfohaaa
open Go.RowKit Go.Wk Go.Proofs

theorem app_run2 {P : Program} {t e : TypeId} {size : Nat} (T : ElemT P t e size) {w : World} {base : Nat} {v : Value} {n : Nat} {xs : List Value} (hown : w.ownsRow base e size v n xs)
    (a : Addr) (m c : Nat) (news : List Value) (ty : TypeId) (hl : news.length = m * size) (hnews : ∀ j u, news[j]? = some u → w.cell? (a.add j) = some u) (h1 : ∀ u ∈ news, u.oneCell' = true)
    (hn : n + m ≤ 10000000000) (hbase : base ≤ w.heap.size) :
    ∃ v' w', (Builtin.append_ #[t, t] ty #[v, .slice (some a) m c]).run P w = .ok v' w' ∧ w'.ownsRow base e size v' (n + m) (xs ++ news) ∧ w.grownBy w' v.ownBlock ∧
      (v'.ownBlock = v.ownBlock ∨ v'.ownBlock = some w.heap.size) := by
  obtain ⟨i, z, h1', h2, h3, h4, h5, h6, h7⟩ := T.ex
  obtain ⟨v', w', hr, ho, hg, hnil⟩ := app_run T hown a m c news ty hl hnews h1 hn hbase
  refine ⟨v', w', hr, ho, hg, ?_⟩
  have hb : (n + m) * i.bytes ≤ 140737488355328 := Nat.le_trans (Nat.mul_le_mul hn h7) (by decide)
  rcases hown.2 with ⟨rfl, rfl⟩ | ⟨g, cap, cur, rfl, hbg, hgc, hnc, hcm, hcs, htake⟩
  · by_cases hm : m = 0
    · subst hm
      exact .inl (by rw [hnil.2 ⟨rfl, rfl⟩])
    · have hx := run_append_nil (P := P) w t ty e i z h1' h2 h3 a m c news (by rw [h4]; exact hl) hnews (by omega) (by omega) (by simp only [Nat.zero_add] at hb; omega)
      rw [hr] at hx
      injection hx with hx _
      right; rw [hx]; rfl
  · by_cases hroom : n + m ≤ cap
    · have hfit : n * i.size + news.length ≤ cur.size := by rw [hl, hcs, h4, ← Nat.add_mul]; exact Nat.mul_le_mul_right _ hroom
      have hx := run_append_room (P := P) w t ty e i h1' h2 g n cap cur hgc a m c news (by rw [h4]; exact hl) hnews h1 hroom hfit
      rw [hr] at hx
      injection hx with hx _
      left; rw [hx]; rfl
    · have holds : ∀ j u, xs[j]? = some u → w.cell? ((⟨g, 0, none⟩ : Addr).add j) = some u := hown.cells (g := g) rfl
      have hx := run_append_grow (P := P) w t ty e i z h1' h2 h3 ⟨g, 0, none⟩ n cap xs (by rw [h4]; exact hown.1) holds a m c news (by rw [h4]; exact hl) hnews (by omega) (by omega) (growslice_fits (by omega) hb)
      rw [hr] at hx
      injection hx with hx _
      right; rw [hx]; rfl
/-- a row of our own: its block is not g, nor one from lo to hi -/
structure OutG (w : World) (base g lo hi : Nat) (e : TypeId) (size : Nat) (v : Value) (n : Nat) (xs : List Value) : Prop where
  own : w.ownsRow base e size v n xs
  off : ∀ k, v.ownBlock = some k → k ≠ g ∧ (k < lo ∨ hi ≤ k)
theorem ownsRow_chg {w w' : World} {base e size n : Nat} {v : Value} {xs : List Value} {L : List Nat} (h : w.ownsRow base e size v n xs) (hC : Chg L w w') (hL : ∀ b, v.ownBlock = some b → b ∉ L) : w'.ownsRow base e size v n xs := by
  refine ⟨h.1, ?_⟩
  rcases h.2 with hn | ⟨g, cap, cur, rfl, hb, hg, rest⟩
  · exact .inl hn
  · exact .inr ⟨g, cap, cur, rfl, hb, (hC.block g (Array.getElem?_eq_some_iff.1 hg).1 (hL g rfl)).trans hg, rest⟩
section
variable {w w' : World} {base g lo hi : Nat} {e : TypeId} {size n : Nat} {v : Value} {xs : List Value}
theorem OutG.lt (h : OutG w base g lo hi e size v n xs) : ∀ k, v.ownBlock = some k → base ≤ k ∧ k < w.heap.size ∧ k ≠ g ∧ (k < lo ∨ hi ≤ k) := fun k hk => ⟨(h.own.lt k hk).1, (h.own.lt k hk).2, h.off k hk⟩
theorem OutG.ext (h : OutG w base g lo hi e size v n xs) (hE : Ext w w') : OutG w' base g lo hi e size v n xs := ⟨ownsRow_ext h.own hE, h.off⟩
theorem OutG.adm {m : Nat} (h : OutG w base g lo hi e size v n xs) (hE : Adm m w w') : OutG w' base g lo hi e size v n xs := ⟨ownsRow_adm h.own hE, h.off⟩
theorem OutG.chg {L : List Nat} (h : OutG w base g lo hi e size v n xs) (hC : Chg L w w') (hL : ∀ b, base ≤ b ∧ b ≠ g ∧ (b < lo ∨ hi ≤ b) → b ∉ L) : OutG w' base g lo hi e size v n xs :=
  ⟨ownsRow_chg h.own hC fun b hb => hL b ⟨(h.own.lt b hb).1, h.off b hb⟩, h.off⟩
theorem OutG.put {b i : Nat} {vs : List Value} (h : OutG w base g lo hi e size v n xs) (p : Put w w' b i vs) (hb : b < base ∨ b = g ∨ lo ≤ b ∧ b < hi) : OutG w' base g lo hi e size v n xs :=
  h.chg p.chg fun k hk => by simp; omega
theorem OutG.free (h : OutG w base g lo hi e size v n xs) : OutG w base g 0 0 e size v n xs := ⟨h.own, fun k hk => ⟨(h.off k hk).1, .inr (Nat.zero_le _)⟩⟩
/-- all its blocks lie below lo -/
theorem OutG.below {l h' : Nat} (h : OutG w base g lo hi e size v n xs) (hl : w.heap.size ≤ l) : OutG w base g l h' e size v n xs := ⟨h.own, fun k hk => ⟨(h.off k hk).1, .inl (Nat.lt_of_lt_of_le (h.own.lt k hk).2 hl)⟩⟩
theorem OutG.lohi {a b l h' : Nat} (h : OutG w base g a b e size v n xs) (hl : ∀ k, v.ownBlock = some k → k < l) : OutG w base g l h' e size v n xs := ⟨h.own, fun k hk => ⟨(h.off k hk).1, .inl (hl k hk)⟩⟩
theorem OutG.nil (w : World) (base g lo hi : Nat) (e : TypeId) (size : Nat) : OutG w base g lo hi e size (.slice none 0 0) 0 [] := ⟨World.ownsRow_nil _ _ _ _, fun k hk => by cases hk⟩
theorem OutG.hi' {hi2 : Nat} (h : OutG w base g lo hi e size v n xs) (hw : w.heap.size ≤ lo) : OutG w base g lo hi2 e size v n xs := h.below hw
theorem OutG.app {P : Program} {t : TypeId} (T : ElemT P t e size) (h : OutG w base g lo hi e size v n xs)
    (a : Addr) (m c : Nat) (news : List Value) (ty : TypeId) (hl : news.length = m * size) (hnews : ∀ j u, news[j]? = some u → w.cell? (a.add j) = some u) (h1 : ∀ u ∈ news, u.oneCell' = true)
    (hn : n + m ≤ 10000000000) (hbase : base ≤ w.heap.size) (hg : g < w.heap.size) (hhi : hi ≤ w.heap.size) :
    ∃ v' w', (Builtin.append_ #[t, t] ty #[v, .slice (some a) m c]).run P w = .ok v' w' ∧ OutG w' base g lo hi e size v' (n + m) (xs ++ news) ∧ w.grownBy w' v.ownBlock := by
  obtain ⟨v', w', h1', h2, h3, h4⟩ := app_run2 T h.own a m c news ty hl hnews h1 hn hbase
  refine ⟨v', w', h1', ⟨h2, fun k hk => ?_⟩, h3⟩
  rcases h4 with h4 | h4
  · exact h.off k (h4 ▸ hk)
  · rw [h4] at hk; injection hk with hk; omega
end
theorem ownsRow_slice {w : World} {base e size n : Nat} {v : Value} {xs : List Value} (h : w.ownsRow base e size v n xs) : ∃ A c, v = .slice A n c := by
  rcases h.2 with ⟨rfl, rfl⟩ | ⟨g, cap, cur, rfl, -⟩
  · exact ⟨none, 0, rfl⟩
  · exact ⟨_, _, rfl⟩
theorem q_off {row : Option Nat} {base T g lo hi b : Nat} (q : ∀ k, row = some k → base ≤ k ∧ k < T ∧ k ≠ g ∧ (k < lo ∨ hi ≤ k)) (h : b < base ∨ T ≤ b ∨ b = g ∨ lo ≤ b ∧ b < hi) : b ∉ row.toList := fun hm => by
  have := q b (by simpa using hm); omega
theorem q_ge {row : Option Nat} {base T g lo hi X : Nat} (q : ∀ k, row = some k → base ≤ k ∧ k < T ∧ k ≠ g ∧ (k < lo ∨ hi ≤ k)) (h : X ≤ base) : ∀ b ∈ row.toList, X ≤ b := fun b hm => by
  have := q b (by simpa using hm); omega
theorem q_gm {row : Option Nat} {base T g lo hi X : Nat} {L : List Nat} (q : ∀ k, row = some k → base ≤ k ∧ k < T ∧ k ≠ g ∧ (k < lo ∨ hi ≤ k)) (h : X ≤ base) : ∀ b ∈ row.toList, X ≤ b ∨ b ∈ L := fun b hm => .inl (q_ge q h b hm)
section
variable {A B C : World}
theorem keep_ext (h : KeepsOthers A B) (hE : Ext B C) : KeepsOthers A C := h.trans (KeepsOthers.of_ext hE)
theorem setL_others (b : Nat) : ∀ (vs : List Value) (w : World) (i k : Nat) (o : Obj), w.heap[k]? = some o → o.isCells = false → (setL w b i vs).heap[k]? = some o
  | [], _, _, _, _, h, _ => h
  | v :: vs, w, i, k, o, h, ho => by
    refine setL_others b vs _ (i + 1) k o ?_ ho
    unfold World.setCell
    dsimp only
    rw [Array.getElem?_modify]
    split
    · rename_i e
      rw [e, h]
      cases o <;> first | rfl | (simp [Obj.isCells] at ho)
    · exact h
theorem keep_put {b i : Nat} {vs : List Value} (h : KeepsOthers A B) (p : Put B C b i vs) : KeepsOthers A C :=
  ⟨Nat.le_trans h.size p.chg.size, fun k o hk ho => by rw [p.eq]; exact setL_others b vs B i k o (h.same k o hk ho) ho⟩
theorem keep_grown {base e size n : Nat} {v : Value} {xs : List Value} (h : KeepsOthers A B) (ho : B.ownsRow base e size v n xs) (hg : B.grownBy C v.ownBlock) : KeepsOthers A C :=
  ⟨Nat.le_trans h.size hg.size, fun k o hk hc => by
    have h1 := h.same k o hk hc
    refine (hg.block k (Array.getElem?_eq_some_iff.1 h1).1 fun e => ?_).trans h1
    rcases ho.2 with ⟨rfl, -⟩ | ⟨g, cap, cur, rfl, -, hgc, -⟩
    · cases e
    · injection e with e
      replace e : g = k := e.symm
      subst e
      rw [h1] at hgc; injection hgc with hgc; subst hgc; cases hc⟩
/-- what a round keeps -/
structure KeepR (A B : World) : Prop where
  k : KeepsOthers A B
theorem KeepR.ext (h : KeepR A B) (hE : Ext B C) : KeepR A C := ⟨keep_ext h.k hE⟩
theorem KeepR.put {b i : Nat} {vs : List Value} (h : KeepR A B) (p : Put B C b i vs) (_ : 0 = 0) : KeepR A C := ⟨keep_put h.k p⟩
theorem KeepR.grown {base e size n : Nat} {v : Value} {xs : List Value} (h : KeepR A B) (ho : B.ownsRow base e size v n xs) (hg : B.grownBy C v.ownBlock) : KeepR A C := ⟨keep_grown h.k ho hg⟩
end
theorem encI_add (xs : List Int) (x : Int) : (xs ++ [x]).map (Value.int .i64) = xs.map (Value.int .i64) ++ [.int .i64 x] := by simp
theorem take_one {α : Type} {l : List α} {k : Nat} {x : α} (h : l[k]? = some x) : l.take (k + 1) = l.take k ++ [x] := by rw [List.take_add_one, h]; rfl
theorem OutG.ints {w : World} {base g lo hi : Nat} {v : Value} {l : List Int} (h : OutG w base g lo hi 3 1 v l.length (l.map (Value.int .i64))) : OwnI w base v l := h.own
theorem FacesD.chg {W V : World} {L : List Nat} {bs bi : Nat} {s : Sh} {i : Nat} {b o n c : Nat} {A : Option Addr} {c2 : Nat} (h : FacesD W bs bi s i b o n c A c2) (hC : Chg L W V) (h1 : bs ∉ L) (h2 : bi ∉ L) (h3 : b ∉ L)
    (h4 : AltsV V V.heap.size (.slice A s.alts.length c2) s.alts) : FacesD V bs bi s i b o n c A c2 :=
  ⟨Chg.cell hC h.c0 h1, Chg.cell hC h.c1 h1, Chg.cell hC h.ci h2, Chg.cell hC h.cw h3, h4⟩
end Go.Proofs.Ytnjajbkkgfohaaa
namespace Go.Proofs.Ytnjajbkkgfohaaa
open Go.RowKit Go.Wk Go.Proofs
attribute [local irreducible] Go.Wk.Wops Go.Wk.Wp Go.Wk.Mtree Go.Wk.Mops
set_option maxHeartbeats 4000000
set_option maxRecDepth 20000

theorem indexE_c (v : Value) (xs : List Int) (y : Int) (w : World) (hx : IntsV w w.heap.size v xs) (hl : xs.length ≤ 1000000000000000) :
    CallsV Try.prog 128 #[v, .int .i64 y] w fun v w' => ∃ r : Int, v = .int .i64 r ∧ decide (0 ≤ r) = decide (y ∈ xs) ∧ Ext w w' := by
  obtain ⟨A, c, rfl, hx, -⟩ := hx
  refine Wp.fn Try.func128 rfl Try.ntmps128 (by simp) ?_
  refine Wp.keep [0, 1] fun r1 hkeep => ?_
  obtain ⟨e0_1, e1_1, -⟩ := hkeep
  simp [go_sem] at e0_1 e1_1
  refine Wp.seqRegion (.inl rfl) (by kernel_rfl) fun K' gd hK hg => ?_
  clear hg
  go_simp
  refine hK _ _ ?_
  clear hK K' gd
  refine Wp.keep [0, 1] fun r2 hkeep => ?_
  obtain ⟨e0_2, e1_2, -⟩ := hkeep
  simp [go_sem, e0_1, e1_1] at e0_2 e1_2
  clear e0_1 e1_1
  refine Wp.seq ?_
  refine Wp.seqRegion (.inl rfl) (by kernel_rfl) fun K' gd hK hg => ?_
  clear hg
  go_simp
  refine hK _ _ ?_
  clear hK K' gd
  refine Wp.keep [0, 1, 7, 8] fun r3 hkeep => ?_
  obtain ⟨e0_3, e1_3, e7_3, e8_3, -⟩ := hkeep
  simp [go_sem, e0_2, e1_2] at e0_3 e1_3 e7_3 e8_3
  clear e0_2 e1_2
  refine Wp.block ?_
  refine Wp.loop (fun k ρ ds wk => AllEq [0, 1, 7] ρ r3 ∧ ds = [] ∧ (ρ 8 = .int .i64 (k : Int) ∧ (y ∉ xs.take k) ∧ Ext w wk)) (xs.length) ?_ ?_
  · refine ⟨AllEq.refl _ _, rfl, ?_⟩
    exact ⟨by rw [e8_3]; rfl, by simp, Ext.refl w⟩
  · rintro k r4 _ wk hk ⟨hA, rfl, ⟨e8, hn, hE⟩⟩
    obtain ⟨e0_4, e1_4, e7_4, -⟩ := hA
    rw [e0_3] at e0_4
    rw [e1_3] at e1_4
    rw [e7_3] at e7_4
    refine Wp.seqRegion (.inl rfl) (by kernel_rfl) fun K' gd hK hg => ?_
    clear hg
    go_simp
    refine hK _ _ ?_
    clear hK K' gd
    refine Wp.keep [0, 1, 7, 8, 9] fun r5 hkeep => ?_
    obtain ⟨e0_5, e1_5, e7_5, e8_5, e9_5, -⟩ := hkeep
    simp [go_sem, e0_4, e1_4, e7_4, e8] at e0_5 e1_5 e7_5 e8_5 e9_5
    clear e0_4 e1_4 e7_4 e8
    refine Wp.seq ?_
    by_cases h : k < xs.length
    · refine Wp.condT (by go_simp) ?_
      obtain ⟨b, o, rfl, hb, hc⟩ := hx (by intro e; rw [e] at h; exact absurd h (Nat.not_lt_zero _))
      have c1 := hE.cell (hc k h)
      refine Wp.skip ?_
      refine thenK_normal ?_
      refine Wp.seq ?_
      refine Wp.block ?_
      refine Wp.seqRegion (.inl rfl) (by kernel_rfl) fun K' gd hK hg => ?_
      clear hg
      go_simp
      refine hK _ _ ?_
      clear hK K' gd
      refine Wp.keep [0, 1, 5, 7, 8] fun r6 hkeep => ?_
      obtain ⟨e0_6, e1_6, e5_6, e7_6, e8_6, -⟩ := hkeep
      simp [go_sem, e0_5, e1_5, e7_5, e8_5, e9_5] at e0_6 e1_6 e5_6 e7_6 e8_6
      clear e0_5 e1_5 e7_5 e8_5 e9_5
      refine Wp.seqRegion (.inl rfl) (by kernel_rfl) fun K' gd hK hg => ?_
      clear hg
      go_simp
      refine hK _ _ ?_
      clear hK K' gd
      refine Wp.keep [0, 1, 5, 7, 8, 16] fun r7 hkeep => ?_
      obtain ⟨e0_7, e1_7, e5_7, e7_7, e8_7, e16_7, -⟩ := hkeep
      simp [go_sem, e0_6, e1_6, e5_6, e7_6, e8_6] at e0_7 e1_7 e5_7 e7_7 e8_7 e16_7
      clear e0_6 e1_6 e5_6 e7_6 e8_6
      by_cases hq : y = xs[k]
      · refine Wp.condT (by go_simp) ?_
        refine Wp.seqRegion (.inl rfl) (by kernel_rfl) fun K' gd hK hg => ?_
        clear hg
        go_simp
        refine hK _ _ ?_
        clear hK K' gd
        refine Wp.keep [4] fun r8 hkeep => ?_
        obtain ⟨e4_8, -⟩ := hkeep
        simp [go_sem, e0_7, e1_7, e5_7, e7_7, e8_7, e16_7] at e4_8
        clear e0_7 e1_7 e5_7 e7_7 e8_7 e16_7
        refine Wp.ret ?_
        refine blockK_ret ?_
        refine thenK_ret ?_
        refine thenK_ret ?_
        refine blockK_ret ?_
        refine thenK_ret ?_
        refine endK_tmp Try.results128 (by decide) ?_
        rw [e4_8]
        refine ⟨_, rfl, ?_, hE⟩
        rw [decide_eq_true (show y ∈ xs by rw [hq]; exact List.getElem_mem h)]; simp
      · refine Wp.condF (by go_simp) ?_
        refine Wp.skip ?_
        refine blockK_normal ?_
        refine thenK_normal ?_
        refine Wp.loneRegion (.inl rfl) (by kernel_rfl) fun K' gd hK hg => ?_
        clear hg
        go_simp
        refine hK _ _ ?_
        clear hK K' gd
        refine Ends.keep [0, 1, 7, 8] fun r9 hkeep => ?_
        obtain ⟨e0_9, e1_9, e7_9, e8_9, -⟩ := hkeep
        simp [go_sem, e0_7, e1_7, e5_7, e7_7, e8_7, e16_7] at e0_9 e1_9 e7_9 e8_9
        clear e0_7 e1_7 e5_7 e7_7 e8_7 e16_7
        refine Ends.mk ?_
        refine thenK_normal ⟨by omega, ⟨by rw [e0_9, e0_3], by rw [e1_9, e1_3], by rw [e7_9, e7_3], trivial⟩, rfl, ?_⟩
        refine ⟨by rw [e8_9, IntWalk.i64_in _ (by omega)]; rfl, ?_, hE⟩
        rw [List.take_add_one, List.getElem?_eq_getElem h]; simp only [Option.toList_some, List.mem_append, List.mem_singleton]; rintro (h' | h'); exact hn h'; exact hq h'
    · refine Wp.condF (by go_simp) ?_
      refine Wp.exit ?_
      refine thenK_exit ?_
      refine thenK_exit ?_
      refine blockK_here ?_
      refine thenK_normal ?_
      refine Wp.seqRegion (.inl rfl) (by kernel_rfl) fun K' gd hK hg => ?_
      clear hg
      go_simp
      refine hK _ _ ?_
      clear hK K' gd
      refine Wp.keep [4] fun r10 hkeep => ?_
      obtain ⟨e4_10, -⟩ := hkeep
      simp [go_sem, e0_5, e1_5, e7_5, e8_5, e9_5] at e4_10
      clear e0_5 e1_5 e7_5 e8_5 e9_5
      refine Wp.ret ?_
      refine endK_tmp Try.results128 (by decide) ?_
      rw [e4_10]
      obtain rfl : k = xs.length := by omega
      rw [List.take_length] at hn
      exact ⟨_, rfl, by rw [decide_eq_false hn]; rfl, hE⟩
theorem containsE_c (v : Value) (xs : List Int) (y : Int) (w : World) (hx : IntsV w w.heap.size v xs) (hl : xs.length ≤ 1000000000000000) :
    CallsV Try.prog 78 #[v, .int .i64 y] w fun v w' => v = .bool (decide (y ∈ xs)) ∧ Ext w w' := by
  refine Wp.fn Try.func78 rfl Try.ntmps78 (by simp) ?_
  refine Wp.keep [0, 1] fun r1 hkeep => ?_
  obtain ⟨e0_1, e1_1, -⟩ := hkeep
  simp [go_sem] at e0_1 e1_1
  refine Wp.seqRegion (.inl rfl) (by kernel_rfl) fun K' gd hK hg => ?_
  clear hg
  go_simp
  refine hK _ _ ?_
  clear hK K' gd
  refine Wp.keep [0, 1] fun r2 hkeep => ?_
  obtain ⟨e0_2, e1_2, -⟩ := hkeep
  simp [go_sem, e0_1, e1_1] at e0_2 e1_2
  clear e0_1 e1_1
  refine Wp.seqRegion (.inl rfl) (by kernel_rfl) fun K' gd hK hg => ?_
  clear hg
  go_simp
  refine Wcall (.inl rfl) (indexE_c v xs y w hx hl) ?_
  rintro v w2 ⟨r, rfl, hr, hE⟩
  go_simp
  refine hK _ _ ?_
  clear hK K' gd
  refine Wp.keep [4] fun r3 hkeep => ?_
  obtain ⟨e4_3, -⟩ := hkeep
  simp [go_sem, e0_2, e1_2] at e4_3
  clear e0_2 e1_2
  refine Wp.ret ?_
  refine endK_tmp Try.results78 (by decide) ?_
  rw [e4_3]
  exact ⟨by rw [← hr], hE⟩
def nth2 (a b : Int) (j : Nat) : Int := if j = 0 then a else b
@[go_sem] theorem idx2 (a b : Int) (j : Nat) (hj : (j : Int) < 2) (w : World) : (Instr.index 115 (.agg #[.int .i64 a, .int .i64 b]) (.int .i64 (j : Int))).run Try.prog w = .ok (.int .i64 (nth2 a b j)) w := by
  rcases (show j = 0 ∨ j = 1 by omega) with rfl | rfl
  · simp [Instr.index, run_underlying Try.underlying115, asIntOf, go_sem, nth2]
  · simp [Instr.index, run_underlying Try.underlying115, asIntOf, go_sem, nth2]
theorem addW_len (out : List Int) (x : Int) : (addW out x).length ≤ out.length + 1 := by unfold addW; split <;> simp
theorem readsF_len (d : Int) : ∀ (l : List (Int × Int × Face)) (out : List Int), (readsF d l out).length ≤ out.length + 2 * l.length
  | [], out => by simp [readsF]
  | x :: l, out => by
    rw [readsF_cons]
    have := readsF_len d l (if x.1 ≤ d ∧ d ≤ x.2.1 then addW (addW out x.2.2.1) x.2.2.2.1 else out)
    have h1 := addW_len (addW out x.2.2.1) x.2.2.2.1
    have h2 := addW_len out x.2.2.1
    simp only [List.length_cons]
    split at this <;> rename_i hc <;> simp only [hc, and_self, if_true, if_false] <;> first | omega | (simp only [hc, if_false] at *; omega)
theorem readsF_snoc (d : Int) (l : List (Int × Int × Face)) (x : Int × Int × Face) (out : List Int) : readsF d (l ++ [x]) out = if x.1 ≤ d ∧ d ≤ x.2.1 then addW (addW (readsF d l out) x.2.2.1) x.2.2.2.1 else readsF d l out := by
  unfold readsF; rw [List.foldl_append]; rfl
theorem readsF_take {d : Int} {l : List (Int × Int × Face)} {k : Nat} {x : Int × Int × Face} (h : l[k]? = some x) : readsF d (l.take (k + 1)) [] = if x.1 ≤ d ∧ d ≤ x.2.1 then addW (addW (readsF d (l.take k) []) x.2.2.1) x.2.2.2.1 else readsF d (l.take k) [] := by
  rw [take_one h, readsF_snoc]
theorem lineS_zero {s : Sh} {i : Int} : lineS s i = 0 ↔ checkS s = 0 ∧ 0 ≤ i ∧ i < (s.n : Int) := by
  unfold lineS
  by_cases h : checkS s = 0
  · by_cases h2 : 0 ≤ i ∧ i < (s.n : Int)
    · simp [h, h2]
    · simp only [h, if_true, if_neg h2, true_and, iff_false_intro h2, iff_false]; decide
  · simp [h]
def readE (s : Sh) (i d : Int) : Int := if lineS s i = 0 then (if 0 ≤ d ∧ d ≤ 730 then 0 else 1) else lineS s i
theorem Sh.W_get {s : Sh} {i : Nat} (h : i < s.words.length) : s.words[i] = s.W i := by unfold Sh.W; rw [List.getElem?_eq_getElem h]; rfl
theorem Reads_c (v : Value) (s : Sh) (i d : Int) (w : World) (hV : SheetV w w.heap.size v s) (hf : FitS s) :
    CallsV Try.prog 25 #[v, .int .i64 i, .int .i64 d] w fun v w' => ∃ t, v = .tuple #[t, .int .i64 (readE s i d)] ∧ OwnI w' w.heap.size t (if readE s i d = 0 then readsL (s.on i.toNat d) else []) ∧ Ext w w' := by
  obtain ⟨wv, av, rfl, ⟨A, c1, rfl, hx, -⟩, ⟨A3, c3, rfl, -, -⟩⟩ := id hV
  have hA : AltsV w w.heap.size (.slice A3 s.alts.length c3) s.alts := by obtain ⟨wv, av, e, -, h⟩ := hV; injection e with e; simp at e; obtain ⟨-, rfl⟩ := e; exact h
  refine Wp.fnM Try.func25 rfl Try.ntmps25 (by simp) ?_
  have xw := Ext.refl w
  refine Wp.keep [0, 1, 2] fun r1 hkeep => ?_
  obtain ⟨e0_1, e1_1, e2_1, -⟩ := hkeep
  simp [go_sem] at e0_1 e1_1 e2_1
  refine Wp.seqRegion (.inl rfl) (by kernel_rfl) fun K' gd hK hg => ?_
  clear hg
  refine Wops.cut 1 fun K1 hK1 => ?_
  simp only [List.take_succ_cons, List.take_zero]
  go_simp
  refine hK1 _ _ ?_
  clear hK1 K1
  simp only [List.drop_succ_cons, List.drop_zero]
  refine Wops.absA fun V3_1 n3 hV3_1 => ?_
  obtain ⟨q3, hV3_1, s3, kV3_1, f3, r3⟩ := hV3_1
  try simp only [q3] at kV3_1 f3 r3 ⊢
  replace xw := Ext.trans xw hV3_1
  have c3_0 := kV3_1 0 _ rfl
  have c3_1 := kV3_1 1 _ rfl
  clear kV3_1 hV3_1
  clear r3
  refine Wops.cut 1 fun K1 hK1 => ?_
  simp only [List.take_succ_cons, List.take_zero]
  go_simp
  refine hK1 _ _ ?_
  clear hK1 K1
  simp only [List.drop_succ_cons, List.drop_zero]
  refine Wops.absA fun V5_2 n5 hV5_2 => ?_
  obtain ⟨q5, hV5_2, s5, kV5_2, f5, r5⟩ := hV5_2
  try simp only [q5] at kV5_2 f5 r5 ⊢
  replace f3 := Ext.fz hV5_2 c3_0 f3
  replace xw := Ext.trans xw hV5_2
  replace c3_0 := Ext.cell hV5_2 c3_0
  replace c3_1 := Ext.cell hV5_2 c3_1
  have c5_0 := kV5_2 0 _ rfl
  clear kV5_2 hV5_2
  clear r5
  go_simp
  refine hK _ _ ?_
  clear hK K' gd
  refine Wp.keep [1, 3, 5] fun r2 hkeep => ?_
  obtain ⟨e1_2, e3_2, e5_2, -⟩ := hkeep
  simp [go_sem, e0_1, e1_1, e2_1] at e1_2 e3_2 e5_2
  clear e0_1 e1_1 e2_1
  refine Wp.seq ?_
  refine Wp.seqRegion (.inl rfl) (by kernel_rfl) fun K' gd hK hg => ?_
  clear hg
  refine Wops.cut 3 fun K1 hK1 => ?_
  simp only [List.take_succ_cons, List.take_zero]
  go_simp
  refine Wcall (.inl rfl) (line_c _ s i _ (hV.ext xw) hf) ?_
  rintro v w2 ⟨rfl, hE⟩
  go_simp
  refine hK1 _ _ ?_
  clear hK1 K1
  simp only [List.drop_succ_cons, List.drop_zero]
  have z3 := Below.size hE
  replace f3 := Ext.fz hE c3_0 f3
  replace f5 := Ext.fz hE c5_0 f5
  replace xw := Ext.trans xw hE
  replace c3_0 := Ext.cell hE c3_0
  replace c3_1 := Ext.cell hE c3_1
  replace c5_0 := Ext.cell hE c5_0
  clear hE
  go_simp
  refine hK _ _ ?_
  clear hK K' gd
  refine Wp.keep [1, 3, 5, 8] fun r4 hkeep => ?_
  obtain ⟨e1_4, e3_4, e5_4, e8_4, -⟩ := hkeep
  simp [go_sem, e1_2, e3_2, e5_2] at e1_4 e3_4 e5_4 e8_4
  clear e1_2 e3_2 e5_2
  by_cases h0 : lineS s i = 0
  · skip
    refine Wp.seqRegion (.inl rfl) (by kernel_rfl) fun K' gd hK hg => ?_
    clear hg
    go_simp
    refine hK _ _ ?_
    clear hK K' gd
    refine Wp.keep [1, 3, 5, 8, 18] fun r5 hkeep => ?_
    obtain ⟨e1_5, e3_5, e5_5, e8_5, e18_5, -⟩ := hkeep
    simp [go_sem, e1_4, e3_4, e5_4, e8_4] at e1_5 e3_5 e5_5 e8_5 e18_5
    clear e1_4 e3_4 e5_4 e8_4
    refine Wp.condF (by go_simp) ?_
    by_cases hd : 0 ≤ d ∧ d ≤ 730
    · skip
      refine Wp.skip ?_
      refine thenK_normal ?_
      refine Wp.seq ?_
      refine Wp.seqRegion (.inl rfl) (by kernel_rfl) fun K' gd hK hg => ?_
      clear hg
      refine Wops.cut 2 fun K1 hK1 => ?_
      simp only [List.take_succ_cons, List.take_zero]
      go_simp
      refine Wcall (.inl rfl) (within_T hd _) ?_
      rintro v w3 ⟨rfl, hE⟩
      go_simp
      refine hK1 _ _ ?_
      clear hK1 K1
      simp only [List.drop_succ_cons, List.drop_zero]
      have z6 := Below.size hE
      replace f3 := Ext.fz hE c3_0 f3
      replace f5 := Ext.fz hE c5_0 f5
      replace xw := Ext.trans xw hE
      replace c3_0 := Ext.cell hE c3_0
      replace c3_1 := Ext.cell hE c3_1
      replace c5_0 := Ext.cell hE c5_0
      clear hE
      go_simp
      refine hK _ _ ?_
      clear hK K' gd
      refine Wp.keep [1, 3, 5, 22] fun r7 hkeep => ?_
      obtain ⟨e1_7, e3_7, e5_7, e22_7, -⟩ := hkeep
      simp [go_sem, e1_5, e3_5, e5_5, e8_5, e18_5] at e1_7 e3_7 e5_7 e22_7
      clear e1_5 e3_5 e5_5 e8_5 e18_5
      refine Wp.condF (by go_simp) ?_
      have hi : 0 ≤ i ∧ i < (s.n : Int) := (lineS_zero.1 h0).2
      obtain ⟨n, rfl⟩ : ∃ n : Nat, i = (n : Int) := ⟨i.toNat, by omega⟩
      have hg : Good s := checkS_zero.1 (lineS_zero.1 h0).1
      have hnl : n < s.words.length := by have := hi.2; unfold Sh.n at this; omega
      obtain ⟨b, o, rfl, hb, hc⟩ := hx (by rintro e; rw [e] at hnl; exact absurd hnl (Nat.not_lt_zero _))
      have yw := xw.cell (hc n hnl)
      rw [Sh.W_get hnl] at yw
      refine Wp.skip ?_
      refine thenK_normal ?_
      refine Wp.seqRegion (.inl rfl) (by kernel_rfl) fun K' gd hK hg => ?_
      clear hg
      refine Wops.cut 1 fun K1 hK1 => ?_
      simp only [List.take_succ_cons, List.take_zero]
      go_simp
      refine hK1 _ _ ?_
      clear hK1 K1
      simp only [List.drop_succ_cons, List.drop_zero]
      refine Wops.absA fun V9_3 n9 hV9_3 => ?_
      obtain ⟨q9, hV9_3, s9, kV9_3, f9, r9⟩ := hV9_3
      try simp only [q9] at kV9_3 f9 r9 ⊢
      replace f3 := Ext.fz hV9_3 c3_0 f3
      replace f5 := Ext.fz hV9_3 c5_0 f5
      replace xw := Ext.trans xw hV9_3
      replace c3_0 := Ext.cell hV9_3 c3_0
      replace c3_1 := Ext.cell hV9_3 c3_1
      replace c5_0 := Ext.cell hV9_3 c5_0
      replace yw := Ext.cell hV9_3 yw
      have c9_0 := kV9_3 0 _ rfl
      clear kV9_3 hV9_3
      clear r9
      try simp only [Wops_nil, updO_some, updO_none]
      refine hK _ _ ?_
      clear hK K' gd
      refine Wp.keep [1, 3, 5, 9] fun r8 hkeep => ?_
      obtain ⟨e1_8, e3_8, e5_8, e9_8, -⟩ := hkeep
      simp [go_sem, e1_7, e3_7, e5_7, e22_7] at e1_8 e3_8 e5_8 e9_8
      clear e1_7 e3_7 e5_7 e22_7
      refine Wp.seq ?_
      refine Wp.seqRegion (.inl rfl) (by kernel_rfl) fun K' gd hK hg => ?_
      clear hg
      refine Wops.cut 3 fun K1 hK1 => ?_
      simp only [List.take_succ_cons, List.take_zero]
      go_simp
      refine Wcall (.inl rfl) (faces_c _ (n : Int) _ _ _ rfl rfl rfl) ?_
      rintro v w4 ⟨bs, bi, rfl, hE, y0, y1, yi, lbs, lbi⟩
      go_simp
      refine hK1 _ _ ?_
      clear hK1 K1
      simp only [List.drop_succ_cons, List.drop_zero]
      have z9 := Below.size hE
      replace f3 := Ext.fz hE c3_0 f3
      replace f5 := Ext.fz hE c5_0 f5
      replace f9 := Ext.fz hE c9_0 f9
      replace xw := Ext.trans xw hE
      replace c3_0 := Ext.cell hE c3_0
      replace c3_1 := Ext.cell hE c3_1
      replace c5_0 := Ext.cell hE c5_0
      replace yw := Ext.cell hE yw
      replace c9_0 := Ext.cell hE c9_0
      clear hE
      try simp only [Wops_nil, updO_some, updO_none]
      refine hK _ _ ?_
      clear hK K' gd
      refine Wp.keep [5, 9, 25] fun r10 hkeep => ?_
      obtain ⟨e5_10, e9_10, e25_10, -⟩ := hkeep
      simp [go_sem, e1_8, e3_8, e5_8, e9_8] at e5_10 e9_10 e25_10
      clear e1_8 e3_8 e5_8 e9_8
      obtain ⟨B0, hB0⟩ : ∃ B0 : Nat, B0 = w4.heap.size := ⟨_, rfl⟩
      have l0 := hA.ext xw
      have qb := cell_lt y0
      have qi := cell_lt yi
      have qw := cell_lt yw
      refine Wp.block ?_
      refine Wp.rangeH (faces_it s n bs bi b o _ c1 A3 c3 hnl hf.2 (fun a ha => ⟨by have := (hg.rt a ha).2.1; omega, (hg.rt a ha).2.1.2⟩)) (by go_simp) (enters_of Try.func126 (by kernel_rfl) rfl) (fun _ _ => rfl) (fun g k W => (Chg [n9] w4 W ∧ (∀ i, W.frozen? ⟨n9, i, none⟩ = false)) ∧ (∃ v, W.cell? ⟨n9, 0, none⟩ = some v ∧ OutG W B0 g 0 0 3 1 v (readsF d ((s.faces n).take k) []).length ((readsF d ((s.faces n).take k) []).map (Value.int .i64)) ∧ (∀ q, v.ownBlock = some q → q < W.heap.size))) (fun _ _ => False) ?_ ?_ ?_ ?_ ?_ ?_ ?_
      · rintro g k W ⟨⟨xr, gf9⟩, ⟨v9, gc9_0, hO, hlt⟩⟩
        exact FacesD.chg ⟨y0, y1, yi, yw, l0⟩ xr (by simp; omega) (by simp; omega) (by simp; omega) (hA.ext (Chg.to xw xr XL))
      · refine ⟨?_, ?_, ?_⟩
        · rintro g k W W' hA ⟨⟨xr, gf9⟩, ⟨v9, gc9_0, hO, hlt⟩⟩
          refine ⟨⟨Adm.chg hA xr (Nat.le_refl _), Adm.fz hA gc9_0 gf9⟩, ?_⟩
          exact ⟨v9, hA.cell gc9_0, hO.adm hA, fun q hq => Nat.lt_of_lt_of_le (hlt q hq) hA.size⟩
        · rintro g k W W' hgn hA ⟨⟨xr, gf9⟩, ⟨v9, gc9_0, hO, hlt⟩⟩
          refine ⟨⟨Chg.more xr hA (mem1 (.inl hgn)), Chg.fz hA gc9_0 gf9 (by simp; omega)⟩, ?_⟩
          exact ⟨v9, Chg.cell hA gc9_0 (by simp; omega), hO.chg hA (by simp), fun q hq => Nat.lt_of_lt_of_le (hlt q hq) (Chg.size hA)⟩
        · skip
          exact fun g x W W' hA h => facC.adm h hA
      · skip
        exact fun _ _ _ _ h => h
      · intro g W hgn hA
        refine ⟨⟨Adm.chg hA (Chg.refl _ _) (Nat.le_refl _), Adm.fz hA c9_0 f9⟩, ?_⟩
        exact ⟨_, hA.cell c9_0, OutG.nil _ _ _ _ _ _ _, fun q hq => by cases hq⟩
      · rintro l g k x W Wy hx ⟨⟨xr, gf9⟩, ⟨v9, gc9_0, hO, hlt⟩⟩ hVW hCg hl hgn
        have zxr := Chg.size xr
        replace f3 := Chg.fz xr c3_0 f3 XN
        replace f5 := Chg.fz xr c5_0 f5 XN
        clear f9
        replace xw := Chg.to xw xr XL
        replace c3_0 := Chg.cell xr c3_0 XN
        replace c3_1 := Chg.cell xr c3_1 XN
        replace c5_0 := Chg.cell xr c5_0 XN
        replace yw := Chg.cell xr yw XN
        clear c9_0
        replace y0 := Chg.cell xr y0 XN
        replace y1 := Chg.cell xr y1 XN
        replace yi := Chg.cell xr yi XN
        have f9 := gf9
        clear gf9
        have c9_0 := gc9_0
        clear gc9_0
        have z11 := Below.size hVW
        replace f3 := Ext.fz hVW c3_0 f3
        replace f5 := Ext.fz hVW c5_0 f5
        replace f9 := Ext.fz hVW c9_0 f9
        replace hO := hO.ext hVW
        replace xw := Ext.trans xw hVW
        replace xr := Chg.ext xr hVW
        replace c3_0 := Ext.cell hVW c3_0
        replace c3_1 := Ext.cell hVW c3_1
        replace c5_0 := Ext.cell hVW c5_0
        replace yw := Ext.cell hVW yw
        replace y0 := Ext.cell hVW y0
        replace y1 := Ext.cell hVW y1
        replace yi := Ext.cell hVW yi
        replace c9_0 := Ext.cell hVW c9_0
        have hKp := Held.refl W Wy
        have xb := Ext.refl Wy
        simp only [encF, List.zip_toArray, List.zip_cons_cons, List.zip_nil_left, putL_cons, putL_nil]
        refine Wp.keep [5, 9, 26, 27] fun r12 hkeep => ?_
        obtain ⟨e5_12, e9_12, e26_12, e27_12, -⟩ := hkeep
        simp [go_sem, e5_10, e9_10, e25_10] at e5_12 e9_12 e26_12 e27_12
        refine Wp.seqRegion (.inr ⟨_, rfl⟩) (by kernel_rfl) fun K' gd hK hg => ?_
        clear hg
        refine Wops.cut 2 fun K1 hK1 => ?_
        simp only [List.take_succ_cons, List.take_zero]
        go_simp
        refine hK1 _ _ ?_
        clear hK1 K1
        simp only [List.drop_succ_cons, List.drop_zero]
        refine Wops.absA fun V10_6 n10 hV10_6 => ?_
        obtain ⟨q10, hV10_6, s10, kV10_6, f10, r10⟩ := hV10_6
        try simp only [q10] at kV10_6 f10 r10 ⊢
        replace f3 := Ext.fz hV10_6 c3_0 f3
        replace f5 := Ext.fz hV10_6 c5_0 f5
        replace f9 := Ext.fz hV10_6 c9_0 f9
        replace hO := hO.ext hV10_6
        replace hKp := hKp.ext hV10_6
        replace hCg := hCg.ext hV10_6
        replace xw := Ext.trans xw hV10_6
        replace xr := Chg.ext xr hV10_6
        replace xb := Ext.trans xb hV10_6
        replace c3_0 := Ext.cell hV10_6 c3_0
        replace c3_1 := Ext.cell hV10_6 c3_1
        replace c5_0 := Ext.cell hV10_6 c5_0
        replace yw := Ext.cell hV10_6 yw
        replace y0 := Ext.cell hV10_6 y0
        replace y1 := Ext.cell hV10_6 y1
        replace yi := Ext.cell hV10_6 yi
        replace c9_0 := Ext.cell hV10_6 c9_0
        have c10_0 := kV10_6 0 _ rfl
        have c10_1 := kV10_6 1 _ rfl
        clear kV10_6 hV10_6
        clear r10
        try simp only [Wops_nil, updO_some, updO_none]
        refine hK _ _ ?_
        clear hK K' gd
        refine Wp.keep [5, 9, 10, 27] fun r13 hkeep => ?_
        obtain ⟨e5_13, e9_13, e10_13, e27_13, -⟩ := hkeep
        simp [go_sem, e5_12, e9_12, e26_12, e27_12] at e5_13 e9_13 e10_13 e27_13
        clear e5_12 e9_12 e26_12 e27_12
        refine Wp.loneRegion (.inr ⟨_, rfl⟩) (by kernel_rfl) fun K' gd hK hg => ?_
        clear hg
        refine Wops.cut 2 fun K1 hK1 => ?_
        simp only [List.take_succ_cons, List.take_zero]
        go_simp
        refine hK1 _ _ ?_
        clear hK1 K1
        simp only [List.drop_succ_cons, List.drop_zero]
        refine Wops.absA fun V11_7 n11 hV11_7 => ?_
        obtain ⟨q11, hV11_7, s11, kV11_7, f11, r11⟩ := hV11_7
        try simp only [q11] at kV11_7 f11 r11 ⊢
        replace f3 := Ext.fz hV11_7 c3_0 f3
        replace f5 := Ext.fz hV11_7 c5_0 f5
        replace f9 := Ext.fz hV11_7 c9_0 f9
        replace f10 := Ext.fz hV11_7 c10_0 f10
        replace hO := hO.ext hV11_7
        replace hKp := hKp.ext hV11_7
        replace hCg := hCg.ext hV11_7
        replace xw := Ext.trans xw hV11_7
        replace xr := Chg.ext xr hV11_7
        replace xb := Ext.trans xb hV11_7
        replace c3_0 := Ext.cell hV11_7 c3_0
        replace c3_1 := Ext.cell hV11_7 c3_1
        replace c5_0 := Ext.cell hV11_7 c5_0
        replace yw := Ext.cell hV11_7 yw
        replace y0 := Ext.cell hV11_7 y0
        replace y1 := Ext.cell hV11_7 y1
        replace yi := Ext.cell hV11_7 yi
        replace c9_0 := Ext.cell hV11_7 c9_0
        replace c10_0 := Ext.cell hV11_7 c10_0
        replace c10_1 := Ext.cell hV11_7 c10_1
        have c11_0 := kV11_7 0 _ rfl
        have c11_1 := kV11_7 1 _ rfl
        have c11_2 := kV11_7 2 _ rfl
        clear kV11_7 hV11_7
        clear r11
        try simp only [Wops_nil, updO_some, updO_none]
        refine hK _ _ ?_
        clear hK K' gd
        refine Ends.keep [5, 9, 10, 11] fun r14 hkeep => ?_
        obtain ⟨e5_14, e9_14, e10_14, e11_14, -⟩ := hkeep
        simp [go_sem, e5_13, e9_13, e10_13, e27_13] at e5_14 e9_14 e10_14 e11_14
        clear e5_13 e9_13 e10_13 e27_13
        refine Ends.mk ?_
        refine thenK_normal ?_
        refine ⟨KeepsOthers.of_ext xb, fun W2 hA2 hl2 => ?_⟩
        replace f3 := Adm.fz hA2 c3_0 f3
        replace f5 := Adm.fz hA2 c5_0 f5
        replace f9 := Adm.fz hA2 c9_0 f9
        replace f10 := Adm.fz hA2 c10_0 f10
        replace f11 := Adm.fz hA2 c11_0 f11
        replace xw := Adm.toE hA2 xw (by omega)
        replace xr := Adm.chg hA2 xr (by omega)
        clear xb
        replace hO := hO.adm hA2
        replace hKp := hKp.adm hA2
        replace hCg := hCg.adm hA2
        replace c3_0 := Adm.cell hA2 c3_0
        replace c3_1 := Adm.cell hA2 c3_1
        replace c5_0 := Adm.cell hA2 c5_0
        replace yw := Adm.cell hA2 yw
        replace y0 := Adm.cell hA2 y0
        replace y1 := Adm.cell hA2 y1
        replace yi := Adm.cell hA2 yi
        replace c9_0 := Adm.cell hA2 c9_0
        replace c10_0 := Adm.cell hA2 c10_0
        replace c10_1 := Adm.cell hA2 c10_1
        replace c11_0 := Adm.cell hA2 c11_0
        replace c11_1 := Adm.cell hA2 c11_1
        replace c11_2 := Adm.cell hA2 c11_2
        obtain ⟨lr, hl2⟩ := hl2
        have xk := Chg.refl [n9] W2
        have kb_n9 := IsC.of c9_0
        have hKO : KeepR W2 W2 := ⟨KeepsOthers.refl _⟩
        have zA2 := hA2.size
        obtain ⟨L0, hL0⟩ : ∃ L0, ∃ _u : Unit, L0 = readsF d ((s.faces n).take k) [] := ⟨_, (), rfl⟩
        have hL1 := readsF_take (d := d) hx
        rw [← hL0.choose_spec] at hO hL1
        have hLl : L0.length ≤ 1000 := by rw [hL0.choose_spec]; have q1 := readsF_len d ((s.faces n).take k) []; have q2 := faces_len n s.alts (s.W n, 0, false) 0; have q3 := hg.m2; rw [List.length_take] at q1; unfold Sh.faces at *; simp at q1; omega
        by_cases hdd : x.1 ≤ d ∧ d ≤ x.2.1
        · skip
          refine Wp.block ?_
          refine Wp.seq ?_
          refine Wp.seqRegion (.inr ⟨_, rfl⟩) (by kernel_rfl) fun K' gd hK hg => ?_
          clear hg
          refine Wops.cut 6 fun K1 hK1 => ?_
          simp only [List.take_succ_cons, List.take_zero]
          go_simp
          refine Wcall (.inr ⟨_, rfl⟩) (within_T hdd _) ?_
          rintro v w5 ⟨rfl, hE⟩
          go_simp
          refine hK1 _ _ ?_
          clear hK1 K1
          simp only [List.drop_succ_cons, List.drop_zero]
          have z15 := Below.size hE
          replace f3 := Ext.fz hE c3_0 f3
          replace f5 := Ext.fz hE c5_0 f5
          replace f9 := Ext.fz hE c9_0 f9
          replace f10 := Ext.fz hE c10_0 f10
          replace f11 := Ext.fz hE c11_0 f11
          replace hO := hO.ext hE
          replace hKp := hKp.ext hE
          replace hCg := hCg.ext hE
          replace hKO := hKO.ext hE
          replace xw := Ext.trans xw hE
          replace xr := Chg.ext xr hE
          replace xk := Chg.ext xk hE
          replace c3_0 := Ext.cell hE c3_0
          replace c3_1 := Ext.cell hE c3_1
          replace c5_0 := Ext.cell hE c5_0
          replace yw := Ext.cell hE yw
          replace y0 := Ext.cell hE y0
          replace y1 := Ext.cell hE y1
          replace yi := Ext.cell hE yi
          replace c9_0 := Ext.cell hE c9_0
          replace c10_0 := Ext.cell hE c10_0
          replace c10_1 := Ext.cell hE c10_1
          replace c11_0 := Ext.cell hE c11_0
          replace c11_1 := Ext.cell hE c11_1
          replace c11_2 := Ext.cell hE c11_2
          clear hE
          go_simp
          refine hK _ _ ?_
          clear hK K' gd
          refine Wp.keep [9, 11, 34] fun r16 hkeep => ?_
          obtain ⟨e9_16, e11_16, e34_16, -⟩ := hkeep
          simp [go_sem, e5_14, e9_14, e10_14, e11_14] at e9_16 e11_16 e34_16
          clear e5_14 e9_14 e10_14 e11_14
          refine Wp.condF (by go_simp) ?_
          obtain ⟨H0, hH0⟩ : ∃ H0 : Nat, H0 = w5.heap.size := ⟨_, rfl⟩
          obtain ⟨x1, hx1⟩ : ∃ x1, ∃ _u : Unit, x1 = x.2.2.1 := ⟨_, (), rfl⟩
          obtain ⟨x2, hx2⟩ : ∃ x2, ∃ _u : Unit, x2 = x.2.2.2.1 := ⟨_, (), rfl⟩
          refine Wp.skip ?_
          refine thenK_normal ?_
          refine Wp.seqRegion (.inr ⟨_, rfl⟩) (by kernel_rfl) fun K' gd hK hg => ?_
          clear hg
          go_simp
          refine hK _ _ ?_
          clear hK K' gd
          refine Wp.keep [9, 36, 37] fun r17 hkeep => ?_
          obtain ⟨e9_17, e36_17, e37_17, -⟩ := hkeep
          simp [go_sem, e9_16, e11_16, e34_16] at e9_17 e36_17 e37_17
          clear e9_16 e11_16 e34_16
          refine Wp.block ?_
          refine Wp.loop (fun j ρ ds wj => AllEq [9, 36] ρ r17 ∧ ds = [] ∧ True ∧ (∃ v l, ρ 37 = .int .i64 (j : Int) ∧ Chg [n9] w4 wj ∧ Ext w wj ∧ facC wj g x ∧ Held W Wy wj ∧ KeepR W2 wj ∧ wj.cell? ⟨n9, 0, none⟩ = some v ∧ (∀ i, wj.frozen? ⟨n9, i, none⟩ = false) ∧ OutG wj B0 g W.heap.size H0 3 1 v l.length (l.map (Value.int .i64)) ∧ H0 ≤ wj.heap.size ∧ (∃ _u : Unit, l = if j = 0 then L0 else if j = 1 then addW L0 x1 else addW (addW L0 x1) x2))) (2) ?_ ?_
          · refine ⟨AllEq.refl _ _, rfl, trivial, ?_⟩
            exact ⟨_, _, by rw [e37_17]; rfl, xr, xw, hCg, hKp, hKO, c9_0, f9, hO.lohi hlt, Nat.le_of_eq hH0, (), rfl⟩
          · skip
            try clear c11_2
            try clear c11_1
            try clear c11_0
            try clear c10_1
            try clear c10_0
            try clear c9_0
            try clear yi
            try clear y1
            try clear y0
            try clear yw
            try clear c5_0
            try clear c3_1
            try clear c3_0
            try clear xk
            try clear xr
            try clear xw
            try clear hKO
            try clear hCg
            try clear hKp
            try clear hO
            try clear f11
            try clear f10
            try clear f9
            try clear f5
            try clear f3
            rintro j r18 _ wj hj ⟨hA, rfl, -, ⟨v9, l, e37, xr, xw, hCg, hKp, hKO, c9_0, f9, hO, hH1, hl⟩⟩
            obtain ⟨e9_18, e36_18, -⟩ := hA
            rw [e9_17] at e9_18
            rw [e36_17] at e36_18
            have xo := Ext.refl wj
            refine Wp.seqRegion (.inr ⟨_, rfl⟩) (by kernel_rfl) fun K' gd hK hg => ?_
            clear hg
            go_simp
            refine hK _ _ ?_
            clear hK K' gd
            refine Wp.keep [9, 36, 37, 38] fun r19 hkeep => ?_
            obtain ⟨e9_19, e36_19, e37_19, e38_19, -⟩ := hkeep
            simp [go_sem, e9_18, e36_18, e37] at e9_19 e36_19 e37_19 e38_19
            clear e9_18 e36_18 e37
            refine Wp.seq ?_
            by_cases hj : (j : Int) < 2
            · refine Wp.condT (by go_simp) ?_
              obtain ⟨y, hy⟩ : ∃ y, nth2 x.2.2.1 x.2.2.2.1 j = y := ⟨_, rfl⟩
              have hy2 : (if j + 1 = 1 then addW L0 x1 else addW (addW L0 x1) x2) = addW l y := by rcases (show j = 0 ∨ j = 1 by omega) with rfl | rfl; (rw [hl.choose_spec, hx1.choose_spec, ← hy]; rfl); (rw [hl.choose_spec, hx2.choose_spec, ← hy]; rfl)
              have zR := Chg.size xr
              have zg := FaceC.lt hCg
              have hll : l.length ≤ 1002 := by have q1 := addW_len L0 x1; have q2 := addW_len (addW L0 x1) x2; rw [hl.choose_spec]; split; omega; split <;> omega
              by_cases hy0 : y = 0
              · skip
                subst hy0
                refine Wp.skip ?_
                refine thenK_normal ?_
                refine Wp.seq ?_
                refine Wp.block ?_
                refine Wp.seqRegion (.inr ⟨_, rfl⟩) (by kernel_rfl) fun K' gd hK hg => ?_
                clear hg
                go_simp
                refine hK _ _ ?_
                clear hK K' gd
                refine Wp.keep [9, 13, 36, 37] fun r20 hkeep => ?_
                obtain ⟨e9_20, e13_20, e36_20, e37_20, -⟩ := hkeep
                simp [go_sem, e9_19, e36_19, e37_19, e38_19] at e9_20 e13_20 e36_20 e37_20
                clear e9_19 e36_19 e37_19 e38_19
                refine Wp.seqRegion (.inr ⟨_, rfl⟩) (by kernel_rfl) fun K' gd hK hg => ?_
                have g2 : gd 2 = some 42 := hg 2
                clear hg
                refine Wops.cut 6 fun K1 hK1 => ?_
                simp only [List.take_succ_cons, List.take_zero]
                go_simp
                refine hK1 _ _ ?_
                clear hK1 K1
                simp only [List.drop_succ_cons, List.drop_zero]
                go_simp
                refine hK _ _ ?_
                clear hK K' gd g2
                refine Wp.keep [9, 13, 36, 37, 47] fun r21 hkeep => ?_
                obtain ⟨e9_21, e13_21, e36_21, e37_21, e47_21, -⟩ := hkeep
                simp [go_sem, e9_20, e13_20, e36_20, e37_20] at e9_21 e13_21 e36_21 e37_21 e47_21
                clear e9_20 e13_20 e36_20 e37_20
                refine Wp.condF (by go_simp) ?_
                refine Wp.skip ?_
                refine blockK_normal ?_
                refine thenK_normal ?_
                refine Wp.loneRegion (.inr ⟨_, rfl⟩) (by kernel_rfl) fun K' gd hK hg => ?_
                clear hg
                go_simp
                refine hK _ _ ?_
                clear hK K' gd
                refine Ends.keep [9, 36, 37] fun r22 hkeep => ?_
                obtain ⟨e9_22, e36_22, e37_22, -⟩ := hkeep
                simp [go_sem, e9_21, e13_21, e36_21, e37_21, e47_21] at e9_22 e36_22 e37_22
                clear e9_21 e13_21 e36_21 e37_21 e47_21
                refine Ends.mk ?_
                refine thenK_normal ⟨by omega, ⟨by rw [e9_22, e9_17], by rw [e36_22, e36_17], trivial⟩, rfl, trivial, ?_⟩
                exact ⟨_, l, by rw [e37_22, IntWalk.i64_in _ (by omega)]; rfl, xr, xw, hCg, hKp, hKO, c9_0, f9, hO, hH1, (), by rw [if_neg (by omega), hy2, addW, if_neg (by simp)]⟩
              · skip
                by_cases hm : y ∈ l
                · skip
                  refine Wp.skip ?_
                  refine thenK_normal ?_
                  refine Wp.seq ?_
                  refine Wp.block ?_
                  refine Wp.seqRegion (.inr ⟨_, rfl⟩) (by kernel_rfl) fun K' gd hK hg => ?_
                  clear hg
                  go_simp
                  refine hK _ _ ?_
                  clear hK K' gd
                  refine Wp.keep [9, 13, 36, 37] fun r23 hkeep => ?_
                  obtain ⟨e9_23, e13_23, e36_23, e37_23, -⟩ := hkeep
                  simp [go_sem, e9_19, e36_19, e37_19, e38_19] at e9_23 e13_23 e36_23 e37_23
                  clear e9_19 e36_19 e37_19 e38_19
                  refine Wp.seqRegion (.inr ⟨_, rfl⟩) (by kernel_rfl) fun K' gd hK hg => ?_
                  have g2 : gd 2 = some 42 := hg 2
                  clear hg
                  refine Wops.cut 6 fun K1 hK1 => ?_
                  simp only [List.take_succ_cons, List.take_zero]
                  go_simp
                  refine Wcall (.inr ⟨_, rfl⟩) (containsE_c _ l y _ (hO.ints).intsV (by omega)) ?_
                  rintro v w6 ⟨rfl, hE⟩
                  go_simp
                  refine hK1 _ _ ?_
                  clear hK1 K1
                  simp only [List.drop_succ_cons, List.drop_zero]
                  have z24 := Below.size hE
                  replace f9 := Ext.fz hE c9_0 f9
                  replace hCg := hCg.ext hE
                  replace hKp := hKp.ext hE
                  replace hKO := hKO.ext hE
                  replace hO := hO.ext hE
                  replace xo := Ext.trans xo hE
                  replace xr := Chg.ext xr hE
                  replace xw := Ext.trans xw hE
                  replace c9_0 := Ext.cell hE c9_0
                  clear hE
                  go_simp
                  refine hK _ _ ?_
                  clear hK K' gd g2
                  refine Wp.keep [9, 13, 36, 37, 47] fun r25 hkeep => ?_
                  obtain ⟨e9_25, e13_25, e36_25, e37_25, e47_25, -⟩ := hkeep
                  simp [go_sem, e9_23, e13_23, e36_23, e37_23] at e9_25 e13_25 e36_25 e37_25 e47_25
                  clear e9_23 e13_23 e36_23 e37_23
                  refine Wp.condF (by go_simp) ?_
                  refine Wp.skip ?_
                  refine blockK_normal ?_
                  refine thenK_normal ?_
                  refine Wp.loneRegion (.inr ⟨_, rfl⟩) (by kernel_rfl) fun K' gd hK hg => ?_
                  clear hg
                  go_simp
                  refine hK _ _ ?_
                  clear hK K' gd
                  refine Ends.keep [9, 36, 37] fun r26 hkeep => ?_
                  obtain ⟨e9_26, e36_26, e37_26, -⟩ := hkeep
                  simp [go_sem, e9_25, e13_25, e36_25, e37_25, e47_25] at e9_26 e36_26 e37_26
                  clear e9_25 e13_25 e36_25 e37_25 e47_25
                  refine Ends.mk ?_
                  refine thenK_normal ⟨by omega, ⟨by rw [e9_26, e9_17], by rw [e36_26, e36_17], trivial⟩, rfl, trivial, ?_⟩
                  exact ⟨_, l, by rw [e37_26, IntWalk.i64_in _ (by omega)]; rfl, xr, xw, hCg, hKp, hKO, c9_0, f9, hO, by omega, (), by rw [if_neg (by omega), hy2, addW, if_neg (by simp [hm])]⟩
                · skip
                  refine Wp.skip ?_
                  refine thenK_normal ?_
                  refine Wp.seq ?_
                  refine Wp.block ?_
                  refine Wp.seqRegion (.inr ⟨_, rfl⟩) (by kernel_rfl) fun K' gd hK hg => ?_
                  clear hg
                  go_simp
                  refine hK _ _ ?_
                  clear hK K' gd
                  refine Wp.keep [9, 13, 36, 37] fun r27 hkeep => ?_
                  obtain ⟨e9_27, e13_27, e36_27, e37_27, -⟩ := hkeep
                  simp [go_sem, e9_19, e36_19, e37_19, e38_19] at e9_27 e13_27 e36_27 e37_27
                  clear e9_19 e36_19 e37_19 e38_19
                  refine Wp.seqRegion (.inr ⟨_, rfl⟩) (by kernel_rfl) fun K' gd hK hg => ?_
                  have g2 : gd 2 = some 42 := hg 2
                  clear hg
                  refine Wops.cut 6 fun K1 hK1 => ?_
                  simp only [List.take_succ_cons, List.take_zero]
                  go_simp
                  refine Wcall (.inr ⟨_, rfl⟩) (containsE_c _ l y _ (hO.ints).intsV (by omega)) ?_
                  rintro v w6 ⟨rfl, hE⟩
                  go_simp
                  refine hK1 _ _ ?_
                  clear hK1 K1
                  simp only [List.drop_succ_cons, List.drop_zero]
                  have z28 := Below.size hE
                  replace f9 := Ext.fz hE c9_0 f9
                  replace hCg := hCg.ext hE
                  replace hKp := hKp.ext hE
                  replace hKO := hKO.ext hE
                  replace hO := hO.ext hE
                  replace xo := Ext.trans xo hE
                  replace xr := Chg.ext xr hE
                  replace xw := Ext.trans xw hE
                  replace c9_0 := Ext.cell hE c9_0
                  clear hE
                  go_simp
                  refine hK _ _ ?_
                  clear hK K' gd g2
                  refine Wp.keep [9, 13, 36, 37, 47] fun r29 hkeep => ?_
                  obtain ⟨e9_29, e13_29, e36_29, e37_29, e47_29, -⟩ := hkeep
                  simp [go_sem, e9_27, e13_27, e36_27, e37_27] at e9_29 e13_29 e36_29 e37_29 e47_29
                  clear e9_27 e13_27 e36_27 e37_27
                  refine Wp.condT (by go_simp) ?_
                  refine Wp.loneRegion (.inr ⟨_, rfl⟩) (by kernel_rfl) fun K' gd hK hg => ?_
                  clear hg
                  refine Wops.cut 3 fun K1 hK1 => ?_
                  simp only [List.take_succ_cons, List.take_zero]
                  go_simp
                  refine hK1 _ _ ?_
                  clear hK1 K1
                  simp only [List.drop_succ_cons, List.drop_zero]
                  refine Wops.absA fun V50_10 n50 hV50_10 => ?_
                  obtain ⟨q50, hV50_10, s50, kV50_10, f50, r50⟩ := hV50_10
                  try simp only [q50] at kV50_10 f50 r50 ⊢
                  replace f9 := Ext.fz hV50_10 c9_0 f9
                  replace hCg := hCg.ext hV50_10
                  replace hKp := hKp.ext hV50_10
                  replace hKO := hKO.ext hV50_10
                  replace hO := hO.ext hV50_10
                  replace xo := Ext.trans xo hV50_10
                  replace xr := Chg.ext xr hV50_10
                  replace xw := Ext.trans xw hV50_10
                  replace c9_0 := Ext.cell hV50_10 c9_0
                  clear hV50_10 f50
                  have c50_0 := kV50_10 0 _ rfl
                  clear kV50_10
                  refine Wops.cut 1 fun K1 hK1 => ?_
                  simp only [List.take_succ_cons, List.take_zero]
                  obtain ⟨v', w7, hrun, hO2, hgr⟩ := OutG.app ints_T hO ⟨n50, 0, none⟩ 1 1 [.int .i64 y] 22 rfl (news_one c50_0) (one_one rfl) (by omega) (by omega) (by omega) (by omega)
                  refine Wops.law rfl (exec_append2 rfl hrun (by go_simp) (by go_simp)) ?_
                  simp only [updO_some, Wops_nil]
                  refine hK1 _ _ ?_
                  clear hK1 K1
                  simp only [List.drop_succ_cons, List.drop_zero]
                  have z30 := World.grownBy.size hgr
                  replace f9 := Chg.fz (grown_chg hgr) c9_0 f9 (q_off hO.lt (by omega))
                  replace hCg := hCg.chg (grown_chg hgr) (by first | (intro b hb; exact (q_off hO.lt (by omega))) | exact (q_off hO.lt (by omega)))
                  replace hKp := hKp.chg (grown_chg hgr) (by first | (intro b hb; exact (q_off hO.lt (by omega))) | exact (q_off hO.lt (by omega)))
                  replace xr := Chg.more xr (grown_chg hgr) (q_gm hO.lt (by omega))
                  replace xw := Chg.to xw (grown_chg hgr) (q_ge hO.lt (by omega))
                  replace c9_0 := Chg.cell (grown_chg hgr) c9_0 (q_off hO.lt (by omega))
                  have hKO := hKO.grown hO.own hgr
                  obtain ⟨A9, c9, rfl⟩ := ownsRow_slice hO2.own
                  refine Wops.cut 1 fun K1 hK1 => ?_
                  simp only [List.take_succ_cons, List.take_zero]
                  go_simp
                  refine hK1 _ _ ?_
                  clear hK1 K1
                  simp only [List.drop_succ_cons, List.drop_zero]
                  refine Wops.absS (b := n9) (i := 0) [_] (somes [cellVal c9_0] (by simp) (by intro j v hj; match j, hj with | 0, hj => (simp at hj; subst hj; exact c9_0))) fun P11 hP11 => ?_
                  have zP11 := hP11.same
                  replace f9 := Put.frz hP11 f9
                  replace hCg := hCg.put hP11 (by omega)
                  replace hKp := hKp.put hP11 (by omega)
                  replace hO2 := hO2.put hP11 (by omega)
                  replace hKO := hKO.put hP11 (by omega)
                  replace xr := Put.more xr hP11 (.inr (by simp))
                  replace xw := Put.to xw hP11 (by omega)
                  clear c9_0
                  have c9_0 := hP11.new 0 _ rfl
                  try simp only [Nat.reduceAdd, Nat.zero_add, Nat.add_zero] at c9_0
                  clear hP11
                  try simp only [Wops_nil, updO_some, updO_none]
                  refine hK _ _ ?_
                  clear hK K' gd
                  refine Ends.keep [9, 36, 37] fun r31 hkeep => ?_
                  obtain ⟨e9_31, e36_31, e37_31, -⟩ := hkeep
                  simp [go_sem, e9_29, e13_29, e36_29, e37_29, e47_29] at e9_31 e36_31 e37_31
                  clear e9_29 e13_29 e36_29 e37_29 e47_29
                  refine Ends.mk ?_
                  refine blockK_normal ?_
                  refine thenK_normal ?_
                  refine Wp.loneRegion (.inr ⟨_, rfl⟩) (by kernel_rfl) fun K' gd hK hg => ?_
                  clear hg
                  go_simp
                  refine hK _ _ ?_
                  clear hK K' gd
                  refine Ends.keep [9, 36, 37] fun r32 hkeep => ?_
                  obtain ⟨e9_32, e36_32, e37_32, -⟩ := hkeep
                  simp [go_sem, e9_31, e36_31, e37_31] at e9_32 e36_32 e37_32
                  clear e9_31 e36_31 e37_31
                  refine Ends.mk ?_
                  refine thenK_normal ⟨by omega, ⟨by rw [e9_32, e9_17], by rw [e36_32, e36_17], trivial⟩, rfl, trivial, ?_⟩
                  exact ⟨_, l ++ [y], by rw [e37_32, IntWalk.i64_in _ (by omega)]; rfl, xr, xw, hCg, hKp, hKO, c9_0, f9, by simpa using hO2, by omega, (), by rw [if_neg (by omega), hy2, addW, if_pos ⟨hy0, hm⟩]⟩
            · refine Wp.condF (by go_simp) ?_
              obtain rfl : j = 2 := by omega
              refine Wp.exit ?_
              refine thenK_exit ?_
              refine thenK_exit ?_
              refine blockK_here ?_
              refine blockK_normal ?_
              refine ⟨hKO.k, ⟨⟨xr, f9⟩, ?_⟩, hCg, hKp⟩
              exact ⟨_, c9_0, by rw [hL1, if_pos hdd, ← hx1.choose_spec, ← hx2.choose_spec, ← show l = addW (addW L0 x1) x2 from hl.choose_spec]; exact hO.free, fun q hq => (hO.lt q hq).2.1⟩
        · skip
          refine Wp.block ?_
          refine Wp.seq ?_
          refine Wp.seqRegion (.inr ⟨_, rfl⟩) (by kernel_rfl) fun K' gd hK hg => ?_
          clear hg
          refine Wops.cut 6 fun K1 hK1 => ?_
          simp only [List.take_succ_cons, List.take_zero]
          go_simp
          refine Wcall (.inr ⟨_, rfl⟩) (within_F hdd _) ?_
          rintro v w5 ⟨rfl, hE⟩
          go_simp
          refine hK1 _ _ ?_
          clear hK1 K1
          simp only [List.drop_succ_cons, List.drop_zero]
          have z33 := Below.size hE
          replace f3 := Ext.fz hE c3_0 f3
          replace f5 := Ext.fz hE c5_0 f5
          replace f9 := Ext.fz hE c9_0 f9
          replace f10 := Ext.fz hE c10_0 f10
          replace f11 := Ext.fz hE c11_0 f11
          replace hO := hO.ext hE
          replace hKp := hKp.ext hE
          replace hCg := hCg.ext hE
          replace hKO := hKO.ext hE
          replace xw := Ext.trans xw hE
          replace xr := Chg.ext xr hE
          replace xk := Chg.ext xk hE
          replace c3_0 := Ext.cell hE c3_0
          replace c3_1 := Ext.cell hE c3_1
          replace c5_0 := Ext.cell hE c5_0
          replace yw := Ext.cell hE yw
          replace y0 := Ext.cell hE y0
          replace y1 := Ext.cell hE y1
          replace yi := Ext.cell hE yi
          replace c9_0 := Ext.cell hE c9_0
          replace c10_0 := Ext.cell hE c10_0
          replace c10_1 := Ext.cell hE c10_1
          replace c11_0 := Ext.cell hE c11_0
          replace c11_1 := Ext.cell hE c11_1
          replace c11_2 := Ext.cell hE c11_2
          clear hE
          go_simp
          refine hK _ _ ?_
          clear hK K' gd
          refine Wp.keep [9, 11, 34] fun r34 hkeep => ?_
          obtain ⟨e9_34, e11_34, e34_34, -⟩ := hkeep
          simp [go_sem, e5_14, e9_14, e10_14, e11_14] at e9_34 e11_34 e34_34
          clear e5_14 e9_14 e10_14 e11_14
          refine Wp.condT (by go_simp) ?_
          refine Wp.exit ?_
          refine thenK_exit ?_
          refine blockK_here ?_
          refine ⟨hKO.k, ⟨⟨xr, f9⟩, ?_⟩, hCg, hKp⟩
          exact ⟨_, c9_0, by rw [hL1, if_neg hdd]; exact hO, fun q hq => (hO.lt q hq).2.1⟩
      · rintro rm g W hrm ⟨⟨xr, gf9⟩, ⟨v9, gc9_0, hO, hlt⟩⟩ hmk
        have zxr := Chg.size xr
        replace f3 := Chg.fz xr c3_0 f3 XN
        replace f5 := Chg.fz xr c5_0 f5 XN
        clear f9
        replace xw := Chg.to xw xr XL
        replace c3_0 := Chg.cell xr c3_0 XN
        replace c3_1 := Chg.cell xr c3_1 XN
        replace c5_0 := Chg.cell xr c5_0 XN
        replace yw := Chg.cell xr yw XN
        clear c9_0
        replace y0 := Chg.cell xr y0 XN
        replace y1 := Chg.cell xr y1 XN
        replace yi := Chg.cell xr yi XN
        have f9 := gf9
        clear gf9
        have c9_0 := gc9_0
        clear gc9_0
        refine blockK_normal ?_
        refine thenK_normal ?_
        refine Wp.seqRegion (.inl rfl) (by kernel_rfl) fun K' gd hK hg => ?_
        clear hg
        go_simp
        refine hK _ _ ?_
        clear hK K' gd
        refine Wp.keep [6, 7] fun r35 hkeep => ?_
        obtain ⟨e6_35, e7_35, -⟩ := hkeep
        simp [go_sem, e5_10, e9_10, e25_10] at e6_35 e7_35
        clear e5_10 e9_10 e25_10
        refine Wp.ret ?_
        refine endM_tmp2 Try.results25 (by decide) (by decide) ((Marks.one (by first | omega | (simp at hrm; omega)) hmk)) fun wz hS => ?_
        rw [e6_35, e7_35]
        refine ⟨_, by unfold readE; rw [if_pos h0, if_pos hd], ?_, Shut.ext xw hS⟩
        rw [if_pos (by unfold readE; rw [if_pos h0, if_pos hd])]; rw [show ((n : Int)).toNat = n from rfl, ← reads_on hg.sorted n hd.1 hd.2]; rw [List.take_length] at hO; exact ((hO.ints).less (by omega)).shut hS
      · rintro rm c W hrm hf hmk
        exact hf.elim
    · skip
      refine Wp.skip ?_
      refine thenK_normal ?_
      refine Wp.seq ?_
      refine Wp.seqRegion (.inl rfl) (by kernel_rfl) fun K' gd hK hg => ?_
      clear hg
      refine Wops.cut 2 fun K1 hK1 => ?_
      simp only [List.take_succ_cons, List.take_zero]
      go_simp
      refine Wcall (.inl rfl) (within_F hd _) ?_
      rintro v w3 ⟨rfl, hE⟩
      go_simp
      refine hK1 _ _ ?_
      clear hK1 K1
      simp only [List.drop_succ_cons, List.drop_zero]
      have z36 := Below.size hE
      replace f3 := Ext.fz hE c3_0 f3
      replace f5 := Ext.fz hE c5_0 f5
      replace xw := Ext.trans xw hE
      replace c3_0 := Ext.cell hE c3_0
      replace c3_1 := Ext.cell hE c3_1
      replace c5_0 := Ext.cell hE c5_0
      clear hE
      go_simp
      refine hK _ _ ?_
      clear hK K' gd
      refine Wp.keep [1, 3, 5, 22] fun r37 hkeep => ?_
      obtain ⟨e1_37, e3_37, e5_37, e22_37, -⟩ := hkeep
      simp [go_sem, e1_5, e3_5, e5_5, e8_5, e18_5] at e1_37 e3_37 e5_37 e22_37
      clear e1_5 e3_5 e5_5 e8_5 e18_5
      refine Wp.condT (by go_simp) ?_
      refine Wp.seqRegion (.inl rfl) (by kernel_rfl) fun K' gd hK hg => ?_
      clear hg
      go_simp
      refine hK _ _ ?_
      clear hK K' gd
      refine Wp.keep [6, 7] fun r38 hkeep => ?_
      obtain ⟨e6_38, e7_38, -⟩ := hkeep
      simp [go_sem, e1_37, e3_37, e5_37, e22_37] at e6_38 e7_38
      clear e1_37 e3_37 e5_37 e22_37
      refine Wp.ret ?_
      refine thenK_ret ?_
      refine endM_tmp2 Try.results25 (by decide) (by decide) (trivial) fun wz hS => ?_
      rw [e6_38, e7_38]
      refine ⟨_, by unfold readE; rw [if_pos h0, if_neg hd], ?_, Shut.ext xw hS⟩
      rw [if_neg (by unfold readE; rw [if_pos h0, if_neg hd]; decide)]; exact World.ownsRow_nil _ _ _ _
  · skip
    refine Wp.seqRegion (.inl rfl) (by kernel_rfl) fun K' gd hK hg => ?_
    clear hg
    go_simp
    refine hK _ _ ?_
    clear hK K' gd
    refine Wp.keep [1, 3, 5, 8, 18] fun r39 hkeep => ?_
    obtain ⟨e1_39, e3_39, e5_39, e8_39, e18_39, -⟩ := hkeep
    simp [go_sem, e1_4, e3_4, e5_4, e8_4] at e1_39 e3_39 e5_39 e8_39 e18_39
    clear e1_4 e3_4 e5_4 e8_4
    refine Wp.condT (by go_simp) ?_
    refine Wp.seqRegion (.inl rfl) (by kernel_rfl) fun K' gd hK hg => ?_
    clear hg
    go_simp
    refine hK _ _ ?_
    clear hK K' gd
    refine Wp.keep [6, 7] fun r40 hkeep => ?_
    obtain ⟨e6_40, e7_40, -⟩ := hkeep
    simp [go_sem, e1_39, e3_39, e5_39, e8_39, e18_39] at e6_40 e7_40
    clear e1_39 e3_39 e5_39 e8_39 e18_39
    refine Wp.ret ?_
    refine thenK_ret ?_
    refine endM_tmp2 Try.results25 (by decide) (by decide) (trivial) fun wz hS => ?_
    rw [e6_40, e7_40]
    refine ⟨_, by unfold readE; rw [if_neg h0], ?_, Shut.ext xw hS⟩
    rw [if_neg (by unfold readE; rw [if_neg h0]; exact h0)]; exact World.ownsRow_nil _ _ _ _
end Go.Proofs.Ytnjajbkkgfohaaa
namespace Go.Proofs.Ytnjajbkkgfohaaa
open Go.RowKit Go.Wk Go.Proofs

theorem ownsRow_store {w V : World} {base e size n c b i : Nat} {xs vs : List Value} (h : w.ownsRow base e size (.slice (some ⟨b, 0, none⟩) n c) n xs) (p : Put w V b i vs) (hl : i + vs.length ≤ n * size) :
    V.ownsRow base e size (.slice (some ⟨b, 0, none⟩) n c) n (xs.take i ++ vs ++ xs.drop (i + vs.length)) := by
  obtain ⟨h1, h2⟩ := h
  refine ⟨by simp; omega, ?_⟩
  rcases h2 with ⟨h2, -⟩ | ⟨g, cap, cur, hv, hb, hg, hnc, hcm, hcs, htake⟩
  · cases h2
  · injection hv with e1 e2 e3
    injection e1 with e1; injection e1 with e1
    subst e1; subst e3
    obtain ⟨cs', hV, hsz⟩ := p.row cur e hg
    refine .inr ⟨b, c, cs', rfl, hb, hV, hnc, hcm, by rw [hsz, hcs], ?_⟩
    have cw : ∀ j, w.cell? ⟨b, j, none⟩ = cur[j]? := fun j => by simp [World.cell?, hg]
    have cV : ∀ j, V.cell? ⟨b, j, none⟩ = cs'[j]? := fun j => by simp [World.cell?, hV]
    have hx : ∀ j, j < n * size → xs[j]? = cur[j]? := fun j hj => by rw [← htake, List.getElem?_take, if_pos hj, Array.getElem?_toList]
    apply List.ext_getElem?
    intro j
    rw [List.getElem?_take]
    by_cases hj : j < n * size
    · rw [if_pos hj, Array.getElem?_toList, ← cV]
      by_cases ha : j < i
      · rw [p.old j (.inl ha), cw, ← hx j hj, List.append_assoc, List.getElem?_append_left (by simp; omega), List.getElem?_take, if_pos ha]
      · by_cases hb2 : j < i + vs.length
        · have := p.new (j - i) (vs[j - i]'(by omega)) (by rw [nthV_eq]; exact List.getElem?_eq_getElem _)
          rw [show i + (j - i) = j by omega] at this
          rw [this, List.append_assoc, List.getElem?_append_right (by simp; omega), List.getElem?_append_left (by simp; omega)]
          simp only [List.length_take]
          rw [show j - min i xs.length = j - i by omega, List.getElem?_eq_getElem]
        · rw [p.old j (.inr (by omega)), cw, ← hx j hj, List.getElem?_append_right (by simp; omega), List.getElem?_drop]
          congr 1
          simp; omega
    · rw [if_neg hj, List.getElem?_eq_none]
      simp; omega
theorem OutG.store {w V : World} {base g lo hi e size n c b i : Nat} {xs vs : List Value} (h : OutG w base g lo hi e size (.slice (some ⟨b, 0, none⟩) n c) n xs) (p : Put w V b i vs) (hl : i + vs.length ≤ n * size) :
    OutG V base g lo hi e size (.slice (some ⟨b, 0, none⟩) n c) n (xs.take i ++ vs ++ xs.drop (i + vs.length)) := ⟨ownsRow_store h.own p hl, h.off⟩
theorem encL_len (l : List (Int × Int)) : (encL l).length = l.length * 2 := by
  induction l with
  | nil => rfl
  | cons s l ih =>
    have e : encL (s :: l) = .int .i64 s.1 :: .int .i64 s.2 :: encL l := rfl
    rw [e, List.length_cons, List.length_cons, List.length_cons, ih]; omega
theorem encL_set (l : List (Int × Int)) (s : Int × Int) (hi : Int) : (encL (l ++ [s])).take (l.length * 2 + 1) ++ [.int .i64 hi] ++ (encL (l ++ [s])).drop (l.length * 2 + 1 + [Value.int .i64 hi].length) = encL (l ++ [(s.1, hi)]) := by
  have h := encL_len l
  rw [encL_add, encL_add, List.take_append, List.drop_append, h, List.take_of_length_le (by omega), List.drop_of_length_le (by simp; omega), show l.length * 2 + 1 - l.length * 2 = 1 by omega, show l.length * 2 + 1 + [Value.int .i64 hi].length - l.length * 2 = 2 by simp; omega]
  simp
theorem encL_get {l : List (Int × Int)} {k : Nat} {s : Int × Int} (h : l[k]? = some s) : (encL l)[k * 2]? = some (.int .i64 s.1) ∧ (encL l)[k * 2 + 1]? = some (.int .i64 s.2) := by
  induction l generalizing k with
  | nil => simp at h
  | cons a l ih =>
    cases k with
    | zero => simp at h; subst h; exact ⟨rfl, rfl⟩
    | succ k =>
      rw [List.getElem?_cons_succ] at h
      have := ih h
      have e : encL (a :: l) = .int .i64 a.1 :: .int .i64 a.2 :: encL l := rfl
      rw [e, show (k + 1) * 2 = k * 2 + 1 + 1 by omega, List.getElem?_cons_succ, List.getElem?_cons_succ, show k * 2 + 1 + 1 + 1 = k * 2 + 1 + 1 + 1 from rfl, List.getElem?_cons_succ, List.getElem?_cons_succ]
      exact this
/-- spans in memory of our own -/
def OwnZ (w : World) (base : Nat) (v : Value) (xs : List (Int × Int)) : Prop := w.ownsRow base 62 2 v xs.length (encL xs)
theorem OwnZ.ext {w w' : World} {base : Nat} {v : Value} {xs : List (Int × Int)} (h : OwnZ w base v xs) (hE : Ext w w') : OwnZ w' base v xs := ownsRow_ext h hE
theorem OwnZ.less {w : World} {base b2 : Nat} {v : Value} {xs : List (Int × Int)} (h : OwnZ w base v xs) (hb : b2 ≤ base) : OwnZ w b2 v xs := ownsRow_less h hb
theorem OwnZ.shut {w w' : World} {m base : Nat} {v : Value} {xs : List (Int × Int)} (h : OwnZ w base v xs) (hS : Shut m w w') : OwnZ w' base v xs := ownsRow_shut h hS
theorem OwnZ.spans {w : World} {base : Nat} {v : Value} {xs : List (Int × Int)} (h : OwnZ w base v xs) : SpansV w w.heap.size v xs := by
  rcases h.2 with ⟨rfl, hn⟩ | ⟨g, cap, cur, rfl, hb, hg, hnc, hcm, hcs, htake⟩
  · obtain rfl : xs = [] := List.eq_nil_of_length_eq_zero hn
    exact ⟨none, 0, rfl, fun h => absurd rfl h, Nat.le_refl _⟩
  · refine ⟨_, cap, rfl, fun _ => ⟨g, 0, rfl, (Array.getElem?_eq_some_iff.1 hg).1, fun k hk r u hu => ?_⟩, hnc⟩
    obtain ⟨h1, h2⟩ := encL_get (List.getElem?_eq_getElem hk)
    have cells := World.ownsRow.cells h (g := g) rfl
    match r, hu with
    | 0, hu =>
      have := cells _ _ h1
      rw [Addr.add_lit] at this
      simp [encZ] at hu; subst hu; simpa using this
    | 1, hu =>
      have := cells _ _ h2
      rw [Addr.add_lit] at this
      simp [encZ] at hu; subst hu; simpa [Nat.add_assoc] using this
    | r + 2, hu => simp [encZ] at hu
theorem spans_T : ElemT Try.prog 37 62 2 := elemT_of (by kernel_rfl)
end Go.Proofs.Ytnjajbkkgfohaaa
namespace Go.Proofs.Ytnjajbkkgfohaaa
open Go.RowKit Go.Wk Go.Proofs
attribute [local irreducible] Go.Wk.Wops Go.Wk.Wp Go.Wk.Mtree Go.Wk.Mops
set_option maxHeartbeats 4000000
set_option maxRecDepth 20000

theorem addS_in {P : Int × Int → Prop} {out : List (Int × Int)} {lo hi : Int} (h : ∀ y ∈ out, P y) (h1 : P (lo, hi)) (h2 : ∀ y, P y → P (y.1, hi)) : ∀ y ∈ addS out lo hi, P y := by
  intro y hy
  rcases List.eq_nil_or_concat out with rfl | ⟨l, s, rfl⟩
  · simp [addS] at hy; subst hy; exact h1
  · simp only [List.concat_eq_append] at h hy
    rw [addS_snoc] at hy
    split at hy
    · rcases List.mem_append.1 hy with hy | hy
      · exact h y (by simp [hy])
      · simp at hy; subst hy; exact h2 s (h s (by simp))
    · rcases List.mem_append.1 hy with hy | hy
      · exact h y hy
      · simp at hy; subst hy; exact h1
theorem whenF_in {w : Int} : ∀ {l : List (Int × Int × Face)} {out : List (Int × Int)}, (∀ x ∈ l, 0 ≤ x.1 ∧ 0 ≤ x.2.1 ∧ x.2.1 ≤ 730) → (∀ y ∈ out, 0 ≤ y.1 ∧ 0 ≤ y.2 ∧ y.2 ≤ 730) → ∀ y ∈ whenF w l out, 0 ≤ y.1 ∧ 0 ≤ y.2 ∧ y.2 ≤ 730
  | [], _, _, h, y, hy => h y hy
  | x :: l, out, hl, h, y, hy => by
    have hx := hl x List.mem_cons_self
    have e : whenF w (x :: l) out = whenF w l (if rds x.2.2 w = true then addS out x.1 x.2.1 else out) := rfl
    rw [e] at hy
    refine whenF_in (fun z hz => hl z (List.mem_cons_of_mem _ hz)) (fun z hz => ?_) y hy
    split at hz
    · exact addS_in (P := fun y => 0 ≤ y.1 ∧ 0 ≤ y.2 ∧ y.2 ≤ 730) h ⟨hx.1, hx.2⟩ (fun y hy => ⟨hy.1, hx.2⟩) z hz
    · exact h z hz
theorem whenF_snoc (w : Int) (l : List (Int × Int × Face)) (x : Int × Int × Face) (out : List (Int × Int)) : whenF w (l ++ [x]) out = if rds x.2.2 w = true then addS (whenF w l out) x.1 x.2.1 else whenF w l out := by
  unfold whenF; rw [List.foldl_append]; rfl
theorem whenF_take {w : Int} {l : List (Int × Int × Face)} {k : Nat} {x : Int × Int × Face} (h : l[k]? = some x) : whenF w (l.take (k + 1)) [] = if rds x.2.2 w = true then addS (whenF w (l.take k) []) x.1 x.2.1 else whenF w (l.take k) [] := by
  rw [take_one h, whenF_snoc]
theorem own_some {w : World} {base g lo hi e size n : Nat} {A : Option Addr} {c : Nat} {xs : List Value} (h : OutG w base g lo hi e size (.slice A n c) n xs) (hn : n ≠ 0) : ∃ b, A = some ⟨b, 0, none⟩ := by
  rcases h.own.2 with ⟨-, h⟩ | ⟨g, cap, cur, hv, -⟩
  · exact absurd h hn
  · injection hv with e1; exact ⟨g, e1⟩
theorem own_fz {w : World} {base e size n c b : Nat} {xs : List Value} (h : w.ownsRow base e size (.slice (some ⟨b, 0, none⟩) n c) n xs) : ∀ j, w.frozen? ⟨b, j, none⟩ = false := by
  intro j
  rcases h.2 with ⟨h, -⟩ | ⟨g, cap, cur, hv, hb, hg, -⟩
  · cases h
  · injection hv with e1 e2 e3
    injection e1 with e1; injection e1 with e1
    subst e1
    simp [World.frozen?, hg]
theorem one_two {u v : Value} (h : u.oneCell' = true) (h2 : v.oneCell' = true) : ∀ x ∈ [u, v], x.oneCell' = true := by
  intro x hx; simp at hx; rcases hx with rfl | rfl <;> assumption
theorem when_c (v : Value) (s : Sh) (n : Nat) (word : Int) (w : World) (hV : SheetV w w.heap.size v s) (hg : Good s) (hnl : n < s.words.length) :
    CallsV Try.prog 82 #[v, .int .i64 (n : Int), .int .i64 word] w fun v w' => OwnZ w' w.heap.size v (s.whenL n word) ∧ Ext w w' := by
  obtain ⟨wv, av, rfl, ⟨A, c1, rfl, hx, -⟩, ⟨A3, c3, rfl, -, -⟩⟩ := id hV
  have hA : AltsV w w.heap.size (.slice A3 s.alts.length c3) s.alts := by obtain ⟨wv, av, e, -, h⟩ := hV; injection e with e; simp at e; obtain ⟨-, rfl⟩ := e; exact h
  obtain ⟨b, o, rfl, hb, hc⟩ := hx (by rintro e; rw [e] at hnl; exact absurd hnl (Nat.not_lt_zero _))
  have yw := hc n hnl
  rw [Sh.W_get hnl] at yw
  clear hc hx
  refine Wp.fnM Try.func82 rfl Try.ntmps82 (by simp) ?_
  have xw := Ext.refl w
  refine Wp.keep [0, 1, 2] fun r1 hkeep => ?_
  obtain ⟨e0_1, e1_1, e2_1, -⟩ := hkeep
  simp [go_sem] at e0_1 e1_1 e2_1
  refine Wp.seqRegion (.inl rfl) (by kernel_rfl) fun K' gd hK hg => ?_
  clear hg
  refine Wops.cut 1 fun K1 hK1 => ?_
  simp only [List.take_succ_cons, List.take_zero]
  go_simp
  refine hK1 _ _ ?_
  clear hK1 K1
  simp only [List.drop_succ_cons, List.drop_zero]
  refine Wops.absA fun V3_1 n3 hV3_1 => ?_
  obtain ⟨q3, hV3_1, s3, kV3_1, f3, r3⟩ := hV3_1
  try simp only [q3] at kV3_1 f3 r3 ⊢
  replace xw := Ext.trans xw hV3_1
  replace yw := Ext.cell hV3_1 yw
  have c3_0 := kV3_1 0 _ rfl
  have c3_1 := kV3_1 1 _ rfl
  clear kV3_1 hV3_1
  clear r3
  refine Wops.cut 1 fun K1 hK1 => ?_
  simp only [List.take_succ_cons, List.take_zero]
  go_simp
  refine hK1 _ _ ?_
  clear hK1 K1
  simp only [List.drop_succ_cons, List.drop_zero]
  refine Wops.absA fun V5_2 n5 hV5_2 => ?_
  obtain ⟨q5, hV5_2, s5, kV5_2, f5, r5⟩ := hV5_2
  try simp only [q5] at kV5_2 f5 r5 ⊢
  replace f3 := Ext.fz hV5_2 c3_0 f3
  replace xw := Ext.trans xw hV5_2
  replace yw := Ext.cell hV5_2 yw
  replace c3_0 := Ext.cell hV5_2 c3_0
  replace c3_1 := Ext.cell hV5_2 c3_1
  have c5_0 := kV5_2 0 _ rfl
  clear kV5_2 hV5_2
  clear r5
  go_simp
  refine hK _ _ ?_
  clear hK K' gd
  refine Wp.keep [1, 3, 5] fun r2 hkeep => ?_
  obtain ⟨e1_2, e3_2, e5_2, -⟩ := hkeep
  simp [go_sem, e0_1, e1_1, e2_1] at e1_2 e3_2 e5_2
  clear e0_1 e1_1 e2_1
  refine Wp.seqRegion (.inl rfl) (by kernel_rfl) fun K' gd hK hg => ?_
  clear hg
  refine Wops.cut 1 fun K1 hK1 => ?_
  simp only [List.take_succ_cons, List.take_zero]
  go_simp
  refine hK1 _ _ ?_
  clear hK1 K1
  simp only [List.drop_succ_cons, List.drop_zero]
  refine Wops.absA fun V7_3 n7 hV7_3 => ?_
  obtain ⟨q7, hV7_3, s7, kV7_3, f7, r7⟩ := hV7_3
  try simp only [q7] at kV7_3 f7 r7 ⊢
  replace f3 := Ext.fz hV7_3 c3_0 f3
  replace f5 := Ext.fz hV7_3 c5_0 f5
  replace xw := Ext.trans xw hV7_3
  replace yw := Ext.cell hV7_3 yw
  replace c3_0 := Ext.cell hV7_3 c3_0
  replace c3_1 := Ext.cell hV7_3 c3_1
  replace c5_0 := Ext.cell hV7_3 c5_0
  have c7_0 := kV7_3 0 _ rfl
  clear kV7_3 hV7_3
  clear r7
  try simp only [Wops_nil, updO_some, updO_none]
  refine hK _ _ ?_
  clear hK K' gd
  refine Wp.keep [1, 3, 5, 7] fun r3 hkeep => ?_
  obtain ⟨e1_3, e3_3, e5_3, e7_3, -⟩ := hkeep
  simp [go_sem, e1_2, e3_2, e5_2] at e1_3 e3_3 e5_3 e7_3
  clear e1_2 e3_2 e5_2
  refine Wp.seq ?_
  refine Wp.seqRegion (.inl rfl) (by kernel_rfl) fun K' gd hK hg => ?_
  clear hg
  refine Wops.cut 3 fun K1 hK1 => ?_
  simp only [List.take_succ_cons, List.take_zero]
  go_simp
  refine Wcall (.inl rfl) (faces_c _ (n : Int) _ _ _ rfl rfl rfl) ?_
  rintro v w4 ⟨bs, bi, rfl, hE, y0, y1, yi, lbs, lbi⟩
  go_simp
  refine hK1 _ _ ?_
  clear hK1 K1
  simp only [List.drop_succ_cons, List.drop_zero]
  have z4 := Below.size hE
  replace f3 := Ext.fz hE c3_0 f3
  replace f5 := Ext.fz hE c5_0 f5
  replace f7 := Ext.fz hE c7_0 f7
  replace xw := Ext.trans xw hE
  replace yw := Ext.cell hE yw
  replace c3_0 := Ext.cell hE c3_0
  replace c3_1 := Ext.cell hE c3_1
  replace c5_0 := Ext.cell hE c5_0
  replace c7_0 := Ext.cell hE c7_0
  clear hE
  try simp only [Wops_nil, updO_some, updO_none]
  refine hK _ _ ?_
  clear hK K' gd
  refine Wp.keep [5, 7, 13] fun r5 hkeep => ?_
  obtain ⟨e5_5, e7_5, e13_5, -⟩ := hkeep
  simp [go_sem, e1_3, e3_3, e5_3, e7_3] at e5_5 e7_5 e13_5
  clear e1_3 e3_3 e5_3 e7_3
  obtain ⟨B0, hB0⟩ : ∃ B0 : Nat, B0 = w4.heap.size := ⟨_, rfl⟩
  have l0 := hA.ext xw
  have qb : bs < w4.heap.size := cell_lt y0
  have qi : bi < w4.heap.size := cell_lt yi
  have qw : b < w4.heap.size := cell_lt yw
  refine Wp.block ?_
  refine Wp.rangeH (faces_it s n bs bi b o _ c1 A3 c3 hnl (by have := hg.m2; omega) (fun a ha => ⟨by have := (hg.rt a ha).2.1; omega, (hg.rt a ha).2.1.2⟩)) (by go_simp) (enters_of Try.func126 (by kernel_rfl) rfl) (fun _ _ => rfl) (fun g k W => (Chg [n7] w4 W ∧ (∀ i, W.frozen? ⟨n7, i, none⟩ = false)) ∧ (∃ v, W.cell? ⟨n7, 0, none⟩ = some v ∧ OutG W B0 g 0 0 62 2 v (whenF word ((s.faces n).take k) []).length (encL (whenF word ((s.faces n).take k) [])) ∧ (∀ q, v.ownBlock = some q → q < W.heap.size))) (fun _ _ => False) ?_ ?_ ?_ ?_ ?_ ?_ ?_
  · rintro g k W ⟨⟨xr, gf7⟩, ⟨v7, gc7_0, hO, hlt⟩⟩
    exact FacesD.chg ⟨y0, y1, yi, yw, l0⟩ xr (by simp; omega) (by simp; omega) (by simp; omega) (hA.ext (Chg.to xw xr XL))
  · refine ⟨?_, ?_, ?_⟩
    · rintro g k W W' hA ⟨⟨xr, gf7⟩, ⟨v7, gc7_0, hO, hlt⟩⟩
      refine ⟨⟨Adm.chg hA xr (Nat.le_refl _), Adm.fz hA gc7_0 gf7⟩, ?_⟩
      exact ⟨v7, hA.cell gc7_0, hO.adm hA, fun q hq => Nat.lt_of_lt_of_le (hlt q hq) hA.size⟩
    · rintro g k W W' hgn hA ⟨⟨xr, gf7⟩, ⟨v7, gc7_0, hO, hlt⟩⟩
      refine ⟨⟨Chg.more xr hA (mem1 (.inl hgn)), Chg.fz hA gc7_0 gf7 (by simp; omega)⟩, ?_⟩
      exact ⟨v7, Chg.cell hA gc7_0 (by simp; omega), hO.chg hA (by simp), fun q hq => Nat.lt_of_lt_of_le (hlt q hq) (Chg.size hA)⟩
    · skip
      exact fun g x W W' hA h => facC.adm h hA
  · skip
    exact fun _ _ _ _ h => h
  · intro g W hgn hA
    refine ⟨⟨Adm.chg hA (Chg.refl _ _) (Nat.le_refl _), Adm.fz hA c7_0 f7⟩, ?_⟩
    exact ⟨_, hA.cell c7_0, OutG.nil _ _ _ _ _ _ _, fun q hq => by cases hq⟩
  · rintro l g k x W Wy hx ⟨⟨xr, gf7⟩, ⟨v7, gc7_0, hO, hlt⟩⟩ hVW hCg hl hgn
    have zxr := Chg.size xr
    replace f3 := Chg.fz xr c3_0 f3 XN
    replace f5 := Chg.fz xr c5_0 f5 XN
    clear f7
    replace xw := Chg.to xw xr XL
    replace yw := Chg.cell xr yw XN
    replace c3_0 := Chg.cell xr c3_0 XN
    replace c3_1 := Chg.cell xr c3_1 XN
    replace c5_0 := Chg.cell xr c5_0 XN
    clear c7_0
    replace y0 := Chg.cell xr y0 XN
    replace y1 := Chg.cell xr y1 XN
    replace yi := Chg.cell xr yi XN
    have f7 := gf7
    clear gf7
    have c7_0 := gc7_0
    clear gc7_0
    have z6 := Below.size hVW
    replace f3 := Ext.fz hVW c3_0 f3
    replace f5 := Ext.fz hVW c5_0 f5
    replace f7 := Ext.fz hVW c7_0 f7
    replace hO := hO.ext hVW
    replace xw := Ext.trans xw hVW
    replace xr := Chg.ext xr hVW
    replace yw := Ext.cell hVW yw
    replace c3_0 := Ext.cell hVW c3_0
    replace c3_1 := Ext.cell hVW c3_1
    replace c5_0 := Ext.cell hVW c5_0
    replace y0 := Ext.cell hVW y0
    replace y1 := Ext.cell hVW y1
    replace yi := Ext.cell hVW yi
    replace c7_0 := Ext.cell hVW c7_0
    have hKp := Held.refl W Wy
    have xb := Ext.refl Wy
    simp only [encF, List.zip_toArray, List.zip_cons_cons, List.zip_nil_left, putL_cons, putL_nil]
    refine Wp.keep [5, 7, 14, 15] fun r7 hkeep => ?_
    obtain ⟨e5_7, e7_7, e14_7, e15_7, -⟩ := hkeep
    simp [go_sem, e5_5, e7_5, e13_5] at e5_7 e7_7 e14_7 e15_7
    refine Wp.seqRegion (.inr ⟨_, rfl⟩) (by kernel_rfl) fun K' gd hK hg => ?_
    clear hg
    refine Wops.cut 2 fun K1 hK1 => ?_
    simp only [List.take_succ_cons, List.take_zero]
    go_simp
    refine hK1 _ _ ?_
    clear hK1 K1
    simp only [List.drop_succ_cons, List.drop_zero]
    refine Wops.absA fun V8_6 n8 hV8_6 => ?_
    obtain ⟨q8, hV8_6, s8, kV8_6, f8, r8⟩ := hV8_6
    try simp only [q8] at kV8_6 f8 r8 ⊢
    replace f3 := Ext.fz hV8_6 c3_0 f3
    replace f5 := Ext.fz hV8_6 c5_0 f5
    replace f7 := Ext.fz hV8_6 c7_0 f7
    replace hO := hO.ext hV8_6
    replace hKp := hKp.ext hV8_6
    replace hCg := hCg.ext hV8_6
    replace xw := Ext.trans xw hV8_6
    replace xr := Chg.ext xr hV8_6
    replace xb := Ext.trans xb hV8_6
    replace yw := Ext.cell hV8_6 yw
    replace c3_0 := Ext.cell hV8_6 c3_0
    replace c3_1 := Ext.cell hV8_6 c3_1
    replace c5_0 := Ext.cell hV8_6 c5_0
    replace y0 := Ext.cell hV8_6 y0
    replace y1 := Ext.cell hV8_6 y1
    replace yi := Ext.cell hV8_6 yi
    replace c7_0 := Ext.cell hV8_6 c7_0
    have c8_0 := kV8_6 0 _ rfl
    have c8_1 := kV8_6 1 _ rfl
    clear kV8_6 hV8_6
    clear r8
    try simp only [Wops_nil, updO_some, updO_none]
    refine hK _ _ ?_
    clear hK K' gd
    refine Wp.keep [5, 7, 8, 15] fun r8 hkeep => ?_
    obtain ⟨e5_8, e7_8, e8_8, e15_8, -⟩ := hkeep
    simp [go_sem, e5_7, e7_7, e14_7, e15_7] at e5_8 e7_8 e8_8 e15_8
    clear e5_7 e7_7 e14_7 e15_7
    refine Wp.loneRegion (.inr ⟨_, rfl⟩) (by kernel_rfl) fun K' gd hK hg => ?_
    clear hg
    refine Wops.cut 2 fun K1 hK1 => ?_
    simp only [List.take_succ_cons, List.take_zero]
    go_simp
    refine hK1 _ _ ?_
    clear hK1 K1
    simp only [List.drop_succ_cons, List.drop_zero]
    refine Wops.absA fun V9_7 n9 hV9_7 => ?_
    obtain ⟨q9, hV9_7, s9, kV9_7, f9, r9⟩ := hV9_7
    try simp only [q9] at kV9_7 f9 r9 ⊢
    replace f3 := Ext.fz hV9_7 c3_0 f3
    replace f5 := Ext.fz hV9_7 c5_0 f5
    replace f7 := Ext.fz hV9_7 c7_0 f7
    replace f8 := Ext.fz hV9_7 c8_0 f8
    replace hO := hO.ext hV9_7
    replace hKp := hKp.ext hV9_7
    replace hCg := hCg.ext hV9_7
    replace xw := Ext.trans xw hV9_7
    replace xr := Chg.ext xr hV9_7
    replace xb := Ext.trans xb hV9_7
    replace yw := Ext.cell hV9_7 yw
    replace c3_0 := Ext.cell hV9_7 c3_0
    replace c3_1 := Ext.cell hV9_7 c3_1
    replace c5_0 := Ext.cell hV9_7 c5_0
    replace y0 := Ext.cell hV9_7 y0
    replace y1 := Ext.cell hV9_7 y1
    replace yi := Ext.cell hV9_7 yi
    replace c7_0 := Ext.cell hV9_7 c7_0
    replace c8_0 := Ext.cell hV9_7 c8_0
    replace c8_1 := Ext.cell hV9_7 c8_1
    have c9_0 := kV9_7 0 _ rfl
    have c9_1 := kV9_7 1 _ rfl
    have c9_2 := kV9_7 2 _ rfl
    clear kV9_7 hV9_7
    clear r9
    try simp only [Wops_nil, updO_some, updO_none]
    refine hK _ _ ?_
    clear hK K' gd
    refine Ends.keep [5, 7, 8, 9] fun r9 hkeep => ?_
    obtain ⟨e5_9, e7_9, e8_9, e9_9, -⟩ := hkeep
    simp [go_sem, e5_8, e7_8, e8_8, e15_8] at e5_9 e7_9 e8_9 e9_9
    clear e5_8 e7_8 e8_8 e15_8
    refine Ends.mk ?_
    refine thenK_normal ?_
    refine ⟨KeepsOthers.of_ext xb, fun W2 hA2 hl2 => ?_⟩
    replace f3 := Adm.fz hA2 c3_0 f3
    replace f5 := Adm.fz hA2 c5_0 f5
    replace f7 := Adm.fz hA2 c7_0 f7
    replace f8 := Adm.fz hA2 c8_0 f8
    replace f9 := Adm.fz hA2 c9_0 f9
    replace xw := Adm.toE hA2 xw (by omega)
    replace xr := Adm.chg hA2 xr (by omega)
    clear xb
    replace hO := hO.adm hA2
    replace hKp := hKp.adm hA2
    replace hCg := hCg.adm hA2
    replace yw := Adm.cell hA2 yw
    replace c3_0 := Adm.cell hA2 c3_0
    replace c3_1 := Adm.cell hA2 c3_1
    replace c5_0 := Adm.cell hA2 c5_0
    replace y0 := Adm.cell hA2 y0
    replace y1 := Adm.cell hA2 y1
    replace yi := Adm.cell hA2 yi
    replace c7_0 := Adm.cell hA2 c7_0
    replace c8_0 := Adm.cell hA2 c8_0
    replace c8_1 := Adm.cell hA2 c8_1
    replace c9_0 := Adm.cell hA2 c9_0
    replace c9_1 := Adm.cell hA2 c9_1
    replace c9_2 := Adm.cell hA2 c9_2
    obtain ⟨lr, hl2⟩ := hl2
    have xk := Chg.refl [n7] W2
    have kb_n7 := IsC.of c7_0
    have hKO : KeepR W2 W2 := ⟨KeepsOthers.refl _⟩
    have zA2 := hA2.size
    have hin := whenF_in (w := word) (l := (s.faces n).take k) (out := []) (fun x hx => by have := faces_le (i := n) (f := (s.W n, 0, false)) hg.sorted (by decide) x (List.mem_of_mem_take hx); omega) (by simp)
    obtain ⟨L0, hL0⟩ : ∃ L0, ∃ _u : Unit, L0 = whenF word ((s.faces n).take k) [] := ⟨_, (), rfl⟩
    have hL1 := whenF_take (w := word) hx
    rw [← hL0.choose_spec] at hO hL1 hin
    have hLl : L0.length ≤ 1000 := by rw [hL0.choose_spec]; have q1 := whenF_len word ((s.faces n).take k) []; have q2 := faces_len n s.alts (s.W n, 0, false) 0; have q3 := hg.m2; rw [List.length_take] at q1; unfold Sh.faces at *; simp at q1; omega
    obtain ⟨L2, hL2⟩ : ∃ L2, ∃ _u : Unit, L2 = whenF word ((s.faces n).take (k + 1)) [] := ⟨_, (), rfl⟩
    rw [← hL2.choose_spec] at hL1 ⊢
    replace hO := hO.lohi (l := W.heap.size) (h' := W2.heap.size) hlt
    obtain ⟨A7, c7, rfl⟩ := ownsRow_slice hO.own
    by_cases hr : rds x.2.2 word = true
    · skip
      obtain rfl : L2 = addS L0 x.1 x.2.1 := by rw [hL1, if_pos hr]
      refine Wp.block ?_
      refine Wp.seq ?_
      refine Wp.seqRegion (.inr ⟨_, rfl⟩) (by kernel_rfl) fun K' gd hK hg => ?_
      clear hg
      refine Wops.cut 3 fun K1 hK1 => ?_
      simp only [List.take_succ_cons, List.take_zero]
      go_simp
      refine Wcall (.inr ⟨_, rfl⟩) (reads_c _ _ _ _ _) ?_
      rintro v w5 ⟨rfl, hE⟩
      go_simp
      refine hK1 _ _ ?_
      clear hK1 K1
      simp only [List.drop_succ_cons, List.drop_zero]
      have z10 := Below.size hE
      replace f3 := Ext.fz hE c3_0 f3
      replace f5 := Ext.fz hE c5_0 f5
      replace f7 := Ext.fz hE c7_0 f7
      replace f8 := Ext.fz hE c8_0 f8
      replace f9 := Ext.fz hE c9_0 f9
      replace hO := hO.ext hE
      replace hKp := hKp.ext hE
      replace hCg := hCg.ext hE
      replace hKO := hKO.ext hE
      replace xw := Ext.trans xw hE
      replace xr := Chg.ext xr hE
      replace xk := Chg.ext xk hE
      replace yw := Ext.cell hE yw
      replace c3_0 := Ext.cell hE c3_0
      replace c3_1 := Ext.cell hE c3_1
      replace c5_0 := Ext.cell hE c5_0
      replace y0 := Ext.cell hE y0
      replace y1 := Ext.cell hE y1
      replace yi := Ext.cell hE yi
      replace c7_0 := Ext.cell hE c7_0
      replace c8_0 := Ext.cell hE c8_0
      replace c8_1 := Ext.cell hE c8_1
      replace c9_0 := Ext.cell hE c9_0
      replace c9_1 := Ext.cell hE c9_1
      replace c9_2 := Ext.cell hE c9_2
      clear hE
      go_simp
      refine hK _ _ ?_
      clear hK K' gd
      refine Wp.keep [7, 8, 19] fun r11 hkeep => ?_
      obtain ⟨e7_11, e8_11, e19_11, -⟩ := hkeep
      simp [go_sem, e5_9, e7_9, e8_9, e9_9] at e7_11 e8_11 e19_11
      clear e5_9 e7_9 e8_9 e9_9
      refine Wp.condF (by go_simp) ?_
      by_cases hne : L0 = []
      · skip
        subst hne
        refine Wp.skip ?_
        refine thenK_normal ?_
        refine Wp.seqRegion (.inr ⟨_, rfl⟩) (by kernel_rfl) fun K' gd hK hg => ?_
        clear hg
        go_simp
        refine hK _ _ ?_
        clear hK K' gd
        refine Wp.keep [7, 8, 10] fun r12 hkeep => ?_
        obtain ⟨e7_12, e8_12, e10_12, -⟩ := hkeep
        simp [go_sem, e7_11, e8_11, e19_11] at e7_12 e8_12 e10_12
        clear e7_11 e8_11 e19_11
        refine Wp.seqDraw (.inr ⟨_, rfl⟩) mixed [([0, 1, 2], none), ([3, 4, 5, 6, 7], none), ([8, 9, 10, 11, 12], none), ([13], none)] (by kernel_rfl) fun K' gd hK hg => ?_
        have g2 : gd 2 = some 24 := hg 2
        clear hg
        simp only [pick, nth, List.map_cons, List.map_nil, Option.map_none, Option.map_some]
        refine Mops.absD fun D9 hD9 zD9 => ?_
        replace f3 := Ext.fz hD9 c3_0 f3
        replace f5 := Ext.fz hD9 c5_0 f5
        replace f7 := Ext.fz hD9 c7_0 f7
        replace f8 := Ext.fz hD9 c8_0 f8
        replace f9 := Ext.fz hD9 c9_0 f9
        replace hO := hO.ext hD9
        replace hKp := hKp.ext hD9
        replace hCg := hCg.ext hD9
        replace hKO := hKO.ext hD9
        replace xw := Ext.trans xw hD9
        replace xr := Chg.ext xr hD9
        replace xk := Chg.ext xk hD9
        replace yw := Ext.cell hD9 yw
        replace c3_0 := Ext.cell hD9 c3_0
        replace c3_1 := Ext.cell hD9 c3_1
        replace c5_0 := Ext.cell hD9 c5_0
        replace y0 := Ext.cell hD9 y0
        replace y1 := Ext.cell hD9 y1
        replace yi := Ext.cell hD9 yi
        replace c7_0 := Ext.cell hD9 c7_0
        replace c8_0 := Ext.cell hD9 c8_0
        replace c8_1 := Ext.cell hD9 c8_1
        replace c9_0 := Ext.cell hD9 c9_0
        replace c9_1 := Ext.cell hD9 c9_1
        replace c9_2 := Ext.cell hD9 c9_2
        clear hD9
        apply Mops.none
        · intro w' hE'
          have hC' := hE'.cellsS
          go_simp
          with_reducible rfl
        apply Mops.none
        · intro w' hE'
          have hC' := hE'.cellsS
          go_simp
          with_reducible rfl
        apply Mops.none
        · intro w' hE'
          have hC' := hE'.cellsS
          go_simp
          with_reducible rfl
        apply Mops.none
        · intro w' hE'
          have hC' := hE'.cellsS
          go_simp
          with_reducible rfl
        refine Mops.done ?_
        refine hK _ _ ?_
        clear hK K' gd g2
        refine Wp.keep [7, 8, 10, 35] fun r13 hkeep => ?_
        obtain ⟨e7_13, e8_13, e10_13, e35_13, -⟩ := hkeep
        simp [go_sem, e7_12, e8_12, e10_12] at e7_13 e8_13 e10_13 e35_13
        clear e7_12 e8_12 e10_12
        refine Wp.condF (by go_simp) ?_
        refine Wp.loneRegion (.inr ⟨_, rfl⟩) (by kernel_rfl) fun K' gd hK hg => ?_
        clear hg
        refine Wops.cut 3 fun K1 hK1 => ?_
        simp only [List.take_succ_cons, List.take_zero]
        go_simp
        refine hK1 _ _ ?_
        clear hK1 K1
        simp only [List.drop_succ_cons, List.drop_zero]
        refine Wops.absA fun V45_10 n45 hV45_10 => ?_
        obtain ⟨q45, hV45_10, s45, kV45_10, f45, r45⟩ := hV45_10
        try simp only [q45] at kV45_10 f45 r45 ⊢
        replace f3 := Ext.fz hV45_10 c3_0 f3
        replace f5 := Ext.fz hV45_10 c5_0 f5
        replace f7 := Ext.fz hV45_10 c7_0 f7
        replace f8 := Ext.fz hV45_10 c8_0 f8
        replace f9 := Ext.fz hV45_10 c9_0 f9
        replace hO := hO.ext hV45_10
        replace hKp := hKp.ext hV45_10
        replace hCg := hCg.ext hV45_10
        replace hKO := hKO.ext hV45_10
        replace xw := Ext.trans xw hV45_10
        replace xr := Chg.ext xr hV45_10
        replace xk := Chg.ext xk hV45_10
        replace yw := Ext.cell hV45_10 yw
        replace c3_0 := Ext.cell hV45_10 c3_0
        replace c3_1 := Ext.cell hV45_10 c3_1
        replace c5_0 := Ext.cell hV45_10 c5_0
        replace y0 := Ext.cell hV45_10 y0
        replace y1 := Ext.cell hV45_10 y1
        replace yi := Ext.cell hV45_10 yi
        replace c7_0 := Ext.cell hV45_10 c7_0
        replace c8_0 := Ext.cell hV45_10 c8_0
        replace c8_1 := Ext.cell hV45_10 c8_1
        replace c9_0 := Ext.cell hV45_10 c9_0
        replace c9_1 := Ext.cell hV45_10 c9_1
        replace c9_2 := Ext.cell hV45_10 c9_2
        clear hV45_10 f45
        have c45_0 := kV45_10 0 _ rfl
        have c45_1 := kV45_10 1 _ rfl
        clear kV45_10
        refine Wops.cut 1 fun K1 hK1 => ?_
        simp only [List.take_succ_cons, List.take_zero]
        obtain ⟨v', w7, hrun, hO2, hgr⟩ := OutG.app spans_T hO ⟨n45, 0, none⟩ 1 1 [.int .i64 x.1, .int .i64 x.2.1] 37 rfl (news_two c45_0 c45_1) (one_two rfl rfl) (by simp) (by omega) (by have := FaceC.lt hCg; omega) (by omega)
        refine Wops.law rfl (exec_append2 rfl hrun (by go_simp) (by go_simp)) ?_
        simp only [updO_some, Wops_nil]
        refine hK1 _ _ ?_
        clear hK1 K1
        simp only [List.drop_succ_cons, List.drop_zero]
        have z14 := World.grownBy.size hgr
        replace f3 := Chg.fz (grown_chg hgr) c3_0 f3 (q_off hO.lt (by omega))
        replace f5 := Chg.fz (grown_chg hgr) c5_0 f5 (q_off hO.lt (by omega))
        replace f7 := Chg.fz (grown_chg hgr) c7_0 f7 (q_off hO.lt (by omega))
        replace f8 := Chg.fz (grown_chg hgr) c8_0 f8 (q_off hO.lt (by omega))
        replace f9 := Chg.fz (grown_chg hgr) c9_0 f9 (q_off hO.lt (by omega))
        replace hKp := hKp.chg (grown_chg hgr) (by first | (intro b hb; exact (q_off hO.lt (by omega))) | exact (q_off hO.lt (by omega)))
        replace hCg := hCg.chg (grown_chg hgr) (by first | (intro b hb; exact (q_off hO.lt (by omega))) | exact (q_off hO.lt (by omega)))
        replace xw := Chg.to xw (grown_chg hgr) (q_ge hO.lt (by omega))
        replace xr := Chg.more xr (grown_chg hgr) (q_gm hO.lt (by omega))
        replace yw := Chg.cell (grown_chg hgr) yw (q_off hO.lt (by omega))
        replace c3_0 := Chg.cell (grown_chg hgr) c3_0 (q_off hO.lt (by omega))
        replace c3_1 := Chg.cell (grown_chg hgr) c3_1 (q_off hO.lt (by omega))
        replace c5_0 := Chg.cell (grown_chg hgr) c5_0 (q_off hO.lt (by omega))
        replace y0 := Chg.cell (grown_chg hgr) y0 (q_off hO.lt (by omega))
        replace y1 := Chg.cell (grown_chg hgr) y1 (q_off hO.lt (by omega))
        replace yi := Chg.cell (grown_chg hgr) yi (q_off hO.lt (by omega))
        replace c7_0 := Chg.cell (grown_chg hgr) c7_0 (q_off hO.lt (by omega))
        replace c8_0 := Chg.cell (grown_chg hgr) c8_0 (q_off hO.lt (by omega))
        replace c8_1 := Chg.cell (grown_chg hgr) c8_1 (q_off hO.lt (by omega))
        replace c9_0 := Chg.cell (grown_chg hgr) c9_0 (q_off hO.lt (by omega))
        replace c9_1 := Chg.cell (grown_chg hgr) c9_1 (q_off hO.lt (by omega))
        replace c9_2 := Chg.cell (grown_chg hgr) c9_2 (q_off hO.lt (by omega))
        have hKO := hKO.grown hO.own hgr
        obtain ⟨A9, c9, rfl⟩ := ownsRow_slice hO2.own
        refine Wops.cut 1 fun K1 hK1 => ?_
        simp only [List.take_succ_cons, List.take_zero]
        go_simp
        refine hK1 _ _ ?_
        clear hK1 K1
        simp only [List.drop_succ_cons, List.drop_zero]
        refine Wops.absS (b := n7) (i := 0) [_] (somes [cellVal c7_0] (by simp) (by intro j v hj; match j, hj with | 0, hj => (simp at hj; subst hj; exact c7_0))) fun P11 hP11 => ?_
        have zP11 := hP11.same
        replace f3 := Put.frz hP11 f3
        replace f5 := Put.frz hP11 f5
        replace f7 := Put.frz hP11 f7
        replace f8 := Put.frz hP11 f8
        replace f9 := Put.frz hP11 f9
        replace hKp := hKp.put hP11 (by omega)
        replace hCg := hCg.put hP11 (by omega)
        replace hO2 := hO2.put hP11 (by omega)
        replace hKO := hKO.put hP11 (by omega)
        replace xw := Put.to xw hP11 (by omega)
        replace xr := Put.more xr hP11 (.inr (by simp))
        replace yw := Put.cell hP11 yw (by omega)
        replace c3_0 := Put.cell hP11 c3_0 (by omega)
        replace c3_1 := Put.cell hP11 c3_1 (by omega)
        replace c5_0 := Put.cell hP11 c5_0 (by omega)
        replace y0 := Put.cell hP11 y0 (by omega)
        replace y1 := Put.cell hP11 y1 (by omega)
        replace yi := Put.cell hP11 yi (by omega)
        clear c7_0
        replace c8_0 := Put.cell hP11 c8_0 (by omega)
        replace c8_1 := Put.cell hP11 c8_1 (by omega)
        replace c9_0 := Put.cell hP11 c9_0 (by omega)
        replace c9_1 := Put.cell hP11 c9_1 (by omega)
        replace c9_2 := Put.cell hP11 c9_2 (by omega)
        have c7_0 := hP11.new 0 _ rfl
        try simp only [Nat.reduceAdd, Nat.zero_add, Nat.add_zero] at c7_0
        clear hP11
        try simp only [Wops_nil, updO_some, updO_none]
        refine hK _ _ ?_
        clear hK K' gd
        refine Ends.keep [] fun r15 hkeep => ?_
        clear hkeep
        clear e7_13 e8_13 e10_13 e35_13
        refine Ends.mk ?_
        refine blockK_normal ?_
        refine ⟨hKO.k, ⟨⟨xr, f7⟩, ?_⟩, hCg, hKp⟩
        exact ⟨_, c7_0, hO2.free, fun q hq => (hO2.lt q hq).2.1⟩
      · skip
        obtain ⟨l, s0, rfl⟩ : ∃ l s0, L0 = l ++ [s0] := by rcases List.eq_nil_or_concat L0 with h | ⟨l, s0, h⟩; (exact absurd h hne); (exact ⟨l, s0, by rw [h, List.concat_eq_append]⟩)
        obtain ⟨b7, rfl⟩ := own_some hO (by simp)
        simp only [List.length_append, List.length_cons, List.length_nil, Nat.zero_add] at c7_0 hO hLl
        have d1 : w5.cell? ⟨b7, l.length * 2 + 1, none⟩ = some (.int .i64 s0.2) := by have := World.ownsRow.cells hO.own (g := b7) rfl _ _ (encL_get (l := l ++ [s0]) (k := l.length) (s := s0) (by simp)).2; rw [Addr.add_lit] at this; simpa using this
        have hs0 := hin s0 (by simp)
        have hw1 : IntKind.i64.wrap (l.length : Int) = (l.length : Int) := IntWalk.i64_in _ (by omega)
        have hw2 : IntKind.i64.wrap (s0.2 + 1) = s0.2 + 1 := IntWalk.i64_in _ (by omega)
        have hxb := faces_le (i := n) (f := (s.W n, 0, false)) hg.sorted (by decide) x (List.mem_of_getElem? hx)
        have hw3 : IntKind.i64.wrap x.1 = x.1 := IntWalk.i64_in _ (by omega)
        have hgt : (0 : Int) < (l.length : Int) + 1 := by omega
        have hgl : (l.length : Int) < (l.length : Int) + 1 := by omega
        have fb := own_fz hO.own
        have hb7 := hO.lt b7 rfl
        by_cases he : s0.2 + 1 = x.1
        · skip
          refine Wp.skip ?_
          refine thenK_normal ?_
          refine Wp.seqRegion (.inr ⟨_, rfl⟩) (by kernel_rfl) fun K' gd hK hg => ?_
          clear hg
          go_simp
          refine hK _ _ ?_
          clear hK K' gd
          refine Wp.keep [7, 8, 10] fun r16 hkeep => ?_
          obtain ⟨e7_16, e8_16, e10_16, -⟩ := hkeep
          simp [go_sem, e7_11, e8_11, e19_11] at e7_16 e8_16 e10_16
          clear e7_11 e8_11 e19_11
          refine Wp.seqDraw (.inr ⟨_, rfl⟩) mixed [([0, 1, 2], none), ([3, 4, 5, 6, 7], none), ([8, 9, 10, 11, 12], none), ([13], none)] (by kernel_rfl) fun K' gd hK hg => ?_
          have g2 : gd 2 = some 24 := hg 2
          clear hg
          simp only [pick, nth, List.map_cons, List.map_nil, Option.map_none, Option.map_some]
          refine Mops.absD fun D12 hD12 zD12 => ?_
          replace f3 := Ext.fz hD12 c3_0 f3
          replace f5 := Ext.fz hD12 c5_0 f5
          replace f7 := Ext.fz hD12 c7_0 f7
          replace f8 := Ext.fz hD12 c8_0 f8
          replace f9 := Ext.fz hD12 c9_0 f9
          replace fb := Ext.fz hD12 d1 fb
          replace hO := hO.ext hD12
          replace hKp := hKp.ext hD12
          replace hCg := hCg.ext hD12
          replace hKO := hKO.ext hD12
          replace xw := Ext.trans xw hD12
          replace xr := Chg.ext xr hD12
          replace xk := Chg.ext xk hD12
          replace yw := Ext.cell hD12 yw
          replace c3_0 := Ext.cell hD12 c3_0
          replace c3_1 := Ext.cell hD12 c3_1
          replace c5_0 := Ext.cell hD12 c5_0
          replace y0 := Ext.cell hD12 y0
          replace y1 := Ext.cell hD12 y1
          replace yi := Ext.cell hD12 yi
          replace c7_0 := Ext.cell hD12 c7_0
          replace c8_0 := Ext.cell hD12 c8_0
          replace c8_1 := Ext.cell hD12 c8_1
          replace c9_0 := Ext.cell hD12 c9_0
          replace c9_1 := Ext.cell hD12 c9_1
          replace c9_2 := Ext.cell hD12 c9_2
          replace d1 := Ext.cell hD12 d1
          clear hD12
          apply Mops.none
          · intro w' hE'
            have hC' := hE'.cellsS
            go_simp
            with_reducible rfl
          apply Mops.none
          · intro w' hE'
            have hC' := hE'.cellsS
            go_simp
            with_reducible rfl
          apply Mops.none
          · intro w' hE'
            have hC' := hE'.cellsS
            go_simp
            with_reducible rfl
          apply Mops.none
          · intro w' hE'
            have hC' := hE'.cellsS
            go_simp
            with_reducible rfl
          refine Mops.done ?_
          refine hK _ _ ?_
          clear hK K' gd g2
          refine Wp.keep [7, 8, 10, 35] fun r17 hkeep => ?_
          obtain ⟨e7_17, e8_17, e10_17, e35_17, -⟩ := hkeep
          simp [go_sem, e7_16, e8_16, e10_16] at e7_17 e8_17 e10_17 e35_17
          clear e7_16 e8_16 e10_16
          refine Wp.condT (by go_simp) ?_
          refine Wp.loneRegion (.inr ⟨_, rfl⟩) (by kernel_rfl) fun K' gd hK hg => ?_
          clear hg
          refine Wops.cut 8 fun K1 hK1 => ?_
          simp only [List.take_succ_cons, List.take_zero]
          go_simp
          refine hK1 _ _ ?_
          clear hK1 K1
          simp only [List.drop_succ_cons, List.drop_zero]
          refine Wops.absS (b := b7) (i := l.length * 2 + 1) [_] (some1 d1) fun P9 hP9 => ?_
          have zP9 := hP9.same
          replace f3 := Put.frz hP9 f3
          replace f5 := Put.frz hP9 f5
          replace f7 := Put.frz hP9 f7
          replace f8 := Put.frz hP9 f8
          replace f9 := Put.frz hP9 f9
          replace hKp := hKp.put hP9 (by omega)
          replace hCg := hCg.put hP9 (by omega)
          replace xw := Put.to xw hP9 (by omega)
          replace xr := Put.more xr hP9 (.inl (by omega))
          replace yw := Put.cell hP9 yw (by omega)
          replace c3_0 := Put.cell hP9 c3_0 (by omega)
          replace c3_1 := Put.cell hP9 c3_1 (by omega)
          replace c5_0 := Put.cell hP9 c5_0 (by omega)
          replace y0 := Put.cell hP9 y0 (by omega)
          replace y1 := Put.cell hP9 y1 (by omega)
          replace yi := Put.cell hP9 yi (by omega)
          replace c7_0 := Put.cell hP9 c7_0 (by omega)
          replace c8_0 := Put.cell hP9 c8_0 (by omega)
          replace c8_1 := Put.cell hP9 c8_1 (by omega)
          replace c9_0 := Put.cell hP9 c9_0 (by omega)
          replace c9_1 := Put.cell hP9 c9_1 (by omega)
          replace c9_2 := Put.cell hP9 c9_2 (by omega)
          try simp only [Wops_nil, updO_some, updO_none]
          refine hK _ _ ?_
          clear hK K' gd
          refine Ends.keep [] fun r18 hkeep => ?_
          clear hkeep
          clear e7_17 e8_17 e10_17 e35_17
          refine Ends.mk ?_
          refine blockK_normal ?_
          replace hO := hO.store hP9 (by simp; omega)
          have hKO := hKO.put hP9 rfl
          have e := encL_set l s0 x.2.1
          refine ⟨hKO.k, ⟨⟨xr, f7⟩, ?_⟩, hCg, hKp⟩
          rw [addS_snoc, if_pos he]
          exact ⟨_, c7_0, by rw [← e]; simpa using hO.free, fun q hq => (hO.lt q hq).2.1⟩
        · skip
          refine Wp.skip ?_
          refine thenK_normal ?_
          refine Wp.seqRegion (.inr ⟨_, rfl⟩) (by kernel_rfl) fun K' gd hK hg => ?_
          clear hg
          go_simp
          refine hK _ _ ?_
          clear hK K' gd
          refine Wp.keep [7, 8, 10] fun r19 hkeep => ?_
          obtain ⟨e7_19, e8_19, e10_19, -⟩ := hkeep
          simp [go_sem, e7_11, e8_11, e19_11] at e7_19 e8_19 e10_19
          clear e7_11 e8_11 e19_11
          refine Wp.seqDraw (.inr ⟨_, rfl⟩) mixed [([0, 1, 2], none), ([3, 4, 5, 6, 7], none), ([8, 9, 10, 11, 12], none), ([13], none)] (by kernel_rfl) fun K' gd hK hg => ?_
          have g2 : gd 2 = some 24 := hg 2
          clear hg
          simp only [pick, nth, List.map_cons, List.map_nil, Option.map_none, Option.map_some]
          refine Mops.absD fun D14 hD14 zD14 => ?_
          replace f3 := Ext.fz hD14 c3_0 f3
          replace f5 := Ext.fz hD14 c5_0 f5
          replace f7 := Ext.fz hD14 c7_0 f7
          replace f8 := Ext.fz hD14 c8_0 f8
          replace f9 := Ext.fz hD14 c9_0 f9
          replace fb := Ext.fz hD14 d1 fb
          replace hO := hO.ext hD14
          replace hKp := hKp.ext hD14
          replace hCg := hCg.ext hD14
          replace hKO := hKO.ext hD14
          replace xw := Ext.trans xw hD14
          replace xr := Chg.ext xr hD14
          replace xk := Chg.ext xk hD14
          replace yw := Ext.cell hD14 yw
          replace c3_0 := Ext.cell hD14 c3_0
          replace c3_1 := Ext.cell hD14 c3_1
          replace c5_0 := Ext.cell hD14 c5_0
          replace y0 := Ext.cell hD14 y0
          replace y1 := Ext.cell hD14 y1
          replace yi := Ext.cell hD14 yi
          replace c7_0 := Ext.cell hD14 c7_0
          replace c8_0 := Ext.cell hD14 c8_0
          replace c8_1 := Ext.cell hD14 c8_1
          replace c9_0 := Ext.cell hD14 c9_0
          replace c9_1 := Ext.cell hD14 c9_1
          replace c9_2 := Ext.cell hD14 c9_2
          replace d1 := Ext.cell hD14 d1
          clear hD14
          apply Mops.none
          · intro w' hE'
            have hC' := hE'.cellsS
            go_simp
            with_reducible rfl
          apply Mops.none
          · intro w' hE'
            have hC' := hE'.cellsS
            go_simp
            with_reducible rfl
          apply Mops.none
          · intro w' hE'
            have hC' := hE'.cellsS
            go_simp
            with_reducible rfl
          apply Mops.none
          · intro w' hE'
            have hC' := hE'.cellsS
            go_simp
            with_reducible rfl
          refine Mops.done ?_
          refine hK _ _ ?_
          clear hK K' gd g2
          refine Wp.keep [7, 8, 10, 35] fun r20 hkeep => ?_
          obtain ⟨e7_20, e8_20, e10_20, e35_20, -⟩ := hkeep
          simp [go_sem, e7_19, e8_19, e10_19] at e7_20 e8_20 e10_20 e35_20
          clear e7_19 e8_19 e10_19
          refine Wp.condF (by go_simp) ?_
          refine Wp.loneRegion (.inr ⟨_, rfl⟩) (by kernel_rfl) fun K' gd hK hg => ?_
          clear hg
          refine Wops.cut 3 fun K1 hK1 => ?_
          simp only [List.take_succ_cons, List.take_zero]
          go_simp
          refine hK1 _ _ ?_
          clear hK1 K1
          simp only [List.drop_succ_cons, List.drop_zero]
          refine Wops.absA fun V45_15 n45 hV45_15 => ?_
          obtain ⟨q45, hV45_15, s45, kV45_15, f45, r45⟩ := hV45_15
          try simp only [q45] at kV45_15 f45 r45 ⊢
          replace f3 := Ext.fz hV45_15 c3_0 f3
          replace f5 := Ext.fz hV45_15 c5_0 f5
          replace f7 := Ext.fz hV45_15 c7_0 f7
          replace f8 := Ext.fz hV45_15 c8_0 f8
          replace f9 := Ext.fz hV45_15 c9_0 f9
          replace fb := Ext.fz hV45_15 d1 fb
          replace hO := hO.ext hV45_15
          replace hKp := hKp.ext hV45_15
          replace hCg := hCg.ext hV45_15
          replace hKO := hKO.ext hV45_15
          replace xw := Ext.trans xw hV45_15
          replace xr := Chg.ext xr hV45_15
          replace xk := Chg.ext xk hV45_15
          replace yw := Ext.cell hV45_15 yw
          replace c3_0 := Ext.cell hV45_15 c3_0
          replace c3_1 := Ext.cell hV45_15 c3_1
          replace c5_0 := Ext.cell hV45_15 c5_0
          replace y0 := Ext.cell hV45_15 y0
          replace y1 := Ext.cell hV45_15 y1
          replace yi := Ext.cell hV45_15 yi
          replace c7_0 := Ext.cell hV45_15 c7_0
          replace c8_0 := Ext.cell hV45_15 c8_0
          replace c8_1 := Ext.cell hV45_15 c8_1
          replace c9_0 := Ext.cell hV45_15 c9_0
          replace c9_1 := Ext.cell hV45_15 c9_1
          replace c9_2 := Ext.cell hV45_15 c9_2
          replace d1 := Ext.cell hV45_15 d1
          clear hV45_15 f45
          have c45_0 := kV45_15 0 _ rfl
          have c45_1 := kV45_15 1 _ rfl
          clear kV45_15
          refine Wops.cut 1 fun K1 hK1 => ?_
          simp only [List.take_succ_cons, List.take_zero]
          obtain ⟨v', w7, hrun, hO2, hgr⟩ := OutG.app spans_T hO ⟨n45, 0, none⟩ 1 1 [.int .i64 x.1, .int .i64 x.2.1] 37 rfl (news_two c45_0 c45_1) (one_two rfl rfl) (by omega) (by omega) (by have := FaceC.lt hCg; omega) (by omega)
          refine Wops.law rfl (exec_append2 rfl hrun (by go_simp) (by go_simp)) ?_
          simp only [updO_some, Wops_nil]
          refine hK1 _ _ ?_
          clear hK1 K1
          simp only [List.drop_succ_cons, List.drop_zero]
          have z21 := World.grownBy.size hgr
          replace f3 := Chg.fz (grown_chg hgr) c3_0 f3 (q_off hO.lt (by omega))
          replace f5 := Chg.fz (grown_chg hgr) c5_0 f5 (q_off hO.lt (by omega))
          replace f7 := Chg.fz (grown_chg hgr) c7_0 f7 (q_off hO.lt (by omega))
          replace f8 := Chg.fz (grown_chg hgr) c8_0 f8 (q_off hO.lt (by omega))
          replace f9 := Chg.fz (grown_chg hgr) c9_0 f9 (q_off hO.lt (by omega))
          replace hKp := hKp.chg (grown_chg hgr) (by first | (intro b hb; exact (q_off hO.lt (by omega))) | exact (q_off hO.lt (by omega)))
          replace hCg := hCg.chg (grown_chg hgr) (by first | (intro b hb; exact (q_off hO.lt (by omega))) | exact (q_off hO.lt (by omega)))
          replace xw := Chg.to xw (grown_chg hgr) (q_ge hO.lt (by omega))
          replace xr := Chg.more xr (grown_chg hgr) (q_gm hO.lt (by omega))
          replace yw := Chg.cell (grown_chg hgr) yw (q_off hO.lt (by omega))
          replace c3_0 := Chg.cell (grown_chg hgr) c3_0 (q_off hO.lt (by omega))
          replace c3_1 := Chg.cell (grown_chg hgr) c3_1 (q_off hO.lt (by omega))
          replace c5_0 := Chg.cell (grown_chg hgr) c5_0 (q_off hO.lt (by omega))
          replace y0 := Chg.cell (grown_chg hgr) y0 (q_off hO.lt (by omega))
          replace y1 := Chg.cell (grown_chg hgr) y1 (q_off hO.lt (by omega))
          replace yi := Chg.cell (grown_chg hgr) yi (q_off hO.lt (by omega))
          replace c7_0 := Chg.cell (grown_chg hgr) c7_0 (q_off hO.lt (by omega))
          replace c8_0 := Chg.cell (grown_chg hgr) c8_0 (q_off hO.lt (by omega))
          replace c8_1 := Chg.cell (grown_chg hgr) c8_1 (q_off hO.lt (by omega))
          replace c9_0 := Chg.cell (grown_chg hgr) c9_0 (q_off hO.lt (by omega))
          replace c9_1 := Chg.cell (grown_chg hgr) c9_1 (q_off hO.lt (by omega))
          replace c9_2 := Chg.cell (grown_chg hgr) c9_2 (q_off hO.lt (by omega))
          have hKO := hKO.grown hO.own hgr
          obtain ⟨A9, c9, rfl⟩ := ownsRow_slice hO2.own
          refine Wops.cut 1 fun K1 hK1 => ?_
          simp only [List.take_succ_cons, List.take_zero]
          go_simp
          refine hK1 _ _ ?_
          clear hK1 K1
          simp only [List.drop_succ_cons, List.drop_zero]
          refine Wops.absS (b := n7) (i := 0) [_] (somes [cellVal c7_0] (by simp) (by intro j v hj; match j, hj with | 0, hj => (simp at hj; subst hj; exact c7_0))) fun P16 hP16 => ?_
          have zP16 := hP16.same
          replace f3 := Put.frz hP16 f3
          replace f5 := Put.frz hP16 f5
          replace f7 := Put.frz hP16 f7
          replace f8 := Put.frz hP16 f8
          replace f9 := Put.frz hP16 f9
          replace hKp := hKp.put hP16 (by omega)
          replace hCg := hCg.put hP16 (by omega)
          replace hO2 := hO2.put hP16 (by omega)
          replace hKO := hKO.put hP16 (by omega)
          replace xw := Put.to xw hP16 (by omega)
          replace xr := Put.more xr hP16 (.inr (by simp))
          replace yw := Put.cell hP16 yw (by omega)
          replace c3_0 := Put.cell hP16 c3_0 (by omega)
          replace c3_1 := Put.cell hP16 c3_1 (by omega)
          replace c5_0 := Put.cell hP16 c5_0 (by omega)
          replace y0 := Put.cell hP16 y0 (by omega)
          replace y1 := Put.cell hP16 y1 (by omega)
          replace yi := Put.cell hP16 yi (by omega)
          clear c7_0
          replace c8_0 := Put.cell hP16 c8_0 (by omega)
          replace c8_1 := Put.cell hP16 c8_1 (by omega)
          replace c9_0 := Put.cell hP16 c9_0 (by omega)
          replace c9_1 := Put.cell hP16 c9_1 (by omega)
          replace c9_2 := Put.cell hP16 c9_2 (by omega)
          have c7_0 := hP16.new 0 _ rfl
          try simp only [Nat.reduceAdd, Nat.zero_add, Nat.add_zero] at c7_0
          clear hP16
          try simp only [Wops_nil, updO_some, updO_none]
          refine hK _ _ ?_
          clear hK K' gd
          refine Ends.keep [] fun r22 hkeep => ?_
          clear hkeep
          clear e7_20 e8_20 e10_20 e35_20
          refine Ends.mk ?_
          refine blockK_normal ?_
          refine ⟨hKO.k, ⟨⟨xr, f7⟩, ?_⟩, hCg, hKp⟩
          rw [addS_snoc, if_neg he]
          exact ⟨_, c7_0, by rw [encL_add (l ++ [s0]) (x.1, x.2.1), List.length_append, List.length_append]; exact hO2.free, fun q hq => (hO2.lt q hq).2.1⟩
    · skip
      obtain rfl : L2 = L0 := by rw [hL1, if_neg hr]
      refine Wp.block ?_
      refine Wp.seq ?_
      refine Wp.seqRegion (.inr ⟨_, rfl⟩) (by kernel_rfl) fun K' gd hK hg => ?_
      clear hg
      refine Wops.cut 3 fun K1 hK1 => ?_
      simp only [List.take_succ_cons, List.take_zero]
      go_simp
      refine Wcall (.inr ⟨_, rfl⟩) (reads_c _ _ _ _ _) ?_
      rintro v w5 ⟨rfl, hE⟩
      go_simp
      refine hK1 _ _ ?_
      clear hK1 K1
      simp only [List.drop_succ_cons, List.drop_zero]
      have z23 := Below.size hE
      replace f3 := Ext.fz hE c3_0 f3
      replace f5 := Ext.fz hE c5_0 f5
      replace f7 := Ext.fz hE c7_0 f7
      replace f8 := Ext.fz hE c8_0 f8
      replace f9 := Ext.fz hE c9_0 f9
      replace hO := hO.ext hE
      replace hKp := hKp.ext hE
      replace hCg := hCg.ext hE
      replace hKO := hKO.ext hE
      replace xw := Ext.trans xw hE
      replace xr := Chg.ext xr hE
      replace xk := Chg.ext xk hE
      replace yw := Ext.cell hE yw
      replace c3_0 := Ext.cell hE c3_0
      replace c3_1 := Ext.cell hE c3_1
      replace c5_0 := Ext.cell hE c5_0
      replace y0 := Ext.cell hE y0
      replace y1 := Ext.cell hE y1
      replace yi := Ext.cell hE yi
      replace c7_0 := Ext.cell hE c7_0
      replace c8_0 := Ext.cell hE c8_0
      replace c8_1 := Ext.cell hE c8_1
      replace c9_0 := Ext.cell hE c9_0
      replace c9_1 := Ext.cell hE c9_1
      replace c9_2 := Ext.cell hE c9_2
      clear hE
      go_simp
      refine hK _ _ ?_
      clear hK K' gd
      refine Wp.keep [7, 8, 19] fun r24 hkeep => ?_
      obtain ⟨e7_24, e8_24, e19_24, -⟩ := hkeep
      simp [go_sem, e5_9, e7_9, e8_9, e9_9] at e7_24 e8_24 e19_24
      clear e5_9 e7_9 e8_9 e9_9
      refine Wp.condT (by go_simp) ?_
      refine Wp.exit ?_
      refine thenK_exit ?_
      refine blockK_here ?_
      refine ⟨hKO.k, ⟨⟨xr, f7⟩, ?_⟩, hCg, hKp⟩
      exact ⟨_, c7_0, hO.free, fun q hq => (hO.lt q hq).2.1⟩
  · rintro rm g W hrm ⟨⟨xr, gf7⟩, ⟨v7, gc7_0, hO, hlt⟩⟩ hmk
    have zxr := Chg.size xr
    replace f3 := Chg.fz xr c3_0 f3 XN
    replace f5 := Chg.fz xr c5_0 f5 XN
    clear f7
    replace xw := Chg.to xw xr XL
    replace yw := Chg.cell xr yw XN
    replace c3_0 := Chg.cell xr c3_0 XN
    replace c3_1 := Chg.cell xr c3_1 XN
    replace c5_0 := Chg.cell xr c5_0 XN
    clear c7_0
    replace y0 := Chg.cell xr y0 XN
    replace y1 := Chg.cell xr y1 XN
    replace yi := Chg.cell xr yi XN
    have f7 := gf7
    clear gf7
    have c7_0 := gc7_0
    clear gc7_0
    refine blockK_normal ?_
    refine thenK_normal ?_
    refine Wp.seqRegion (.inl rfl) (by kernel_rfl) fun K' gd hK hg => ?_
    clear hg
    go_simp
    refine hK _ _ ?_
    clear hK K' gd
    refine Wp.keep [6] fun r25 hkeep => ?_
    obtain ⟨e6_25, -⟩ := hkeep
    simp [go_sem, e5_5, e7_5, e13_5] at e6_25
    clear e5_5 e7_5 e13_5
    refine Wp.ret ?_
    refine endM_tmp Try.results82 (by decide) ((Marks.one (by first | omega | (simp at hrm; omega)) hmk)) fun wz hS => ?_
    rw [e6_25]
    exact ⟨by rw [List.take_length] at hO; exact (show OwnZ _ _ _ (s.whenL n word) from (ownsRow_less hO.own (by omega))).shut hS, Shut.ext xw hS⟩
  · rintro rm c W hrm hf hmk
    exact hf.elim
end Go.Proofs.Ytnjajbkkgfohaaa
namespace Go.Proofs.Ytnjajbkkgfohaaa
open Go.RowKit Go.Wk Go.Proofs

/-- block b is a row of the numbers xs -/
def RowI (W : World) (b : Nat) (xs : List Int) : Prop := ∃ t, W.heap[b]? = some (.cells (xs.map (Value.int .i64)).toArray t (0, 0))
section
variable {W V : World} {b : Nat} {xs : List Int}
theorem RowI.lt (h : RowI W b xs) : b < W.heap.size := by obtain ⟨t, h⟩ := h; exact (Array.getElem?_eq_some_iff.1 h).1
theorem RowI.ext (h : RowI W b xs) (hE : Ext W V) : RowI V b xs := by obtain ⟨t, h⟩ := h; exact ⟨t, (Below.block hE b (Array.getElem?_eq_some_iff.1 h).1).trans h⟩
theorem RowI.adm {m : Nat} (h : RowI W b xs) (hE : Adm m W V) : RowI V b xs := by obtain ⟨t, h⟩ := h; exact ⟨t, hE.heap h⟩
theorem RowI.shut {m : Nat} (h : RowI W b xs) (hE : Shut m W V) : RowI V b xs := by obtain ⟨t, h⟩ := h; exact ⟨t, hE.heap h⟩
theorem RowI.chg {L : List Nat} (h : RowI W b xs) (hE : Chg L W V) (hL : b ∉ L) : RowI V b xs := by obtain ⟨t, h⟩ := h; exact ⟨t, (hE.block b (Array.getElem?_eq_some_iff.1 h).1 hL).trans h⟩
theorem RowI.put {k i : Nat} {vs : List Value} (h : RowI W b xs) (p : Put W V k i vs) (hb : b ≠ k) : RowI V b xs := h.chg p.chg (by simpa using hb)
theorem RowI.cell (h : RowI W b xs) {i : Nat} (hi : i < xs.length) : W.cell? ⟨b, i, none⟩ = some (.int .i64 xs[i]) := by
  obtain ⟨t, h⟩ := h; simp [World.cell?, h, hi]
theorem RowI.fz (h : RowI W b xs) : ∀ j, W.frozen? ⟨b, j, none⟩ = false := fun j => by
  obtain ⟨t, h⟩ := h; simp [World.frozen?, h]
theorem RowI.store {i : Nat} {x : Int} (h : RowI W b xs) (p : Put W V b i [.int .i64 x]) (hi : i < xs.length) : RowI V b (xs.set i x) := by
  obtain ⟨t, h⟩ := h
  obtain ⟨cs', hV, hsz⟩ := p.row _ _ h
  refine ⟨t, ?_⟩
  rw [hV]
  congr 2
  apply Array.ext_getElem?
  intro j
  have cV : V.cell? ⟨b, j, none⟩ = cs'[j]? := by simp [World.cell?, hV]
  have cW : W.cell? ⟨b, j, none⟩ = (xs.map (Value.int .i64))[j]? := by simp [World.cell?, h]
  rw [← cV]
  by_cases e : j = i
  · subst e
    have := p.new 0 _ rfl
    rw [Nat.add_zero] at this
    rw [this]; simp [hi]
  · rw [p.old j (by simp; omega), cW]
    simp only [List.getElem?_toArray, List.map_set]
    rw [List.getElem?_set_ne (by omega)]
theorem RowI.intsV (h : RowI W b xs) {n c : Nat} (hn : n ≤ xs.length) (hc : n ≤ c) : IntsV W W.heap.size (.slice (some ⟨b, 0, none⟩) n c) (xs.take n) := by
  have hl : (xs.take n).length = n := by simp; omega
  refine ⟨_, c, by rw [hl], fun _ => ⟨b, 0, rfl, h.lt, fun k hk => ?_⟩, by rw [hl]; exact hc⟩
  rw [hl] at hk
  rw [Nat.zero_add, List.getElem_take]; exact h.cell (by omega)
theorem RowI.all (h : RowI W b xs) {c : Nat} (hc : xs.length ≤ c) : IntsV W W.heap.size (.slice (some ⟨b, 0, none⟩) xs.length c) xs := by
  have := h.intsV (n := xs.length) (Nat.le_refl _) hc
  rwa [List.take_length] at this
end
/-- a table of spans in memory of our own -/
def TabZ (w : World) (base : Nat) (v : Value) (t : List (List (Int × Int))) : Prop :=
  ∃ vs, w.ownsRow base 37 1 v t.length vs ∧ ∀ i (h : i < t.length), ∃ u, vs[i]? = some u ∧ OwnZ w base u t[i]
/-- v reads in w as a table of spans, in blocks below B -/
def TabV (w : World) (B : Nat) (v : Value) (t : List (List (Int × Int))) : Prop :=
  ∃ (A : Option Addr) (c : Nat), v = .slice A t.length c ∧ (t ≠ [] → ∃ b o, A = some ⟨b, o, none⟩ ∧ b < B ∧ ∀ i (h : i < t.length), ∃ u, w.cell? ⟨b, o + i, none⟩ = some u ∧ SpansV w B u t[i]) ∧ t.length ≤ c
section
variable {w w' : World} {base B B' : Nat} {v : Value} {t : List (List (Int × Int))}
theorem TabZ.ext (h : TabZ w base v t) (hE : Ext w w') : TabZ w' base v t := by
  obtain ⟨vs, h1, h2⟩ := h
  exact ⟨vs, ownsRow_ext h1 hE, fun i hi => by obtain ⟨u, h3, h4⟩ := h2 i hi; exact ⟨u, h3, h4.ext hE⟩⟩
theorem TabZ.chg {L : List Nat} (h : TabZ w base v t) (hC : Chg L w w') (hL : ∀ b ∈ L, b < base) : TabZ w' base v t := by
  obtain ⟨vs, h1, h2⟩ := h
  have off : ∀ {e size n u xs}, w.ownsRow base e size u n xs → ∀ b, u.ownBlock = some b → b ∉ L := fun ho b hb hm => by have := (ho.lt b hb).1; have := hL b hm; omega
  exact ⟨vs, ownsRow_chg h1 hC (off h1), fun i hi => by obtain ⟨u, h3, h4⟩ := h2 i hi; exact ⟨u, h3, ownsRow_chg h4 hC (off h4)⟩⟩
theorem TabZ.put {k i : Nat} {vs : List Value} (h : TabZ w base v t) (p : Put w w' k i vs) (hb : k < base) : TabZ w' base v t := h.chg p.chg (by simpa using hb)
theorem TabZ.nil (w : World) (base : Nat) : TabZ w base (.slice none 0 0) [] := ⟨[], World.ownsRow_nil _ _ _ _, fun i hi => by cases hi⟩
theorem TabZ.slice (h : TabZ w base v t) : ∃ A c, v = .slice A t.length c := by obtain ⟨vs, h, -⟩ := h; exact ownsRow_slice h
theorem TabZ.lt (h : TabZ w base v t) : ∀ k, v.ownBlock = some k → base ≤ k ∧ k < w.heap.size := by obtain ⟨vs, h, -⟩ := h; exact h.lt
theorem tabZ_T : ElemT Try.prog 128 37 1 := elemT_of (by kernel_rfl)
theorem TabZ.app (h : TabZ w base v t) {u : Value} {z : List (Int × Int)} (hu : OwnZ w base u z) {k : Nat} (hk : w.cell? ⟨k, 0, none⟩ = some u) (hn : t.length ≤ 1000000) (hb : base ≤ w.heap.size) (ty : TypeId) :
    ∃ v' w', (Builtin.append_ #[128, 128] ty #[v, .slice (some ⟨k, 0, none⟩) 1 1]).run Try.prog w = .ok v' w' ∧ TabZ w' base v' (t ++ [z]) ∧ w.grownBy w' v.ownBlock := by
  obtain ⟨vs, h1, h2⟩ := h
  obtain ⟨v', w', hr, ho, hg, -⟩ := app_run tabZ_T h1 ⟨k, 0, none⟩ 1 1 [u] ty rfl (news_one hk) (one_one (own_one hu)) (by omega) hb
  have keep : ∀ {x : Value} {y : List (Int × Int)}, OwnZ w base x y → OwnZ w' base x y := fun hx => World.ownsRow.kept hx hg (own_ne hx h1 (by decide))
  refine ⟨v', w', hr, ⟨vs ++ [u], by simpa using ho, fun i hi => ?_⟩, hg⟩
  have hl : vs.length = t.length := by have := h1.1; omega
  rcases Nat.lt_or_ge i t.length with hi2 | hi2
  · obtain ⟨x, h3, h4⟩ := h2 i hi2
    exact ⟨x, by rw [List.getElem?_append_left (by omega)]; exact h3, by rw [List.getElem_append_left hi2]; exact keep h4⟩
  · obtain rfl : i = t.length := by simp at hi; omega
    exact ⟨u, by rw [List.getElem?_append_right (by omega), hl]; simp, by simpa using keep hu⟩
theorem TabZ.tabV (h : TabZ w base v t) : TabV w w.heap.size v t := by
  obtain ⟨vs, h1, h2⟩ := h
  rcases h1.2 with ⟨rfl, hn⟩ | ⟨g, cap, cur, rfl, hb, hg, hnc, hcm, hcs, htake⟩
  · obtain rfl : t = [] := List.eq_nil_of_length_eq_zero hn
    exact ⟨none, 0, rfl, fun h => absurd rfl h, Nat.le_refl _⟩
  · refine ⟨_, cap, rfl, fun _ => ⟨g, 0, rfl, (Array.getElem?_eq_some_iff.1 hg).1, fun i hi => ?_⟩, hnc⟩
    obtain ⟨u, h3, h4⟩ := h2 i hi
    have := World.ownsRow.cells h1 (g := g) rfl _ _ h3
    rw [Addr.add_lit] at this
    exact ⟨u, this, h4.spans⟩
theorem TabV.below (h : TabV w B v t) (hb : Below B w w') : TabV w' B v t := by
  obtain ⟨A, c, hv, hx, hcap⟩ := h
  exact ⟨A, c, hv, fun hne => by
    obtain ⟨b, o, hA, hlt, hc⟩ := hx hne
    exact ⟨b, o, hA, hlt, fun i hi => by obtain ⟨u, h1, h2⟩ := hc i hi; exact ⟨u, (hb.cell (p := ⟨b, o + i, none⟩) hlt).trans h1, h2.below hb⟩⟩, hcap⟩
theorem TabV.more (h : TabV w B v t) (hB : B ≤ B') : TabV w B' v t := by
  obtain ⟨A, c, hv, hx, hcap⟩ := h
  exact ⟨A, c, hv, fun hne => by
    obtain ⟨b, o, hA, hlt, hc⟩ := hx hne
    exact ⟨b, o, hA, by omega, fun i hi => by obtain ⟨u, h1, h2⟩ := hc i hi; exact ⟨u, h1, h2.more hB⟩⟩, hcap⟩
theorem TabV.ext (h : TabV w w.heap.size v t) (hE : Ext w w') : TabV w' w'.heap.size v t := (h.below hE).more hE.size
theorem TabV.row {A : Option Addr} {n c : Nat} (h : TabV w B (.slice A n c) t) {i : Nat} (hi : i < t.length) : ∃ b o u, A = some ⟨b, o, none⟩ ∧ b < B ∧ n = t.length ∧ w.cell? ⟨b, o + i, none⟩ = some u ∧ SpansV w B u t[i] := by
  obtain ⟨A', c', hv, hx, -⟩ := h
  injection hv with h1 h2 h3; subst h1
  obtain ⟨b, o, hA, hb, hc⟩ := hx (by rintro rfl; exact absurd hi (Nat.not_lt_zero _))
  obtain ⟨u, h4, h5⟩ := hc i hi
  exact ⟨b, o, u, hA, hb, h2, h4, h5⟩
end
/-- v is a copy with its days -/
def MadeV (w : World) (B : Nat) (v : Value) (m : Md) : Prop := ∃ wv tv, v = .agg #[wv, .int .i64 m.c.b, .int .i64 m.c.e, .int .i64 m.c.p, tv] ∧ IntsV w B wv m.c.words ∧ TabV w B tv m.tab
theorem MadeV.ext {w w' : World} {v : Value} {m : Md} (h : MadeV w w.heap.size v m) (hE : Ext w w') : MadeV w' w'.heap.size v m := by
  obtain ⟨wv, tv, h1, h2, h3⟩ := h; exact ⟨wv, tv, h1, h2.ext hE, h3.ext hE⟩
theorem MadeV.five {w : World} {B : Nat} {v : Value} {m : Md} (h : MadeV w B v m) : ∃ A c A2 c2, v = .agg #[.slice A m.n c, .int .i64 m.c.b, .int .i64 m.c.e, .int .i64 m.c.p, .slice A2 m.tab.length c2] := by
  obtain ⟨wv, tv, rfl, ⟨A, c, rfl, -⟩, ⟨A2, c2, rfl, -⟩⟩ := h; exact ⟨A, c, A2, c2, rfl⟩
end Go.Proofs.Ytnjajbkkgfohaaa
namespace Go.Proofs.Ytnjajbkkgfohaaa
open Go.RowKit Go.Wk Go.Proofs

theorem make_one {P : Program} {t e : TypeId} {z : Value} (T : ElemT P t e 1) (hz : (P.info? e).bind (·.zero) = some z) (hc : z.cells = #[z]) (n : Nat) (hn : n ≤ 1000000000) (w : World) :
    (Instr.makeSlice t (.int .i64 (n : Int)) (.int .i64 (n : Int))).run P w = .ok (.slice (some ⟨w.heap.size, 0, none⟩) n n) (w.alloc (.cells (List.replicate n z).toArray e)) := by
  obtain ⟨i, z', h1, h2, h3, h4, h5, h6, h7⟩ := T.ex
  obtain rfl : z' = z := by rw [h2, Option.bind_some, h3] at hz; injection hz
  have hb : (i.bytes : Int) * (n : Int) ≤ 281474976710656 := by
    have : i.bytes * n ≤ 1000 * 1000000000 := Nat.mul_le_mul h7 hn
    have h8 : ((i.bytes * n : Nat) : Int) ≤ ((1000 * 1000000000 : Nat) : Int) := Int.ofNat_le.2 this
    rw [Int.natCast_mul] at h8
    omega
  have h := run_make (P := P) w t e i z' h1 h2 h3 .i64 .i64 (n : Int) (n : Int) (by omega) (Int.le_refl _) hb (by omega)
  rw [h]
  simp only [Int.toNat_natCast, h4, Nat.mul_one, hc]
  congr 3
  apply Array.ext'
  rw [toList_madeCells_one]
@[go_sem] theorem makeI (n : Nat) (hn : n ≤ 1000000000) (w : World) : (Instr.makeSlice 22 (.int .i64 (n : Int)) (.int .i64 (n : Int))).run Try.prog w = .ok (.slice (some ⟨w.heap.size, 0, none⟩) n n) (w.alloc (.cells (List.replicate n (.int .i64 0)).toArray 3)) :=
  make_one ints_T (by kernel_rfl) rfl n hn w
theorem RowI.made {W : World} {b n : Nat} (h : ∃ t, W.heap[b]? = some (.cells (List.replicate n (.int .i64 0)).toArray t (0, 0))) : RowI W b (List.replicate n 0) := by
  obtain ⟨t, h⟩ := h
  exact ⟨t, by rw [h, List.map_replicate]⟩
/-- v reads in w as the numbers xs, in a block from base on -/
def IntsB (w : World) (base : Nat) (v : Value) (xs : List Int) : Prop :=
  ∃ (A : Option Addr) (c : Nat), v = .slice A xs.length c ∧ (xs ≠ [] → ∃ b o, A = some ⟨b, o, none⟩ ∧ base ≤ b ∧ b < w.heap.size ∧ ∀ k (h : k < xs.length), w.cell? ⟨b, o + k, none⟩ = some (.int .i64 xs[k])) ∧ xs.length ≤ c
section
variable {w w' : World} {base b2 : Nat} {v : Value} {xs : List Int}
theorem IntsB.chg {L : List Nat} (h : IntsB w base v xs) (hC : Chg L w w') (hL : ∀ b ∈ L, b < base) : IntsB w' base v xs := by
  obtain ⟨A, c, hv, hx, hcap⟩ := h
  exact ⟨A, c, hv, fun hne => by
    obtain ⟨b, o, hA, hb, hlt, hc⟩ := hx hne
    exact ⟨b, o, hA, hb, Nat.lt_of_lt_of_le hlt hC.size, fun k hk => Chg.cell hC (hc k hk) (fun hm => by have := hL b hm; omega)⟩, hcap⟩
theorem IntsB.ext (h : IntsB w base v xs) (hE : Ext w w') : IntsB w' base v xs := by
  obtain ⟨A, c, hv, hx, hcap⟩ := h
  exact ⟨A, c, hv, fun hne => by
    obtain ⟨b, o, hA, hb, hlt, hc⟩ := hx hne
    exact ⟨b, o, hA, hb, Nat.lt_of_lt_of_le hlt hE.size, fun k hk => hE.cell (hc k hk)⟩, hcap⟩
theorem IntsB.put {k i : Nat} {vs : List Value} (h : IntsB w base v xs) (p : Put w w' k i vs) (hb : k < base) : IntsB w' base v xs := h.chg p.chg (by simpa using hb)
theorem IntsB.less (h : IntsB w base v xs) (hb : b2 ≤ base) : IntsB w b2 v xs := by
  obtain ⟨A, c, hv, hx, hcap⟩ := h
  exact ⟨A, c, hv, fun hne => by
    obtain ⟨b, o, hA, hb, hlt, hc⟩ := hx hne
    exact ⟨b, o, hA, by omega, hlt, hc⟩, hcap⟩
theorem IntsB.ints (h : IntsB w base v xs) : IntsV w w.heap.size v xs := by
  obtain ⟨A, c, hv, hx, hcap⟩ := h
  exact ⟨A, c, hv, fun hne => by
    obtain ⟨b, o, hA, hb, hlt, hc⟩ := hx hne
    exact ⟨b, o, hA, hlt, hc⟩, hcap⟩
theorem IntsB.nil (w : World) (base : Nat) : IntsB w base (.slice none 0 0) [] := ⟨none, 0, rfl, fun h => absurd rfl h, Nat.le_refl _⟩
theorem IntsB.slice (h : IntsB w base v xs) : ∃ A c, v = .slice A xs.length c := by obtain ⟨A, c, h, -⟩ := h; exact ⟨A, c, h⟩
theorem RowI.intsB {W : World} {b : Nat} (h : RowI W b xs) (hb : base ≤ b) {n c : Nat} (hn : n ≤ xs.length) (hc : n ≤ c) : IntsB W base (.slice (some ⟨b, 0, none⟩) n c) (xs.take n) := by
  have hl : (xs.take n).length = n := by simp; omega
  refine ⟨_, c, by rw [hl], fun _ => ⟨b, 0, rfl, hb, h.lt, fun k hk => ?_⟩, by rw [hl]; exact hc⟩
  rw [hl] at hk
  rw [Nat.zero_add, List.getElem_take]; exact h.cell (by omega)
theorem RowI.allB {W : World} {b n : Nat} (h : RowI W b xs) (hb : base ≤ b) (hn : xs.length = n) : IntsB W base (.slice (some ⟨b, 0, none⟩) n n) xs := by
  have := h.intsB hb (n := n) (c := n) (by omega) (Nat.le_refl _)
  rwa [List.take_of_length_le (by omega)] at this
theorem OwnI.intsB (h : OwnI w base v xs) : IntsB w base v xs := by
  rcases h.2 with ⟨rfl, hn⟩ | ⟨g, cap, cur, rfl, hb, hg, hnc, hcm, hcs, htake⟩
  · have : xs = [] := List.eq_nil_of_length_eq_zero hn
    subst this
    exact IntsB.nil _ _
  · refine ⟨_, cap, rfl, fun _ => ⟨g, 0, rfl, hb, (Array.getElem?_eq_some_iff.1 hg).1, fun k hk => ?_⟩, hnc⟩
    have := World.ownsRow.cells h (g := g) rfl k (.int .i64 xs[k]) (by simp [hk])
    rw [Addr.add_lit] at this
    exact this
end
theorem TabZ.less {w : World} {base b2 : Nat} {v : Value} {t : List (List (Int × Int))} (h : TabZ w base v t) (hb : b2 ≤ base) : TabZ w b2 v t := by
  obtain ⟨vs, h1, h2⟩ := h
  exact ⟨vs, ownsRow_less h1 hb, fun i hi => by obtain ⟨u, h3, h4⟩ := h2 i hi; exact ⟨u, h3, h4.less hb⟩⟩
/-- v is a copy with its days, these in blocks from base on -/
def MadeB (w : World) (base : Nat) (v : Value) (m : Md) (wv : Value) : Prop := ∃ tv, v = .agg #[wv, .int .i64 m.c.b, .int .i64 m.c.e, .int .i64 m.c.p, tv] ∧ TabZ w base tv m.tab
section
variable {w w' : World} {base b2 : Nat} {v wv : Value} {m : Md}
theorem MadeB.ext (h : MadeB w base v m wv) (hE : Ext w w') : MadeB w' base v m wv := by obtain ⟨tv, h1, h2⟩ := h; exact ⟨tv, h1, h2.ext hE⟩
theorem MadeB.put {k i : Nat} {vs : List Value} (h : MadeB w base v m wv) (p : Put w w' k i vs) (hb : k < base) : MadeB w' base v m wv := by obtain ⟨tv, h1, h2⟩ := h; exact ⟨tv, h1, h2.put p hb⟩
theorem MadeB.chg {L : List Nat} (h : MadeB w base v m wv) (hC : Chg L w w') (hL : ∀ b ∈ L, b < base) : MadeB w' base v m wv := by obtain ⟨tv, h1, h2⟩ := h; exact ⟨tv, h1, h2.chg hC hL⟩
theorem MadeB.less (h : MadeB w base v m wv) (hb : b2 ≤ base) : MadeB w b2 v m wv := by obtain ⟨tv, h1, h2⟩ := h; exact ⟨tv, h1, h2.less hb⟩
theorem MadeB.made (h : MadeB w base v m wv) (hW : IntsV w w.heap.size wv m.c.words) : MadeV w w.heap.size v m := by obtain ⟨tv, h1, h2⟩ := h; exact ⟨wv, tv, h1, hW, h2.tabV⟩
theorem MadeB.two (h : MadeB w base v m wv) : ∃ A n c, v = .agg #[wv, .int .i64 m.c.b, .int .i64 m.c.e, .int .i64 m.c.p, .slice A n c] := by
  obtain ⟨tv, h1, h2⟩ := h
  obtain ⟨A, c, rfl⟩ := h2.slice
  exact ⟨A, _, c, h1⟩
end
end Go.Proofs.Ytnjajbkkgfohaaa
namespace Go.Proofs.Ytnjajbkkgfohaaa
open Go.RowKit Go.Wk Go.Proofs
attribute [local irreducible] Go.Wk.Wops Go.Wk.Wp Go.Wk.Mtree Go.Wk.Mops
set_option maxHeartbeats 4000000
set_option maxRecDepth 20000

def whenE (s : Sh) (i word : Int) : Int := if lineS s i = 0 then (if 0 ≤ word ∧ word ≤ 9999 then 0 else 1) else lineS s i
theorem OwnZ.nil (w : World) (base : Nat) : OwnZ w base (.slice none 0 0) [] := World.ownsRow_nil _ _ _ _
theorem When_c (v : Value) (s : Sh) (i word : Int) (w : World) (hV : SheetV w w.heap.size v s) (hf : FitS s) :
    CallsV Try.prog 27 #[v, .int .i64 i, .int .i64 word] w fun v w' => ∃ t, v = .tuple #[t, .int .i64 (whenE s i word)] ∧ OwnZ w' w.heap.size t (if whenE s i word = 0 then s.whenL i.toNat word else []) ∧ Ext w w' := by
  obtain ⟨wv, av, rfl, ⟨A, c1, rfl, -, -⟩, ⟨A3, c3, rfl, -, -⟩⟩ := id hV
  refine Wp.fn Try.func27 rfl Try.ntmps27 (by simp) ?_
  have xw := Ext.refl w
  refine Wp.keep [0, 1, 2] fun r1 hkeep => ?_
  obtain ⟨e0_1, e1_1, e2_1, -⟩ := hkeep
  simp [go_sem] at e0_1 e1_1 e2_1
  refine Wp.seqRegion (.inl rfl) (by kernel_rfl) fun K' gd hK hg => ?_
  clear hg
  refine Wops.cut 1 fun K1 hK1 => ?_
  simp only [List.take_succ_cons, List.take_zero]
  go_simp
  refine hK1 _ _ ?_
  clear hK1 K1
  simp only [List.drop_succ_cons, List.drop_zero]
  refine Wops.absA fun V3_1 n3 hV3_1 => ?_
  obtain ⟨q3, hV3_1, s3, kV3_1, f3, r3⟩ := hV3_1
  try simp only [q3] at kV3_1 f3 r3 ⊢
  replace xw := Ext.trans xw hV3_1
  have c3_0 := kV3_1 0 _ rfl
  have c3_1 := kV3_1 1 _ rfl
  clear kV3_1 hV3_1
  clear r3
  go_simp
  refine hK _ _ ?_
  clear hK K' gd
  refine Wp.keep [1, 2, 3] fun r2 hkeep => ?_
  obtain ⟨e1_2, e2_2, e3_2, -⟩ := hkeep
  simp [go_sem, e0_1, e1_1, e2_1] at e1_2 e2_2 e3_2
  clear e0_1 e1_1 e2_1
  refine Wp.seq ?_
  refine Wp.seqRegion (.inl rfl) (by kernel_rfl) fun K' gd hK hg => ?_
  clear hg
  refine Wops.cut 3 fun K1 hK1 => ?_
  simp only [List.take_succ_cons, List.take_zero]
  go_simp
  refine Wcall (.inl rfl) (line_c _ s i _ (hV.ext xw) hf) ?_
  rintro v w2 ⟨rfl, hE⟩
  go_simp
  refine hK1 _ _ ?_
  clear hK1 K1
  simp only [List.drop_succ_cons, List.drop_zero]
  have z3 := Below.size hE
  replace f3 := Ext.fz hE c3_0 f3
  replace xw := Ext.trans xw hE
  replace c3_0 := Ext.cell hE c3_0
  replace c3_1 := Ext.cell hE c3_1
  clear hE
  go_simp
  refine hK _ _ ?_
  clear hK K' gd
  refine Wp.keep [1, 2, 3, 8] fun r4 hkeep => ?_
  obtain ⟨e1_4, e2_4, e3_4, e8_4, -⟩ := hkeep
  simp [go_sem, e1_2, e2_2, e3_2] at e1_4 e2_4 e3_4 e8_4
  clear e1_2 e2_2 e3_2
  by_cases h0 : lineS s i = 0
  · skip
    refine Wp.seqRegion (.inl rfl) (by kernel_rfl) fun K' gd hK hg => ?_
    clear hg
    go_simp
    refine hK _ _ ?_
    clear hK K' gd
    refine Wp.keep [1, 2, 3, 8, 13] fun r5 hkeep => ?_
    obtain ⟨e1_5, e2_5, e3_5, e8_5, e13_5, -⟩ := hkeep
    simp [go_sem, e1_4, e2_4, e3_4, e8_4] at e1_5 e2_5 e3_5 e8_5 e13_5
    clear e1_4 e2_4 e3_4 e8_4
    refine Wp.condF (by go_simp) ?_
    by_cases hd : 0 ≤ word ∧ word ≤ 9999
    · skip
      refine Wp.skip ?_
      refine thenK_normal ?_
      refine Wp.seq ?_
      refine Wp.seqRegion (.inl rfl) (by kernel_rfl) fun K' gd hK hg => ?_
      clear hg
      refine Wops.cut 2 fun K1 hK1 => ?_
      simp only [List.take_succ_cons, List.take_zero]
      go_simp
      refine Wcall (.inl rfl) (within_T hd _) ?_
      rintro v w3 ⟨rfl, hE⟩
      go_simp
      refine hK1 _ _ ?_
      clear hK1 K1
      simp only [List.drop_succ_cons, List.drop_zero]
      have z6 := Below.size hE
      replace f3 := Ext.fz hE c3_0 f3
      replace xw := Ext.trans xw hE
      replace c3_0 := Ext.cell hE c3_0
      replace c3_1 := Ext.cell hE c3_1
      clear hE
      go_simp
      refine hK _ _ ?_
      clear hK K' gd
      refine Wp.keep [1, 2, 3, 17] fun r7 hkeep => ?_
      obtain ⟨e1_7, e2_7, e3_7, e17_7, -⟩ := hkeep
      simp [go_sem, e1_5, e2_5, e3_5, e8_5, e13_5] at e1_7 e2_7 e3_7 e17_7
      clear e1_5 e2_5 e3_5 e8_5 e13_5
      refine Wp.condF (by go_simp) ?_
      obtain ⟨h1, h2⟩ := lineS_zero.1 h0
      obtain ⟨n, rfl⟩ : ∃ n : Nat, i = (n : Int) := ⟨i.toNat, by omega⟩
      refine Wp.skip ?_
      refine thenK_normal ?_
      refine Wp.seqRegion (.inl rfl) (by kernel_rfl) fun K' gd hK hg => ?_
      clear hg
      refine Wops.cut 4 fun K1 hK1 => ?_
      simp only [List.take_succ_cons, List.take_zero]
      go_simp
      refine Wcall (.inl rfl) (when_c _ s n word _ (hV.ext xw) (checkS_zero.1 h1) (by have := h2.2; unfold Sh.n at this; omega)) ?_
      rintro v w4 ⟨hZ, hE⟩
      go_simp
      refine hK1 _ _ ?_
      clear hK1 K1
      simp only [List.drop_succ_cons, List.drop_zero]
      have z8 := Below.size hE
      replace f3 := Ext.fz hE c3_0 f3
      replace xw := Ext.trans xw hE
      replace c3_0 := Ext.cell hE c3_0
      replace c3_1 := Ext.cell hE c3_1
      clear hE
      go_simp
      refine hK _ _ ?_
      clear hK K' gd
      refine Wp.keep [6, 7] fun r9 hkeep => ?_
      obtain ⟨e6_9, e7_9, -⟩ := hkeep
      simp [go_sem, e1_7, e2_7, e3_7, e17_7] at e6_9 e7_9
      clear e1_7 e2_7 e3_7 e17_7
      refine Wp.ret ?_
      refine endK_tmp2 Try.results27 (by decide) (by decide) ?_
      rw [e6_9, e7_9]
      have e : whenE s n word = 0 := by unfold whenE; rw [if_pos h0, if_pos hd]
      exact ⟨_, by rw [e], by rw [if_pos e]; exact hZ.less (by omega), xw⟩
    · skip
      refine Wp.skip ?_
      refine thenK_normal ?_
      refine Wp.seq ?_
      refine Wp.seqRegion (.inl rfl) (by kernel_rfl) fun K' gd hK hg => ?_
      clear hg
      refine Wops.cut 2 fun K1 hK1 => ?_
      simp only [List.take_succ_cons, List.take_zero]
      go_simp
      refine Wcall (.inl rfl) (within_F hd _) ?_
      rintro v w3 ⟨rfl, hE⟩
      go_simp
      refine hK1 _ _ ?_
      clear hK1 K1
      simp only [List.drop_succ_cons, List.drop_zero]
      have z10 := Below.size hE
      replace f3 := Ext.fz hE c3_0 f3
      replace xw := Ext.trans xw hE
      replace c3_0 := Ext.cell hE c3_0
      replace c3_1 := Ext.cell hE c3_1
      clear hE
      go_simp
      refine hK _ _ ?_
      clear hK K' gd
      refine Wp.keep [1, 2, 3, 17] fun r11 hkeep => ?_
      obtain ⟨e1_11, e2_11, e3_11, e17_11, -⟩ := hkeep
      simp [go_sem, e1_5, e2_5, e3_5, e8_5, e13_5] at e1_11 e2_11 e3_11 e17_11
      clear e1_5 e2_5 e3_5 e8_5 e13_5
      refine Wp.condT (by go_simp) ?_
      refine Wp.seqRegion (.inl rfl) (by kernel_rfl) fun K' gd hK hg => ?_
      clear hg
      go_simp
      refine hK _ _ ?_
      clear hK K' gd
      refine Wp.keep [6, 7] fun r12 hkeep => ?_
      obtain ⟨e6_12, e7_12, -⟩ := hkeep
      simp [go_sem, e1_11, e2_11, e3_11, e17_11] at e6_12 e7_12
      clear e1_11 e2_11 e3_11 e17_11
      refine Wp.ret ?_
      refine thenK_ret ?_
      refine endK_tmp2 Try.results27 (by decide) (by decide) ?_
      rw [e6_12, e7_12]
      have e : whenE s i word = 1 := by unfold whenE; rw [if_pos h0, if_neg hd]
      exact ⟨_, by rw [e], by rw [e, if_neg (by decide)]; exact OwnZ.nil _ _, xw⟩
  · skip
    refine Wp.seqRegion (.inl rfl) (by kernel_rfl) fun K' gd hK hg => ?_
    clear hg
    go_simp
    refine hK _ _ ?_
    clear hK K' gd
    refine Wp.keep [1, 2, 3, 8, 13] fun r13 hkeep => ?_
    obtain ⟨e1_13, e2_13, e3_13, e8_13, e13_13, -⟩ := hkeep
    simp [go_sem, e1_4, e2_4, e3_4, e8_4] at e1_13 e2_13 e3_13 e8_13 e13_13
    clear e1_4 e2_4 e3_4 e8_4
    refine Wp.condT (by go_simp) ?_
    refine Wp.seqRegion (.inl rfl) (by kernel_rfl) fun K' gd hK hg => ?_
    clear hg
    go_simp
    refine hK _ _ ?_
    clear hK K' gd
    refine Wp.keep [6, 7] fun r14 hkeep => ?_
    obtain ⟨e6_14, e7_14, -⟩ := hkeep
    simp [go_sem, e1_13, e2_13, e3_13, e8_13, e13_13] at e6_14 e7_14
    clear e1_13 e2_13 e3_13 e8_13 e13_13
    refine Wp.ret ?_
    refine thenK_ret ?_
    refine endK_tmp2 Try.results27 (by decide) (by decide) ?_
    rw [e6_14, e7_14]
    have e : whenE s i word = lineS s i := by unfold whenE; rw [if_neg h0]
    exact ⟨_, by rw [e], by rw [e, if_neg h0]; exact OwnZ.nil _ _, xw⟩
theorem TabZ.slice2 {w : World} {base : Nat} {v : Value} {t : List (List (Int × Int))} (h : TabZ w base v t) : ∃ A n c, v = .slice A n c := by obtain ⟨A, c, h⟩ := h.slice; exact ⟨A, _, c, h⟩
theorem Cp.W_get {c : Cp} {i : Nat} (h : i < c.words.length) : c.words[i] = c.W i := by unfold Cp.W; rw [List.getElem?_eq_getElem h]; rfl
theorem Sh.tab_take {s : Sh} {c : Cp} {k : Nat} (h : k < c.words.length) : (s.tab c).take (k + 1) = (s.tab c).take k ++ [s.whenL k (c.W k)] := by
  refine take_one ?_
  unfold Sh.tab; simp [h]
theorem Sh.tab_len (s : Sh) (c : Cp) : (s.tab c).length = c.words.length := by simp [Sh.tab]
theorem madeB_c (v u : Value) (s : Sh) (c : Cp) (w : World) (hV : SheetV w w.heap.size v s) (hU : CopyV w w.heap.size u c) (hg : Good s) (hv : ValidC s c) :
    CallsV Try.prog 91 #[v, u] w fun v w' => (∃ wu, u = .agg #[wu, .int .i64 c.b, .int .i64 c.e, .int .i64 c.p] ∧ MadeB w' w.heap.size v (s.md c) wu) ∧ Ext w w' := by
  obtain ⟨wv, av, rfl, ⟨A, c1, rfl, -, -⟩, ⟨A3, c3, rfl, -, -⟩⟩ := id hV
  obtain ⟨wu, rfl, hW⟩ := id hU
  obtain ⟨A2, c2, rfl, hx, -⟩ := id hW
  have hcl : ∃ _u : Unit, c.words.length = s.words.length := ⟨(), hv.1⟩
  have hc40 : c.words.length ≤ 40 := by have := hg.n2; have := hv.1; omega
  have htl := Sh.tab_len s c
  refine Wp.fn Try.func91 rfl Try.ntmps91 (by simp) ?_
  have xw := Ext.refl w
  refine Wp.keep [0, 1] fun r1 hkeep => ?_
  obtain ⟨e0_1, e1_1, -⟩ := hkeep
  simp [go_sem] at e0_1 e1_1
  refine Wp.seqRegion (.inl rfl) (by kernel_rfl) fun K' gd hK hg => ?_
  clear hg
  refine Wops.cut 1 fun K1 hK1 => ?_
  simp only [List.take_succ_cons, List.take_zero]
  go_simp
  refine hK1 _ _ ?_
  clear hK1 K1
  simp only [List.drop_succ_cons, List.drop_zero]
  refine Wops.absA fun V2_1 n2 hV2_1 => ?_
  obtain ⟨q2, hV2_1, s2, kV2_1, f2, r2⟩ := hV2_1
  try simp only [q2] at kV2_1 f2 r2 ⊢
  replace xw := Ext.trans xw hV2_1
  have c2_0 := kV2_1 0 _ rfl
  have c2_1 := kV2_1 1 _ rfl
  clear kV2_1 hV2_1
  clear r2
  refine Wops.cut 1 fun K1 hK1 => ?_
  simp only [List.take_succ_cons, List.take_zero]
  go_simp
  refine hK1 _ _ ?_
  clear hK1 K1
  simp only [List.drop_succ_cons, List.drop_zero]
  refine Wops.absA fun V3_2 n3 hV3_2 => ?_
  obtain ⟨q3, hV3_2, s3, kV3_2, f3, r3⟩ := hV3_2
  try simp only [q3] at kV3_2 f3 r3 ⊢
  replace f2 := Ext.fz hV3_2 c2_0 f2
  replace xw := Ext.trans xw hV3_2
  replace c2_0 := Ext.cell hV3_2 c2_0
  replace c2_1 := Ext.cell hV3_2 c2_1
  have c3_0 := kV3_2 0 _ rfl
  have c3_1 := kV3_2 1 _ rfl
  have c3_2 := kV3_2 2 _ rfl
  have c3_3 := kV3_2 3 _ rfl
  clear kV3_2 hV3_2
  clear r3
  refine Wops.cut 1 fun K1 hK1 => ?_
  simp only [List.take_succ_cons, List.take_zero]
  go_simp
  refine hK1 _ _ ?_
  clear hK1 K1
  simp only [List.drop_succ_cons, List.drop_zero]
  refine Wops.absA fun V4_3 n4 hV4_3 => ?_
  obtain ⟨q4, hV4_3, s4, kV4_3, f4, r4⟩ := hV4_3
  try simp only [q4] at kV4_3 f4 r4 ⊢
  replace f2 := Ext.fz hV4_3 c2_0 f2
  replace f3 := Ext.fz hV4_3 c3_0 f3
  replace xw := Ext.trans xw hV4_3
  replace c2_0 := Ext.cell hV4_3 c2_0
  replace c2_1 := Ext.cell hV4_3 c2_1
  replace c3_0 := Ext.cell hV4_3 c3_0
  replace c3_1 := Ext.cell hV4_3 c3_1
  replace c3_2 := Ext.cell hV4_3 c3_2
  replace c3_3 := Ext.cell hV4_3 c3_3
  have c4_0 := kV4_3 0 _ rfl
  have c4_1 := kV4_3 1 _ rfl
  have c4_2 := kV4_3 2 _ rfl
  have c4_3 := kV4_3 3 _ rfl
  have c4_4 := kV4_3 4 _ rfl
  clear kV4_3 hV4_3
  clear r4
  try simp only [Wops_nil, updO_some, updO_none]
  refine hK _ _ ?_
  clear hK K' gd
  refine Wp.keep [2, 3, 4] fun r2 hkeep => ?_
  obtain ⟨e2_2, e3_2, e4_2, -⟩ := hkeep
  simp [go_sem, e0_1, e1_1] at e2_2 e3_2 e4_2
  clear e0_1 e1_1
  refine Wp.seqRegion (.inl rfl) (by kernel_rfl) fun K' gd hK hg => ?_
  clear hg
  refine Wops.cut 4 fun K1 hK1 => ?_
  simp only [List.take_succ_cons, List.take_zero]
  go_simp
  refine hK1 _ _ ?_
  clear hK1 K1
  simp only [List.drop_succ_cons, List.drop_zero]
  refine Wops.absA fun V5_4 n5 hV5_4 => ?_
  obtain ⟨q5, hV5_4, s5, kV5_4, f5, r5⟩ := hV5_4
  try simp only [q5] at kV5_4 f5 r5 ⊢
  replace f2 := Ext.fz hV5_4 c2_0 f2
  replace f3 := Ext.fz hV5_4 c3_0 f3
  replace f4 := Ext.fz hV5_4 c4_0 f4
  replace xw := Ext.trans xw hV5_4
  replace c2_0 := Ext.cell hV5_4 c2_0
  replace c2_1 := Ext.cell hV5_4 c2_1
  replace c3_0 := Ext.cell hV5_4 c3_0
  replace c3_1 := Ext.cell hV5_4 c3_1
  replace c3_2 := Ext.cell hV5_4 c3_2
  replace c3_3 := Ext.cell hV5_4 c3_3
  replace c4_0 := Ext.cell hV5_4 c4_0
  replace c4_1 := Ext.cell hV5_4 c4_1
  replace c4_2 := Ext.cell hV5_4 c4_2
  replace c4_3 := Ext.cell hV5_4 c4_3
  replace c4_4 := Ext.cell hV5_4 c4_4
  have c5_0 := kV5_4 0 _ rfl
  have c5_1 := kV5_4 1 _ rfl
  have c5_2 := kV5_4 2 _ rfl
  have c5_3 := kV5_4 3 _ rfl
  have c5_4 := kV5_4 4 _ rfl
  clear kV5_4 hV5_4
  clear r5
  try simp only [Wops_nil, updO_some, updO_none]
  refine hK _ _ ?_
  clear hK K' gd
  refine Wp.keep [2, 3, 4, 5] fun r3 hkeep => ?_
  obtain ⟨e2_3, e3_3, e4_3, e5_3, -⟩ := hkeep
  simp [go_sem, e2_2, e3_2, e4_2] at e2_3 e3_3 e4_3 e5_3
  clear e2_2 e3_2 e4_2
  refine Wp.seq ?_
  have f2_xa := f2
  have f3_xa := f3
  have f4_xa := f4
  have xw_xa := xw
  have c2_0_xa := c2_0
  have c2_1_xa := c2_1
  have c3_0_xa := c3_0
  have c3_1_xa := c3_1
  have c3_2_xa := c3_2
  have c3_3_xa := c3_3
  have c4_0_xa := c4_0
  have c4_1_xa := c4_1
  have c4_2_xa := c4_2
  have c4_3_xa := c4_3
  have c4_4_xa := c4_4
  have c5_0_xa := c5_0
  have c5_1_xa := c5_1
  have c5_2_xa := c5_2
  have c5_3_xa := c5_3
  have c5_4_xa := c5_4
  have f5_xa := f5
  have xa := Ext.refl V5_4
  obtain ⟨B0, hB0⟩ : ∃ B0 : Nat, B0 = V5_4.heap.size := ⟨_, rfl⟩
  refine Wp.seqRegion (.inl rfl) (by kernel_rfl) fun K' gd hK hg => ?_
  clear hg
  go_simp
  refine hK _ _ ?_
  clear hK K' gd
  refine Wp.keep [2, 4, 5, 11, 12, 13] fun r4 hkeep => ?_
  obtain ⟨e2_4, e4_4, e5_4, e11_4, e12_4, e13_4, -⟩ := hkeep
  simp [go_sem, e2_3, e3_3, e4_3, e5_3] at e2_4 e4_4 e5_4 e11_4 e12_4 e13_4
  clear e2_3 e3_3 e4_3 e5_3
  refine Wp.block ?_
  refine Wp.loop (fun k ρ ds wk => AllEq [2, 4, 5, 11, 12] ρ r4 ∧ ds = [] ∧ (Chg [n5] V5_4 wk ∧ (∀ i, wk.frozen? ⟨n5, i, none⟩ = false)) ∧ (∃ tv, ρ 13 = .int .i64 (k : Int) ∧ wk.cell? ⟨n5, 0, none⟩ = some (.slice A2 c.words.length c2) ∧ wk.cell? ⟨n5, 1, none⟩ = some (.int .i64 c.b) ∧ wk.cell? ⟨n5, 2, none⟩ = some (.int .i64 c.e) ∧ wk.cell? ⟨n5, 3, none⟩ = some (.int .i64 c.p) ∧ wk.cell? ⟨n5, 4, none⟩ = some tv ∧ TabZ wk B0 tv ((s.tab c).take k))) (c.words.length) ?_ ?_
  · refine ⟨AllEq.refl _ _, rfl, ⟨Chg.refl _ _, f5⟩, ?_⟩
    exact ⟨_, by rw [e13_4]; rfl, c5_0, c5_1, c5_2, c5_3, c5_4, TabZ.nil _ _⟩
  · rintro k r5 _ wk hk ⟨hA, rfl, ⟨xo, gf5⟩, ⟨tv, e13, gc5_0, gc5_1, gc5_2, gc5_3, gc5_4, hT⟩⟩
    obtain ⟨e2_5, e4_5, e5_5, e11_5, e12_5, -⟩ := hA
    rw [e2_4] at e2_5
    rw [e4_4] at e4_5
    rw [e5_4] at e5_5
    rw [e11_4] at e11_5
    rw [e12_4] at e12_5
    have zxo := Chg.size xo
    have f2 := f2_xa
    have f3 := f3_xa
    have f4 := f4_xa
    have xw := xw_xa
    have c2_0 := c2_0_xa
    have c2_1 := c2_1_xa
    have c3_0 := c3_0_xa
    have c3_1 := c3_1_xa
    have c3_2 := c3_2_xa
    have c3_3 := c3_3_xa
    have c4_0 := c4_0_xa
    have c4_1 := c4_1_xa
    have c4_2 := c4_2_xa
    have c4_3 := c4_3_xa
    have c4_4 := c4_4_xa
    have c5_0 := c5_0_xa
    have c5_1 := c5_1_xa
    have c5_2 := c5_2_xa
    have c5_3 := c5_3_xa
    have c5_4 := c5_4_xa
    have f5 := f5_xa
    replace f2 := Chg.fz xo c2_0 f2 XN
    replace f3 := Chg.fz xo c3_0 f3 XN
    replace f4 := Chg.fz xo c4_0 f4 XN
    clear f5
    replace xw := Chg.to xw xo XL
    replace c2_0 := Chg.cell xo c2_0 XN
    replace c2_1 := Chg.cell xo c2_1 XN
    replace c3_0 := Chg.cell xo c3_0 XN
    replace c3_1 := Chg.cell xo c3_1 XN
    replace c3_2 := Chg.cell xo c3_2 XN
    replace c3_3 := Chg.cell xo c3_3 XN
    replace c4_0 := Chg.cell xo c4_0 XN
    replace c4_1 := Chg.cell xo c4_1 XN
    replace c4_2 := Chg.cell xo c4_2 XN
    replace c4_3 := Chg.cell xo c4_3 XN
    replace c4_4 := Chg.cell xo c4_4 XN
    clear c5_0
    clear c5_1
    clear c5_2
    clear c5_3
    clear c5_4
    have f5 := gf5
    clear gf5
    have c5_0 := gc5_0
    clear gc5_0
    have c5_1 := gc5_1
    clear gc5_1
    have c5_2 := gc5_2
    clear gc5_2
    have c5_3 := gc5_3
    clear gc5_3
    have c5_4 := gc5_4
    clear gc5_4
    obtain ⟨A8, n8, c8, rfl⟩ := hT.slice2
    refine Wp.seqRegion (.inl rfl) (by kernel_rfl) fun K' gd hK hg => ?_
    clear hg
    go_simp
    refine hK _ _ ?_
    clear hK K' gd
    refine Wp.keep [2, 4, 5, 11, 12, 13, 14] fun r6 hkeep => ?_
    obtain ⟨e2_6, e4_6, e5_6, e11_6, e12_6, e13_6, e14_6, -⟩ := hkeep
    simp [go_sem, e2_5, e4_5, e5_5, e11_5, e12_5, e13] at e2_6 e4_6 e5_6 e11_6 e12_6 e13_6 e14_6
    clear e2_5 e4_5 e5_5 e11_5 e12_5 e13
    refine Wp.seq ?_
    by_cases h : k < c.words.length
    · refine Wp.condT (by go_simp) ?_
      obtain ⟨b, o, rfl, hb, hc⟩ := hx (by intro e; rw [e] at h; exact absurd h (Nat.not_lt_zero _))
      have d1 := xw.cell (hc k h)
      rw [Cp.W_get h] at d1
      refine Wp.skip ?_
      refine thenK_normal ?_
      refine Wp.seq ?_
      refine Wp.block ?_
      refine Wp.seqRegion (.inl rfl) (by kernel_rfl) fun K' gd hK hg => ?_
      clear hg
      go_simp
      refine hK _ _ ?_
      clear hK K' gd
      refine Wp.keep [2, 4, 5, 6, 7, 11, 12, 13] fun r7 hkeep => ?_
      obtain ⟨e2_7, e4_7, e5_7, e6_7, e7_7, e11_7, e12_7, e13_7, -⟩ := hkeep
      simp [go_sem, e2_6, e4_6, e5_6, e11_6, e12_6, e13_6, e14_6] at e2_7 e4_7 e5_7 e6_7 e7_7 e11_7 e12_7 e13_7
      clear e2_6 e4_6 e5_6 e11_6 e12_6 e13_6 e14_6
      refine Wp.loneDraw (.inl rfl) mixed [([0, 1, 2, 3, 4], some (5, false)), ([], some (6, false)), ([], some (7, true)), ([], some (8, true)), ([], some (9, true))] (by kernel_rfl) fun K' gd hK hg => ?_
      clear hg
      simp only [pick, nth, List.map_cons, List.map_nil, Option.map_none, Option.map_some]
      refine Mops.absD fun D7 hD7 zD7 => ?_
      replace f2 := Ext.fz hD7 c2_0 f2
      replace f3 := Ext.fz hD7 c3_0 f3
      replace f4 := Ext.fz hD7 c4_0 f4
      replace f5 := Ext.fz hD7 c5_0 f5
      replace hT := hT.ext hD7
      replace xw := Ext.trans xw hD7
      replace xo := Chg.ext xo hD7
      replace c2_0 := Ext.cell hD7 c2_0
      replace c2_1 := Ext.cell hD7 c2_1
      replace c3_0 := Ext.cell hD7 c3_0
      replace c3_1 := Ext.cell hD7 c3_1
      replace c3_2 := Ext.cell hD7 c3_2
      replace c3_3 := Ext.cell hD7 c3_3
      replace c4_0 := Ext.cell hD7 c4_0
      replace c4_1 := Ext.cell hD7 c4_1
      replace c4_2 := Ext.cell hD7 c4_2
      replace c4_3 := Ext.cell hD7 c4_3
      replace c4_4 := Ext.cell hD7 c4_4
      replace c5_0 := Ext.cell hD7 c5_0
      replace c5_1 := Ext.cell hD7 c5_1
      replace c5_2 := Ext.cell hD7 c5_2
      replace c5_3 := Ext.cell hD7 c5_3
      replace c5_4 := Ext.cell hD7 c5_4
      replace d1 := Ext.cell hD7 d1
      clear hD7
      apply Mops.act
      · intro w' hE'
        have hC' := hE'.cellsS
        go_simp
        with_reducible rfl
      intro K1 hK1
      go_simp
      refine Wcall (.inl rfl) (when_c _ s k (c.W k) _ (hV.ext xw) hg (by have := hcl.choose_spec; omega)) ?_
      rintro v w4 ⟨hZ, hE⟩
      obtain ⟨A9, c9, rfl⟩ := ownsRow_slice hZ
      go_simp
      refine hK1 _ _ (by assumption) ?_
      clear hK1 K1
      have z8 := Below.size hE
      replace f2 := Ext.fz hE c2_0 f2
      replace f3 := Ext.fz hE c3_0 f3
      replace f4 := Ext.fz hE c4_0 f4
      replace f5 := Ext.fz hE c5_0 f5
      replace hT := hT.ext hE
      replace xw := Ext.trans xw hE
      replace xo := Chg.ext xo hE
      replace c2_0 := Ext.cell hE c2_0
      replace c2_1 := Ext.cell hE c2_1
      replace c3_0 := Ext.cell hE c3_0
      replace c3_1 := Ext.cell hE c3_1
      replace c3_2 := Ext.cell hE c3_2
      replace c3_3 := Ext.cell hE c3_3
      replace c4_0 := Ext.cell hE c4_0
      replace c4_1 := Ext.cell hE c4_1
      replace c4_2 := Ext.cell hE c4_2
      replace c4_3 := Ext.cell hE c4_3
      replace c4_4 := Ext.cell hE c4_4
      replace c5_0 := Ext.cell hE c5_0
      replace c5_1 := Ext.cell hE c5_1
      replace c5_2 := Ext.cell hE c5_2
      replace c5_3 := Ext.cell hE c5_3
      replace c5_4 := Ext.cell hE c5_4
      replace d1 := Ext.cell hE d1
      clear hE
      apply Mops.act
      · exact fun _ _ => Rops_done
      intro K1 hK1
      go_simp
      refine hK1 _ _ (XA) ?_
      clear hK1 K1
      refine Mops.absA fun V24_8 n24 hV24_8 => ?_
      obtain ⟨q24, hV24_8, s24, kV24_8, f24, r24⟩ := hV24_8
      try simp only [q24] at kV24_8 f24 r24 ⊢
      replace f2 := Ext.fz hV24_8 c2_0 f2
      replace f3 := Ext.fz hV24_8 c3_0 f3
      replace f4 := Ext.fz hV24_8 c4_0 f4
      replace f5 := Ext.fz hV24_8 c5_0 f5
      replace hT := hT.ext hV24_8
      replace hZ := hZ.ext hV24_8
      replace xw := Ext.trans xw hV24_8
      replace xo := Chg.ext xo hV24_8
      replace c2_0 := Ext.cell hV24_8 c2_0
      replace c2_1 := Ext.cell hV24_8 c2_1
      replace c3_0 := Ext.cell hV24_8 c3_0
      replace c3_1 := Ext.cell hV24_8 c3_1
      replace c3_2 := Ext.cell hV24_8 c3_2
      replace c3_3 := Ext.cell hV24_8 c3_3
      replace c4_0 := Ext.cell hV24_8 c4_0
      replace c4_1 := Ext.cell hV24_8 c4_1
      replace c4_2 := Ext.cell hV24_8 c4_2
      replace c4_3 := Ext.cell hV24_8 c4_3
      replace c4_4 := Ext.cell hV24_8 c4_4
      replace c5_0 := Ext.cell hV24_8 c5_0
      replace c5_1 := Ext.cell hV24_8 c5_1
      replace c5_2 := Ext.cell hV24_8 c5_2
      replace c5_3 := Ext.cell hV24_8 c5_3
      replace c5_4 := Ext.cell hV24_8 c5_4
      replace d1 := Ext.cell hV24_8 d1
      clear hV24_8 f24
      have c24_0 := kV24_8 0 _ rfl
      clear kV24_8
      apply Mops.last
      · exact fun _ _ => Rops_done
      intro K1 hK1
      obtain ⟨v', w7, hrun, hT2, hgr⟩ := hT.app (hZ.less (by omega)) c24_0 (by rw [List.length_take]; omega) (by omega) _
      refine if_pos_of rfl (Wstep.law (exec_append2 rfl hrun (by go_simp) (by go_simp)) ?_)
      refine hK1 _ _ ?_
      clear hK1 K1
      have z9 := World.grownBy.size hgr
      replace f2 := Chg.fz (grown_chg hgr) c2_0 f2 (lt_off hT.lt (by omega))
      replace f3 := Chg.fz (grown_chg hgr) c3_0 f3 (lt_off hT.lt (by omega))
      replace f4 := Chg.fz (grown_chg hgr) c4_0 f4 (lt_off hT.lt (by omega))
      replace f5 := Chg.fz (grown_chg hgr) c5_0 f5 (lt_off hT.lt (by omega))
      replace xw := Chg.to xw (grown_chg hgr) (lt_ge hT.lt (by omega))
      replace xo := Chg.more xo (grown_chg hgr) (by first | exact lt_gm hT.lt (by omega) | simp)
      replace c2_0 := Chg.cell (grown_chg hgr) c2_0 (lt_off hT.lt (by omega))
      replace c2_1 := Chg.cell (grown_chg hgr) c2_1 (lt_off hT.lt (by omega))
      replace c3_0 := Chg.cell (grown_chg hgr) c3_0 (lt_off hT.lt (by omega))
      replace c3_1 := Chg.cell (grown_chg hgr) c3_1 (lt_off hT.lt (by omega))
      replace c3_2 := Chg.cell (grown_chg hgr) c3_2 (lt_off hT.lt (by omega))
      replace c3_3 := Chg.cell (grown_chg hgr) c3_3 (lt_off hT.lt (by omega))
      replace c4_0 := Chg.cell (grown_chg hgr) c4_0 (lt_off hT.lt (by omega))
      replace c4_1 := Chg.cell (grown_chg hgr) c4_1 (lt_off hT.lt (by omega))
      replace c4_2 := Chg.cell (grown_chg hgr) c4_2 (lt_off hT.lt (by omega))
      replace c4_3 := Chg.cell (grown_chg hgr) c4_3 (lt_off hT.lt (by omega))
      replace c4_4 := Chg.cell (grown_chg hgr) c4_4 (lt_off hT.lt (by omega))
      replace c5_0 := Chg.cell (grown_chg hgr) c5_0 (lt_off hT.lt (by omega))
      replace c5_1 := Chg.cell (grown_chg hgr) c5_1 (lt_off hT.lt (by omega))
      replace c5_2 := Chg.cell (grown_chg hgr) c5_2 (lt_off hT.lt (by omega))
      replace c5_3 := Chg.cell (grown_chg hgr) c5_3 (lt_off hT.lt (by omega))
      replace c5_4 := Chg.cell (grown_chg hgr) c5_4 (lt_off hT.lt (by omega))
      replace d1 := Chg.cell (grown_chg hgr) d1 (lt_off hT.lt (by omega))
      obtain ⟨A10, n10, c10, rfl⟩ := hT2.slice2
      apply Mops.last
      · exact fun _ _ => Rops_done
      intro K1 hK1
      go_simp
      refine hK1 _ _ ?_
      clear hK1 K1
      apply Mops.last
      · exact fun _ _ => Rops_done
      intro K1 hK1
      go_simp
      refine hK1 _ _ ?_
      clear hK1 K1
      refine Mops.absS (b := n5) (i := 4) [_] (somes [cellVal c5_4] (by simp) (by intro j v hj; match j, hj with | 0, hj => (simp at hj; subst hj; exact c5_4))) fun P9 hP9 => ?_
      have zP9 := hP9.same
      replace f2 := Put.frz hP9 f2
      replace f3 := Put.frz hP9 f3
      replace f4 := Put.frz hP9 f4
      replace f5 := Put.frz hP9 f5
      replace hT2 := hT2.put hP9 (by omega)
      replace xw := Put.to xw hP9 (by omega)
      replace xo := Put.more xo hP9 (.inr (by simp))
      replace c2_0 := Put.cell hP9 c2_0 (by omega)
      replace c2_1 := Put.cell hP9 c2_1 (by omega)
      replace c3_0 := Put.cell hP9 c3_0 (by omega)
      replace c3_1 := Put.cell hP9 c3_1 (by omega)
      replace c3_2 := Put.cell hP9 c3_2 (by omega)
      replace c3_3 := Put.cell hP9 c3_3 (by omega)
      replace c4_0 := Put.cell hP9 c4_0 (by omega)
      replace c4_1 := Put.cell hP9 c4_1 (by omega)
      replace c4_2 := Put.cell hP9 c4_2 (by omega)
      replace c4_3 := Put.cell hP9 c4_3 (by omega)
      replace c4_4 := Put.cell hP9 c4_4 (by omega)
      replace c5_0 := Put.cellOff hP9 c5_0 (by simp)
      replace c5_1 := Put.cellOff hP9 c5_1 (by simp)
      replace c5_2 := Put.cellOff hP9 c5_2 (by simp)
      replace c5_3 := Put.cellOff hP9 c5_3 (by simp)
      clear c5_4
      replace d1 := Put.cell hP9 d1 (by omega)
      have c5_4 := hP9.new 0 _ rfl
      try simp only [Nat.reduceAdd, Nat.zero_add, Nat.add_zero] at c5_4
      clear hP9
      refine Mops.done ?_
      refine hK _ _ ?_
      clear hK K' gd
      refine Ends.keep [2, 4, 5, 11, 12, 13] fun r10 hkeep => ?_
      obtain ⟨e2_10, e4_10, e5_10, e11_10, e12_10, e13_10, -⟩ := hkeep
      simp [go_sem, e2_7, e4_7, e5_7, e6_7, e7_7, e11_7, e12_7, e13_7] at e2_10 e4_10 e5_10 e11_10 e12_10 e13_10
      clear e2_7 e4_7 e5_7 e6_7 e7_7 e11_7 e12_7 e13_7
      refine Ends.mk ?_
      refine blockK_normal ?_
      refine thenK_normal ?_
      refine Wp.loneRegion (.inl rfl) (by kernel_rfl) fun K' gd hK hg => ?_
      clear hg
      go_simp
      refine hK _ _ ?_
      clear hK K' gd
      refine Ends.keep [2, 4, 5, 11, 12, 13] fun r11 hkeep => ?_
      obtain ⟨e2_11, e4_11, e5_11, e11_11, e12_11, e13_11, -⟩ := hkeep
      simp [go_sem, e2_10, e4_10, e5_10, e11_10, e12_10, e13_10] at e2_11 e4_11 e5_11 e11_11 e12_11 e13_11
      clear e2_10 e4_10 e5_10 e11_10 e12_10 e13_10
      refine Ends.mk ?_
      refine thenK_normal ⟨by omega, ⟨by rw [e2_11, e2_4], by rw [e4_11, e4_4], by rw [e5_11, e5_4], by rw [e11_11, e11_4], by rw [e12_11, e12_4], trivial⟩, rfl, ⟨xo, f5⟩, ?_⟩
      exact ⟨_, by rw [e13_11, IntWalk.i64_in _ (by omega)]; rfl, c5_0, c5_1, c5_2, c5_3, c5_4, by rw [Sh.tab_take h]; exact hT2⟩
    · refine Wp.condF (by go_simp) ?_
      obtain rfl : k = c.words.length := by omega
      rw [List.take_of_length_le (by omega)] at hT
      refine Wp.exit ?_
      refine thenK_exit ?_
      refine thenK_exit ?_
      refine blockK_here ?_
      refine thenK_normal ?_
      refine Wp.seqRegion (.inl rfl) (by kernel_rfl) fun K' gd hK hg => ?_
      clear hg
      refine Wops.cut 2 fun K1 hK1 => ?_
      simp only [List.take_succ_cons, List.take_zero]
      go_simp
      refine hK1 _ _ ?_
      clear hK1 K1
      simp only [List.drop_succ_cons, List.drop_zero]
      refine Wops.absS (b := n4) (i := 0) [_, _, _, _, _] (somes [cellVal c4_0, cellVal c4_1, cellVal c4_2, cellVal c4_3, cellVal c4_4] (by simp) (by intro j v hj; match j, hj with | 0, hj => (simp at hj; subst hj; exact c4_0) | 1, hj => (simp at hj; subst hj; exact c4_1) | 2, hj => (simp at hj; subst hj; exact c4_2) | 3, hj => (simp at hj; subst hj; exact c4_3) | 4, hj => (simp at hj; subst hj; exact c4_4))) fun P10 hP10 => ?_
      have zP10 := hP10.same
      replace f2 := Put.frz hP10 f2
      replace f3 := Put.frz hP10 f3
      replace f4 := Put.frz hP10 f4
      replace f5 := Put.frz hP10 f5
      replace hT := hT.put hP10 (by omega)
      replace xw := Put.to xw hP10 (by omega)
      clear xo
      replace c2_0 := Put.cell hP10 c2_0 (by omega)
      replace c2_1 := Put.cell hP10 c2_1 (by omega)
      replace c3_0 := Put.cell hP10 c3_0 (by omega)
      replace c3_1 := Put.cell hP10 c3_1 (by omega)
      replace c3_2 := Put.cell hP10 c3_2 (by omega)
      replace c3_3 := Put.cell hP10 c3_3 (by omega)
      clear c4_0
      clear c4_1
      clear c4_2
      clear c4_3
      clear c4_4
      replace c5_0 := Put.cell hP10 c5_0 (by omega)
      replace c5_1 := Put.cell hP10 c5_1 (by omega)
      replace c5_2 := Put.cell hP10 c5_2 (by omega)
      replace c5_3 := Put.cell hP10 c5_3 (by omega)
      replace c5_4 := Put.cell hP10 c5_4 (by omega)
      have c4_0 := hP10.new 0 _ rfl
      try simp only [Nat.reduceAdd, Nat.zero_add, Nat.add_zero] at c4_0
      have c4_1 := hP10.new 1 _ rfl
      try simp only [Nat.reduceAdd, Nat.zero_add, Nat.add_zero] at c4_1
      have c4_2 := hP10.new 2 _ rfl
      try simp only [Nat.reduceAdd, Nat.zero_add, Nat.add_zero] at c4_2
      have c4_3 := hP10.new 3 _ rfl
      try simp only [Nat.reduceAdd, Nat.zero_add, Nat.add_zero] at c4_3
      have c4_4 := hP10.new 4 _ rfl
      try simp only [Nat.reduceAdd, Nat.zero_add, Nat.add_zero] at c4_4
      clear hP10
      try simp only [Wops_nil, updO_some, updO_none]
      refine hK _ _ ?_
      clear hK K' gd
      refine Wp.keep [4] fun r12 hkeep => ?_
      obtain ⟨e4_12, -⟩ := hkeep
      simp [go_sem, e2_6, e4_6, e5_6, e11_6, e12_6, e13_6, e14_6] at e4_12
      clear e2_6 e4_6 e5_6 e11_6 e12_6 e13_6 e14_6
      refine Wp.ret ?_
      refine endK_cell (v := .agg #[cellVal c4_0, cellVal c4_1, cellVal c4_2, cellVal c4_3, cellVal c4_4]) Try.results91 (by decide) e4_12 (by dsimp only [cellVal]; go_simp) ?_
      dsimp only [cellVal]
      exact ⟨⟨_, rfl, _, rfl, hT.less (by omega)⟩, xw⟩
theorem madeOf_c (v u : Value) (s : Sh) (c : Cp) (w : World) (hV : SheetV w w.heap.size v s) (hU : CopyV w w.heap.size u c) (hg : Good s) (hv : ValidC s c) :
    CallsV Try.prog 91 #[v, u] w fun v w' => MadeV w' w'.heap.size v (s.md c) ∧ Ext w w' :=
  (madeB_c v u s c w hV hU hg hv).mono fun v w' ⟨⟨wu, h1, h2⟩, h3⟩ => ⟨h2.made (by
    obtain ⟨wv, h4, h5⟩ := hU
    rw [h4] at h1; injection h1 with h1; simp at h1; subst h1
    exact h5.ext h3), h3⟩
end Go.Proofs.Ytnjajbkkgfohaaa
namespace Go.Proofs.Ytnjajbkkgfohaaa
open Go.RowKit Go.Wk Go.Proofs
attribute [local irreducible] Go.Wk.Wops Go.Wk.Wp Go.Wk.Mtree Go.Wk.Mops
set_option maxHeartbeats 4000000
set_option maxRecDepth 20000

@[go_sem] theorem eqZ_nil (w : World) (a : Option Addr) (n c n' c' : Nat) : (binOp .eql 37 (.slice a n c) (.slice none n' c')).run Try.prog w = .ok (.bool a.isNone) w :=
  Lib.run_eql_slice_nil w _ 62 a n c n' c' (by kernel_rfl)
theorem newsZ_of {w : World} {b o : Nat} {xs : List (Int × Int)} (h : ∀ i (h : i < xs.length) r u, (encZ xs[i])[r]? = some u → w.cell? ⟨b, o + i * 2 + r, none⟩ = some u) :
    ∀ j u, (encL xs)[j]? = some u → w.cell? ((⟨b, o, none⟩ : Addr).add j) = some u := by
  intro j u hu
  rw [Addr.add_lit]
  have hl := encL_len xs
  have hj : j < xs.length * 2 := by have := (List.getElem?_eq_some_iff.1 hu).1; omega
  obtain ⟨h1, h2⟩ := encL_get (l := xs) (k := j / 2) (s := xs[j / 2]'(by omega)) (List.getElem?_eq_getElem _)
  rcases Nat.mod_two_eq_zero_or_one j with hm | hm
  · have e : j = j / 2 * 2 := by omega
    have := h (j / 2) (by omega) 0 u (by rw [e, h1] at hu; rw [← hu]; rfl)
    rw [show o + j / 2 * 2 + 0 = o + j by omega] at this; exact this
  · have e : j = j / 2 * 2 + 1 := by omega
    have := h (j / 2) (by omega) 1 u (by rw [e, h2] at hu; rw [← hu]; rfl)
    rw [show o + j / 2 * 2 + 1 = o + j by omega] at this; exact this
theorem one_spans {xs : List (Int × Int)} : ∀ u ∈ encL xs, u.oneCell' = true := by
  intro u hu
  unfold encL at hu
  rw [List.mem_flatMap] at hu
  obtain ⟨x, -, hx⟩ := hu
  simp at hx; rcases hx with rfl | rfl <;> rfl
theorem cloneZ_c (v : Value) (xs : List (Int × Int)) (w : World) (hx : SpansV w w.heap.size v xs) (hl : xs.length ≤ 1000000000) :
    CallsV Try.prog 140 #[v] w fun v' w' => OwnZ w' w.heap.size v' xs ∧ Ext w w' := by
  obtain ⟨A, c, rfl, hx, hcap⟩ := hx
  have hA : (∃ b o, A = some ⟨b, o, none⟩ ∧ b < w.heap.size ∧ ∀ i (h : i < xs.length) r u, (encZ xs[i])[r]? = some u → w.cell? ⟨b, o + i * 2 + r, none⟩ = some u) ∨ (xs = [] ∧ A = none) ∨ (xs = [] ∧ ∃ a, A = some a) := by
    by_cases h : xs = []
    · cases A with
      | none => exact .inr (.inl ⟨h, rfl⟩)
      | some a => exact .inr (.inr ⟨h, a, rfl⟩)
    · exact .inl (hx h)
  rcases hA with ⟨b, o, rfl, hb, hc⟩ | ⟨rfl, rfl⟩ | ⟨rfl, a, rfl⟩
  · skip
    refine Wp.fn Try.func140 rfl Try.ntmps140 (by simp) ?_
    refine Wp.keep [0] fun r1 hkeep => ?_
    obtain ⟨e0_1, -⟩ := hkeep
    simp [go_sem] at e0_1
    refine Wp.seqRegion (.inl rfl) (by kernel_rfl) fun K' gd hK hg => ?_
    clear hg
    go_simp
    refine hK _ _ ?_
    clear hK K' gd
    refine Wp.keep [0] fun r2 hkeep => ?_
    obtain ⟨e0_2, -⟩ := hkeep
    simp [go_sem, e0_1] at e0_2
    clear e0_1
    refine Wp.seq ?_
    refine Wp.seqRegion (.inl rfl) (by kernel_rfl) fun K' gd hK hg => ?_
    clear hg
    go_simp
    refine hK _ _ ?_
    clear hK K' gd
    refine Wp.keep [0, 4] fun r3 hkeep => ?_
    obtain ⟨e0_3, e4_3, -⟩ := hkeep
    simp [go_sem, e0_2] at e0_3 e4_3
    clear e0_2
    refine Wp.condF (by go_simp) ?_
    refine Wp.skip ?_
    refine thenK_normal ?_
    refine Wp.seqRegion (.inl rfl) (by kernel_rfl) fun K' gd hK hg => ?_
    clear hg
    refine Wops.cut 2 fun K1 hK1 => ?_
    simp only [List.take_succ_cons, List.take_zero]
    go_simp
    refine hK1 _ _ ?_
    clear hK1 K1
    simp only [List.drop_succ_cons, List.drop_zero]
    obtain ⟨v', w', hrun, hown, hg, -⟩ := app_run spans_T (own0 w 62 2) ⟨b, o, none⟩ xs.length c (encL xs) 37 (encL_len xs) (newsZ_of fun i h r u hu => cell_al _ (hc i h r u hu)) one_spans (by omega) (by simp)
    refine Wops.law rfl (exec_append2 rfl hrun (by go_simp) (by go_simp)) ?_
    go_simp
    refine hK _ _ ?_
    clear hK K' gd
    refine Wp.keep [2] fun r4 hkeep => ?_
    obtain ⟨e2_4, -⟩ := hkeep
    simp [go_sem, e0_3, e4_3] at e2_4
    clear e0_3 e4_3
    refine Wp.ret ?_
    refine endK_tmp Try.results140 (by decide) ?_
    rw [e2_4]
    exact ⟨by simpa [OwnZ] using hown, Below.grown ((Ext.refl w).alloc _) (own0 w 62 2) hg (Nat.le_refl _) (Nat.le_refl _)⟩
  · skip
    refine Wp.fn Try.func140 rfl Try.ntmps140 (by simp) ?_
    refine Wp.keep [0] fun r1 hkeep => ?_
    obtain ⟨e0_1, -⟩ := hkeep
    simp [go_sem] at e0_1
    refine Wp.seqRegion (.inl rfl) (by kernel_rfl) fun K' gd hK hg => ?_
    clear hg
    go_simp
    refine hK _ _ ?_
    clear hK K' gd
    refine Wp.keep [0] fun r2 hkeep => ?_
    obtain ⟨e0_2, -⟩ := hkeep
    simp [go_sem, e0_1] at e0_2
    clear e0_1
    refine Wp.seq ?_
    refine Wp.seqRegion (.inl rfl) (by kernel_rfl) fun K' gd hK hg => ?_
    clear hg
    go_simp
    refine hK _ _ ?_
    clear hK K' gd
    refine Wp.keep [0, 4] fun r3 hkeep => ?_
    obtain ⟨e0_3, e4_3, -⟩ := hkeep
    simp [go_sem, e0_2] at e0_3 e4_3
    clear e0_2
    refine Wp.condT (by go_simp) ?_
    refine Wp.seqRegion (.inl rfl) (by kernel_rfl) fun K' gd hK hg => ?_
    clear hg
    go_simp
    refine hK _ _ ?_
    clear hK K' gd
    refine Wp.keep [2] fun r4 hkeep => ?_
    obtain ⟨e2_4, -⟩ := hkeep
    simp [go_sem, e0_3, e4_3] at e2_4
    clear e0_3 e4_3
    refine Wp.ret ?_
    refine thenK_ret ?_
    refine endK_tmp Try.results140 (by decide) ?_
    rw [e2_4]
    exact ⟨World.ownsRow_nil _ _ _ _, Ext.refl _⟩
  · skip
    refine Wp.fn Try.func140 rfl Try.ntmps140 (by simp) ?_
    refine Wp.keep [0] fun r1 hkeep => ?_
    obtain ⟨e0_1, -⟩ := hkeep
    simp [go_sem] at e0_1
    refine Wp.seqRegion (.inl rfl) (by kernel_rfl) fun K' gd hK hg => ?_
    clear hg
    go_simp
    refine hK _ _ ?_
    clear hK K' gd
    refine Wp.keep [0] fun r2 hkeep => ?_
    obtain ⟨e0_2, -⟩ := hkeep
    simp [go_sem, e0_1] at e0_2
    clear e0_1
    refine Wp.seq ?_
    refine Wp.seqRegion (.inl rfl) (by kernel_rfl) fun K' gd hK hg => ?_
    clear hg
    go_simp
    refine hK _ _ ?_
    clear hK K' gd
    refine Wp.keep [0, 4] fun r3 hkeep => ?_
    obtain ⟨e0_3, e4_3, -⟩ := hkeep
    simp [go_sem, e0_2] at e0_3 e4_3
    clear e0_2
    refine Wp.condF (by go_simp) ?_
    refine Wp.skip ?_
    refine thenK_normal ?_
    refine Wp.seqRegion (.inl rfl) (by kernel_rfl) fun K' gd hK hg => ?_
    clear hg
    refine Wops.cut 2 fun K1 hK1 => ?_
    simp only [List.take_succ_cons, List.take_zero]
    go_simp
    refine hK1 _ _ ?_
    clear hK1 K1
    simp only [List.drop_succ_cons, List.drop_zero]
    obtain - := trivial
    refine Wops.law rfl (exec_append rfl (by go_simp; exact ⟨rfl, rfl⟩)) ?_
    go_simp
    refine hK _ _ ?_
    clear hK K' gd
    refine Wp.keep [2] fun r4 hkeep => ?_
    obtain ⟨e2_4, -⟩ := hkeep
    simp [go_sem, e0_3, e4_3] at e2_4
    clear e0_3 e4_3
    refine Wp.ret ?_
    refine endK_tmp Try.results140 (by decide) ?_
    rw [e2_4]
    exact ⟨own0 w 62 2, (Ext.refl w).alloc _⟩
/-- block b holds n spans -/
structure RowP (W : World) (b n : Nat) (f : Nat → Int × Int) : Prop where
  c0 : ∀ i, i < n → W.cell? ⟨b, i * 2, none⟩ = some (.int .i64 (f i).1)
  c1 : ∀ i, i < n → W.cell? ⟨b, i * 2 + 1, none⟩ = some (.int .i64 (f i).2)
  fz : ∀ j, W.frozen? ⟨b, j, none⟩ = false
  n1 : 0 < n
section
variable {W V : World} {b n : Nat} {f : Nat → Int × Int}
theorem RowP.ext (h : RowP W b n f) (hE : Ext W V) : RowP V b n f := ⟨fun i hi => hE.cell (h.c0 i hi), fun i hi => hE.cell (h.c1 i hi), Ext.fz hE (h.c0 0 h.n1) h.fz, h.n1⟩
theorem RowP.set {i : Nat} {x : Int × Int} (h : RowP W b n f) (p : Put W V b (i * 2) [.int .i64 x.1, .int .i64 x.2]) : RowP V b n (fun q => if q = i then x else f q) := by
  refine ⟨fun q hq => ?_, fun q hq => ?_, fun j => (p.fz _).trans (h.fz j), h.n1⟩
  · skip
    by_cases e : q = i
    · subst e; rw [if_pos rfl]; have := p.new 0 _ rfl; rwa [Nat.add_zero] at this
    · rw [if_neg e]; exact Put.cellOff p (h.c0 q hq) (by simp; omega)
  · skip
    by_cases e : q = i
    · subst e; rw [if_pos rfl]; exact p.new 1 _ rfl
    · rw [if_neg e]; exact Put.cellOff p (h.c1 q hq) (by simp; omega)
theorem RowP.congr {g : Nat → Int × Int} (h : RowP W b n f) (he : ∀ i, i < n → g i = f i) : RowP W b n g := ⟨fun i hi => by rw [he i hi]; exact h.c0 i hi, fun i hi => by rw [he i hi]; exact h.c1 i hi, h.fz, h.n1⟩
end
def revF (n : Nat) (f : Nat → Int × Int) (k : Nat) : Nat → Int × Int := fun q => if q < k ∨ n < q + k + 1 then f (n - 1 - q) else f q
theorem revF_step {n k j : Nat} {f : Nat → Int × Int} (h : j + k + 1 = n) (hkj : k < j) (q : Nat) (hq : q < n) : revF n f (k + 1) q = if q = j then revF n f k k else if q = k then revF n f k j else revF n f k q := by
  have e1 : revF n f k k = f k := by unfold revF; rw [if_neg (by omega)]
  have e2 : revF n f k j = f j := by unfold revF; rw [if_neg (by omega)]
  rw [e1, e2]
  by_cases a : q = j
  · subst a; rw [if_pos rfl]; unfold revF; rw [if_pos (by omega)]; congr 1; omega
  · rw [if_neg a]
    by_cases c : q = k
    · subst c; rw [if_pos rfl]; unfold revF; rw [if_pos (by omega)]; congr 1; omega
    · rw [if_neg c]; unfold revF
      by_cases d : q < k ∨ n < q + k + 1
      · rw [if_pos d, if_pos (by omega)]
      · rw [if_neg d, if_neg (by omega)]
theorem swapZ {W : World} {b n k j : Nat} {f : Nat → Int × Int} (h : RowP W b n f) (hk : k < n) (hj : j < n) :
    RowP ((((W.drew.setCell ⟨b, k * 2, none⟩ (.int .i64 (f j).1)).setCell ⟨b, k * 2 + 1, none⟩ (.int .i64 (f j).2)).setCell ⟨b, j * 2, none⟩ (.int .i64 (f k).1)).setCell ⟨b, j * 2 + 1, none⟩ (.int .i64 (f k).2)) b n
      (fun q => if q = j then f k else if q = k then f j else f q) ∧
    Chg [b] W ((((W.drew.setCell ⟨b, k * 2, none⟩ (.int .i64 (f j).1)).setCell ⟨b, k * 2 + 1, none⟩ (.int .i64 (f j).2)).setCell ⟨b, j * 2, none⟩ (.int .i64 (f k).1)).setCell ⟨b, j * 2 + 1, none⟩ (.int .i64 (f k).2)) := by
  have h0 := h.ext (Ext.refl W).drew
  have p1 := setL_put (w := W.drew) (b := b) (i := k * 2) (vs := [.int .i64 (f j).1, .int .i64 (f j).2]) (some2 (h0.c0 k hk) (h0.c1 k hk))
  have h1 := h0.set p1
  have p2 := setL_put (b := b) (i := j * 2) (vs := [.int .i64 (f k).1, .int .i64 (f k).2]) (some2 (h1.c0 j hj) (h1.c1 j hj))
  exact ⟨h1.set p2, ((((Chg.refl [b] W).drew.setC (by simp)).setC (by simp)).setC (by simp)).setC (by simp)⟩
theorem revZ_c (b n c : Nat) (f : Nat → Int × Int) (w : World) (h : RowP w b n f) (hn : n ≤ 1000000000) :
    CallsV Try.prog 141 #[.slice (some ⟨b, 0, none⟩) n c] w fun _ w' => RowP w' b n (fun i => f (n - 1 - i)) ∧ Chg [b] w w' := by
  have h0 := h.n1
  have hw1 : IntKind.i64.wrap ((n : Int) - 1) = ((n - 1 : Nat) : Int) := by rw [IntWalk.i64_in _ (by omega)]; omega
  refine Wp.fn Try.func141 rfl Try.ntmps141 (by simp) ?_
  have xw := Ext.refl w
  refine Wp.keep [0] fun r1 hkeep => ?_
  obtain ⟨e0_1, -⟩ := hkeep
  simp [go_sem] at e0_1
  have xq := Chg.refl [b] w
  refine Wp.seqRegion (.inl rfl) (by kernel_rfl) fun K' gd hK hg => ?_
  clear hg
  go_simp
  refine hK _ _ ?_
  clear hK K' gd
  refine Wp.keep [0, 2, 3] fun r2 hkeep => ?_
  obtain ⟨e0_2, e2_2, e3_2, -⟩ := hkeep
  simp [go_sem, e0_1] at e0_2 e2_2 e3_2
  clear e0_1
  refine Wp.block ?_
  refine Wp.loop (fun k ρ ds wk => AllEq [0] ρ r2 ∧ ds = [] ∧ (Chg [b] w wk) ∧ (∃ j : Nat, ρ 2 = .int .i64 (k : Int) ∧ ρ 3 = .int .i64 (j : Int) ∧ j + k + 1 = n ∧ RowP wk b n (revF n f k))) (n) ?_ ?_
  · refine ⟨AllEq.refl _ _, rfl, Chg.refl _ _, ?_⟩
    exact ⟨n - 1, by rw [e2_2]; rfl, by rw [e3_2], by omega, h.congr fun i hi => by unfold revF; rw [if_neg (by omega)]⟩
  · rintro k r3 _ wk hk ⟨hA, rfl, xo, ⟨j, e2, e3, hjk, hR⟩⟩
    obtain ⟨e0_3, -⟩ := hA
    rw [e0_2] at e0_3
    have zxo := Chg.size xo
    clear xw
    replace xq := Chg.more xq xo (by intro b hm; simp only [List.mem_cons, List.not_mem_nil, or_false] at hm; first | (left; omega) | (right; simp [hm]))
    refine Wp.seq ?_
    refine Wp.seqRegion (.inl rfl) (by kernel_rfl) fun K' gd hK hg => ?_
    clear hg
    go_simp
    refine hK _ _ ?_
    clear hK K' gd
    refine Wp.keep [0, 2, 3, 9] fun r4 hkeep => ?_
    obtain ⟨e0_4, e2_4, e3_4, e9_4, -⟩ := hkeep
    simp [go_sem, e0_3, e2, e3] at e0_4 e2_4 e3_4 e9_4
    clear e0_3 e2 e3
    by_cases hkj : k < j
    · refine Wp.condT (by go_simp) ?_
      have hk2 := hkj
      have y0 := hR.c0 k (by omega)
      have y1 := hR.c1 k (by omega)
      have u0 := hR.c0 j (by omega)
      have u1 := hR.c1 j (by omega)
      have fb := hR.fz
      have hw2 : IntKind.i64.wrap ((j : Int) - 1) = ((j - 1 : Nat) : Int) := by rw [IntWalk.i64_in _ (by omega)]; omega
      have hin1 : (j : Int) < (n : Int) := by omega
      have hin2 : (k : Int) < (n : Int) := by omega
      obtain ⟨hS1, hS2⟩ := swapZ hR (show k < n by omega) (show j < n by omega)
      refine Wp.skip ?_
      refine thenK_normal ?_
      refine Wp.seq ?_
      refine Wp.block ?_
      refine Wp.loneDrawT (.inl rfl) mixed (.rd [0, 1, 4, 5, 6, 7, 8, 9, 10, 11, 12] (.both (.act 2 false (.both (.act 3 false (.act 13 true (.act 14 true (.act 15 true .done)))) (.act 13 true (.act 3 false (.act 14 true (.act 15 true .done)))))) (.both (.act 3 false (.both (.act 2 false (.act 13 true (.act 14 true (.act 15 true .done)))) (.act 13 true (.act 2 false (.act 14 true (.act 15 true .done)))))) (.act 13 true (.both (.act 2 false (.act 3 false (.act 14 true (.act 15 true .done)))) (.act 3 false (.act 2 false (.act 14 true (.act 15 true .done))))))))) (by kernel_rfl) (fun ρ W => AllEq [0, 2, 3] ρ r4 ∧ (RowP W b n (fun q => if q = j then revF n f k k else if q = k then revF n f k j else revF n f k q) ∧ Chg [b] w W)) (fun K' gd hK hg => ?_) ?_
      · skip
        clear hg
        simp only [pickT, nth, List.map_cons, List.map_nil]
        apply Mtree.reads
        · intro w' hE'
          have hC' := hE'.cellsS
          go_simp
          with_reducible rfl
        repeat' first
          | refine Mtree.two ?_ ?_
          | (refine Mtree.fin ?_; refine hK _ _ ⟨by simp [AllEq, go_sem], ?_⟩; exact ⟨hS1, xo.more hS2 (by simp)⟩)
          | (refine Mtree.stepT fun K1 hK1 => ?_; go_simp; refine hK1 _ _ ?_; clear hK1 K1)
          | (refine Mtree.step fun K1 hK1 => ?_; go_simp; refine hK1 _ _ XA ?_; clear hK1 K1)
      · rintro r5 W ⟨hA, hR2, xo⟩
        obtain ⟨e0_5, e2_5, e3_5, -⟩ := hA
        rw [e0_4] at e0_5
        rw [e2_4] at e2_5
        rw [e3_4] at e3_5
        clear e0_4 e2_4 e3_4 e9_4
        refine Ends.mk ?_
        refine blockK_normal ?_
        refine thenK_normal ?_
        refine Wp.loneRegion (.inl rfl) (by kernel_rfl) fun K' gd hK hg => ?_
        clear hg
        go_simp
        refine hK _ _ ?_
        clear hK K' gd
        refine Ends.keep [0, 2, 3] fun r6 hkeep => ?_
        obtain ⟨e0_6, e2_6, e3_6, -⟩ := hkeep
        simp [go_sem, e0_5, e2_5, e3_5] at e0_6 e2_6 e3_6
        clear e0_5 e2_5 e3_5
        refine Ends.mk ?_
        refine thenK_normal ⟨by omega, ⟨by rw [e0_6, e0_2], trivial⟩, rfl, xo, ?_⟩
        exact ⟨j - 1, by rw [e2_6, IntWalk.i64_in _ (by omega)]; rfl, by rw [e3_6], by omega, hR2.congr fun q hq => by rw [revF_step hjk hk2 q hq]⟩
    · refine Wp.condF (by go_simp) ?_
      refine Wp.exit ?_
      refine thenK_exit ?_
      refine thenK_exit ?_
      refine blockK_here ?_
      refine endN_none Try.results141 ?_
      exact ⟨hR.congr fun i hi => by unfold revF; by_cases e : i < k ∨ n < i + k + 1; (rw [if_pos e]); (rw [if_neg e]; congr 1; omega), xo⟩
end Go.Proofs.Ytnjajbkkgfohaaa
