/- Arguments, opened. Spans, flaws, mendings and copies as arguments, opened. -/
import Derived.Test.YtnklbepeoicgpaaGreatQ4
import Derived.Test.YtnklbepeoicgpaaGreatQw1
set_option linter.all false
namespace Go.Proofs.YtnklbepeoicgpaaGreat
open Go.RowKit Go.Wk Go.Proofs
theorem list_four {α : Type} {l : List α} (h : l.length = 4) : ∃ a b c d, l = [a, b, c, d] := by
  match l, h with
  | [a, b, c, d], _ => exact ⟨a, b, c, d, rfl⟩
theorem list_three {α : Type} {l : List α} (h : l.length = 3) : ∃ a b c, l = [a, b, c] := by
  match l, h with
  | [a, b, c], _ => exact ⟨a, b, c, rfl⟩
theorem list_two {α : Type} {l : List α} (h : l.length = 2) : ∃ a b, l = [a, b] := by
  match l, h with
  | [a, b], _ => exact ⟨a, b, rfl⟩
theorem openI {w : World} {v : Value} (h : Rd Tryz.prog w 22 [v]) : ∃ xs, IntsV w w.heap.size v xs ∧ xs.length ≤ farI := by
  have e1 : Tryz.prog.cellsOf 3 = 1 := by kernel_rfl
  have e2 : Tryz.prog.bytesOf 3 = 8 := by kernel_rfl
  obtain ⟨A, n, c, rfl, hn, hc, hx⟩ := h.list Tryz.underlying22 (by rw [e1]; decide) (by rw [e2]; decide); rw [e1] at hx; clear e1 e2
  obtain ⟨f, hf⟩ := Go.Deep.choose_lt (α := Int) (p := fun i z => ∃ b o, A = some ⟨b, o, none⟩ ∧ b < w.heap.size ∧ w.cell? ⟨b, o + i, none⟩ = some (.int .i64 z)) fun i hi => by
    obtain ⟨b, o, cs, h1, h2, h3, h4, h5⟩ := hx i hi; obtain ⟨z, rfl, -⟩ := h5.int Tryz.underlying3; exact ⟨z, b, o, h1, h2, by have := h4 0 (by decide); simpa using this⟩
  have hl : ((List.range n).map f).length = n := by simp
  refine ⟨(List.range n).map f, ⟨A, c, by rw [hl], fun hne => ?_, by rw [hl]; exact hn⟩, by rw [hl]; omega⟩
  have h0 : 0 < n := by
    rcases Nat.eq_zero_or_pos n with e | e
    · subst e; exact absurd rfl hne
    · exact e
  obtain ⟨b, o, h1, h2, -⟩ := hf 0 h0; refine ⟨b, o, h1, h2, fun k hk => ?_⟩; rw [hl] at hk; obtain ⟨b', o', h1', h2', h3'⟩ := hf k hk; rw [h1] at h1'
  injection h1' with h1'
  injection h1' with hb ho
  subst hb; subst ho
  simpa using h3'
theorem openZ {w : World} {cs : List Value} (h : Rd Tryz.prog w 45 cs) : ∃ z : Int × Int, cs = encZ z := by
  have e1 : Tryz.prog.cellsOf 45 = 2 := by kernel_rfl
  have e3 : Tryz.prog.cellsOf 3 = 1 := by kernel_rfl
  obtain ⟨hl, hs⟩ := h.struct Tryz.underlying45; have s0 : Rd Tryz.prog w 3 ((cs.drop 0).take (Tryz.prog.cellsOf 3)) := hs 0 _ rfl; have s1 : Rd Tryz.prog w 3 ((cs.drop 1).take (Tryz.prog.cellsOf 3)) := hs 1 _ rfl; rw [e1] at hl; rw [e3] at s0 s1; obtain ⟨c0, c1, rfl⟩ := list_two hl; obtain ⟨z0, q0, -⟩ := s0.int Tryz.underlying3; obtain ⟨z1, q1, -⟩ := s1.int Tryz.underlying3; simp only [List.drop_zero, List.take_succ_cons, List.take_zero, List.drop_succ_cons, List.cons.injEq, and_true] at q0 q1; subst q0; subst q1; exact ⟨(z0, z1), rfl⟩
theorem openF {w : World} {cs : List Value} (h : Rd Tryz.prog w 47 cs) : ∃ f : Fl, cs = encF f := by
  have e1 : Tryz.prog.cellsOf 47 = 4 := by kernel_rfl
  have e2 : Tryz.prog.cellsOf 45 = 2 := by kernel_rfl
  have e3 : Tryz.prog.cellsOf 3 = 1 := by kernel_rfl
  obtain ⟨hl, hs⟩ := h.struct Tryz.underlying47; have s0 : Rd Tryz.prog w 3 ((cs.drop 0).take (Tryz.prog.cellsOf 3)) := hs 0 _ rfl; have s1 : Rd Tryz.prog w 45 ((cs.drop 1).take (Tryz.prog.cellsOf 45)) := hs 1 _ rfl; have s2 : Rd Tryz.prog w 3 ((cs.drop 3).take (Tryz.prog.cellsOf 3)) := hs 2 _ rfl; rw [e1] at hl; rw [e3] at s0 s2; rw [e2] at s1; obtain ⟨c0, c1, c2, c3, rfl⟩ := list_four hl; obtain ⟨z0, q0, -⟩ := s0.int Tryz.underlying3; obtain ⟨⟨lo, hi⟩, q1⟩ := openZ s1; obtain ⟨z2, q2, -⟩ := s2.int Tryz.underlying3; simp only [List.drop_zero, List.take_succ_cons, List.take_zero, List.drop_succ_cons, List.cons.injEq, and_true, encZ] at q0 q1 q2; subst q0; subst q2; obtain ⟨rfl, rfl⟩ := q1; exact ⟨⟨z0, lo, hi, z2⟩, rfl⟩
instance : Inhabited Fl := ⟨⟨0, 0, 0, 0⟩⟩
theorem openFs {w : World} {v : Value} (h : Rd Tryz.prog w 23 [v]) : ∃ al, RowsV 4 encF w w.heap.size v al ∧ al.length ≤ farI := by
  have e1 : Tryz.prog.cellsOf 47 = 4 := by kernel_rfl
  have e2 : Tryz.prog.bytesOf 47 = 32 := by kernel_rfl
  obtain ⟨A, n, c, rfl, hn, hc, hx⟩ := h.list Tryz.underlying23 (by rw [e1]; decide) (by rw [e2]; decide); rw [e1] at hx; clear e1 e2
  obtain ⟨f, hf⟩ := Go.Deep.choose_lt (α := Fl) (p := fun i z => ∃ b o, A = some ⟨b, o, none⟩ ∧ b < w.heap.size ∧ ∀ r u, (encF z)[r]? = some u → w.cell? ⟨b, o + i * 4 + r, none⟩ = some u) fun i hi => by
    obtain ⟨b, o, cs, h1, h2, h3, h4, h5⟩ := hx i hi; obtain ⟨a, rfl⟩ := openF h5
    exact ⟨a, b, o, h1, h2, fun r u hu => by
      have hr : r < 4 := (List.getElem?_eq_some_iff.1 hu).1
      rw [h4 r hr]; exact hu⟩
  have hl : ((List.range n).map f).length = n := by simp
  refine ⟨(List.range n).map f, ⟨A, c, by rw [hl], fun hne => ?_, by rw [hl]; exact hn⟩, by rw [hl]; omega⟩
  have h0 : 0 < n := by
    rcases Nat.eq_zero_or_pos n with e | e
    · subst e; exact absurd rfl hne
    · exact e
  obtain ⟨b, o, h1, h2, -⟩ := hf 0 h0; refine ⟨b, o, h1, h2, fun k hk r u hu => ?_⟩; rw [hl] at hk; obtain ⟨b', o', h1', h2', h3'⟩ := hf k hk; rw [h1] at h1'
  injection h1' with h1'
  injection h1' with hb ho
  subst hb; subst ho; exact h3' r u (by simpa using hu)
theorem openTr {w : World} {v : Value} (hv : ∃ cs, v = .agg cs) (h : Rd Tryz.prog w 25 v.cells.toList) : ∃ t, TourV w w.heap.size v t := by
  obtain ⟨cs, rfl⟩ := hv; have e1 : Tryz.prog.cellsOf 25 = 3 := by kernel_rfl
  have e3 : Tryz.prog.cellsOf 3 = 1 := by kernel_rfl
  have e4 : Tryz.prog.cellsOf 22 = 1 := by kernel_rfl
  have e5 : Tryz.prog.cellsOf 23 = 1 := by kernel_rfl
  obtain ⟨hl, hs⟩ := h.struct Tryz.underlying25; have s0 : Rd Tryz.prog w 3 (((Value.agg cs).cells.toList.drop 0).take (Tryz.prog.cellsOf 3)) := hs 0 _ rfl; have s1 : Rd Tryz.prog w 22 (((Value.agg cs).cells.toList.drop 1).take (Tryz.prog.cellsOf 22)) := hs 1 _ rfl; have s2 : Rd Tryz.prog w 23 (((Value.agg cs).cells.toList.drop 2).take (Tryz.prog.cellsOf 23)) := hs 2 _ rfl; rw [e1] at hl; simp only [Value.cells] at hl s0 s1 s2; rw [e3] at s0; rw [e4] at s1; rw [e5] at s2; clear e1 e3 e4 e5; obtain ⟨l⟩ := cs; obtain ⟨c0, c1, c2, rfl⟩ := list_three hl; obtain ⟨z0, q0, -⟩ := s0.int Tryz.underlying3; obtain ⟨xs, hx, hxl⟩ := openI s1; obtain ⟨al, ha, hal⟩ := openFs s2; simp only [List.drop_zero, List.take_succ_cons, List.take_zero, List.drop_succ_cons, List.cons.injEq, and_true] at q0; subst q0; exact ⟨⟨z0, xs, al⟩, c1, c2, rfl, hx, ha⟩
theorem openZV {w : World} {cs : Array Value} (h : Rd Tryz.prog w 45 (Value.agg cs).cells.toList) : ∃ z : Int × Int, cs = #[.int .i64 z.1, .int .i64 z.2] := by
  obtain ⟨z, hz⟩ := openZ h; exact ⟨z, Array.ext' hz⟩
instance : Inhabited Tk := ⟨⟨0, 0, []⟩⟩
end Go.Proofs.YtnklbepeoicgpaaGreat
