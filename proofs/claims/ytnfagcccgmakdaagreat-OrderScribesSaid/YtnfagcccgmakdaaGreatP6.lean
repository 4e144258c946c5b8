/- The chapter's order. The answers at the chapter's order. What the functions return at the chapter's order. The chapter's examples. Arguments, opened. The beginnings are the earliest days, the latest days the latest. -/
import Derived.Test.YtnfagcccgmakdaaGreatP5
import Derived.Test.YtnfagcccgmakdaaGreatP1
import Derived.Test.YtnfagcccgmakdaaGreatP3
set_option linter.all false
namespace Go.Proofs.YtnfagcccgmakdaaGreat
open Go.RowKit Go.Wk Go.Proofs
attribute [local irreducible] Go.Wk.Wops Go.Wk.Wp
set_option maxHeartbeats 4000000
def three : Ord := ⟨[1, 2, 1], [⟨1, 0, [3, 4, 2]⟩, ⟨2, 1, [2, 5, 3]⟩, ⟨3, 2, [4, 3, 1]⟩]⟩
def pair : Ord := ⟨[1, 1], [⟨1, 0, [3, 6]⟩, ⟨2, 0, [5, 2]⟩, ⟨3, 0, [1, 2]⟩]⟩
theorem at_c (i j : Int) (w : World) : CallsV Tryz.prog 54 #[.int .i64 i, .int .i64 j] w fun v w' => v = .agg #[.int .i64 i, .int .i64 j] ∧ Ext w w' := by
  refine Wp.fn Tryz.func54 rfl Tryz.ntmps54 (by simp) ?_; refine Wp.keep [0, 1] fun r1 hkeep => ?_; obtain ⟨e0_1, e1_1, -⟩ := hkeep; simp [go_sem] at e0_1 e1_1; refine Wp.seqRegion (.inl rfl) (by kernel_rfl) fun K' gd hK hg => ?_; clear hg; go_simp; refine hK _ _ ?_; clear hK K' gd; refine Wp.keep [0, 1, 4] fun r2 hkeep => ?_; obtain ⟨e0_2, e1_2, e4_2, -⟩ := hkeep; simp [go_sem, e0_1, e1_1] at e0_2 e1_2 e4_2; clear e0_1 e1_1; refine Wp.seqRegion (.inl rfl) (by kernel_rfl) fun K' gd hK hg => ?_; clear hg; go_simp; refine hK _ _ ?_; clear hK K' gd; refine Wp.keep [4] fun r3 hkeep => ?_; obtain ⟨e4_3, -⟩ := hkeep; simp [go_sem, e0_2, e1_2, e4_2] at e4_3; clear e0_2 e1_2 e4_2; refine Wp.ret ?_; refine endK_cell (v := .agg #[.int .i64 i, .int .i64 j]) Tryz.results54 (by decide) e4_3 (by go_simp) ?_; exact ⟨rfl, XS⟩
theorem ints3 {w : World} {B b : Nat} {x y z : Int} (hb : b < B) (h0 : w.cell? ⟨b, 0, none⟩ = some (.int .i64 x)) (h1 : w.cell? ⟨b, 1, none⟩ = some (.int .i64 y)) (h2 : w.cell? ⟨b, 2, none⟩ = some (.int .i64 z)) : IntsV w B (.slice (some ⟨b, 0, none⟩) 3 3) [x, y, z] :=
  ⟨_, 3, rfl, fun _ => ⟨b, 0, rfl, hb, fun k hk => by
    match k, hk with
    | 0, _ => simpa using h0
    | 1, _ => simpa using h1
    | 2, _ => simpa using h2⟩, Nat.le_refl _⟩
theorem ints2 {w : World} {B b : Nat} {x y : Int} (hb : b < B) (h0 : w.cell? ⟨b, 0, none⟩ = some (.int .i64 x)) (h1 : w.cell? ⟨b, 1, none⟩ = some (.int .i64 y)) : IntsV w B (.slice (some ⟨b, 0, none⟩) 2 2) [x, y] :=
  ⟨_, 2, rfl, fun _ => ⟨b, 0, rfl, hb, fun k hk => by
    match k, hk with
    | 0, _ => simpa using h0
    | 1, _ => simpa using h1⟩, Nat.le_refl _⟩
theorem runs3 {w : World} {B b : Nat} {r s t : Run} {u v x : Value} (hb : b < B) (h0 : w.cell? ⟨b, 0, none⟩ = some (.int .i64 r.id)) (h1 : w.cell? ⟨b, 1, none⟩ = some (.int .i64 r.arr)) (h2 : w.cell? ⟨b, 2, none⟩ = some u)
    (h3 : w.cell? ⟨b, 3, none⟩ = some (.int .i64 s.id)) (h4 : w.cell? ⟨b, 4, none⟩ = some (.int .i64 s.arr)) (h5 : w.cell? ⟨b, 5, none⟩ = some v)
    (h6 : w.cell? ⟨b, 6, none⟩ = some (.int .i64 t.id)) (h7 : w.cell? ⟨b, 7, none⟩ = some (.int .i64 t.arr)) (h8 : w.cell? ⟨b, 8, none⟩ = some x)
    (hu : IntsV w B u r.takes) (hv : IntsV w B v s.takes) (hx : IntsV w B x t.takes) : RunsV w B (.slice (some ⟨b, 0, none⟩) 3 3) [r, s, t] := by
  refine ⟨_, 3, fun k => if k = 0 then u else if k = 1 then v else x, rfl, fun _ => ⟨b, 0, rfl, hb, fun k hk => ?_⟩, fun k hk => ?_, Nat.le_refl _⟩
  · match k, hk with
    | 0, _ => exact ⟨by simpa using h0, by simpa using h1, by simpa using h2⟩
    | 1, _ => exact ⟨by simpa using h3, by simpa using h4, by simpa using h5⟩
    | 2, _ => exact ⟨by simpa using h6, by simpa using h7, by simpa using h8⟩
  · match k, hk with
    | 0, _ => simpa using hu
    | 1, _ => simpa using hv
    | 2, _ => simpa using hx
theorem three_c (w : World) : CallsV Tryz.prog 67 #[] w fun v w' => OrderV w' w'.heap.size v three ∧ Ext w w' := by
  refine Wp.fn Tryz.func67 rfl Tryz.ntmps67 (by simp) ?_; refine Wp.keep [] fun r1 hkeep => ?_; clear hkeep; refine Wp.seqRegion (.inl rfl) (by kernel_rfl) fun K' gd hK hg => ?_; clear hg; go_simp; refine hK _ _ ?_; clear hK K' gd; refine Wp.keep [0] fun r2 hkeep => ?_; obtain ⟨e0_2, -⟩ := hkeep; simp [go_sem] at e0_2; refine Wp.seqRegion (.inl rfl) (by kernel_rfl) fun K' gd hK hg => ?_; clear hg; go_simp; refine hK _ _ ?_; clear hK K' gd; refine Wp.keep [0] fun r3 hkeep => ?_; obtain ⟨e0_3, -⟩ := hkeep; simp [go_sem, e0_2] at e0_3; clear e0_2; refine Wp.ret ?_; refine endK_cell (v := .agg #[.slice (some ⟨w.heap.size + 1, 0, none⟩) 3 3, .slice (some ⟨w.heap.size + 1 + 1 + 1 + 1 + 1, 0, none⟩) 3 3]) Tryz.results67 (by decide) e0_3 (by go_simp) ?_; refine ⟨⟨_, _, rfl, ints3 (by simp) (by go_simp) (by go_simp) (by go_simp), ?_⟩, XS⟩; exact runs3 (u := .slice (some ⟨w.heap.size + 1 + 1, 0, none⟩) 3 3) (v := .slice (some ⟨w.heap.size + 1 + 1 + 1, 0, none⟩) 3 3) (x := .slice (some ⟨w.heap.size + 1 + 1 + 1 + 1, 0, none⟩) 3 3) (by simp) (by go_simp) (by go_simp) (by go_simp) (by go_simp) (by go_simp) (by go_simp) (by go_simp) (by go_simp) (by go_simp) (ints3 (by simp) (by go_simp) (by go_simp) (by go_simp)) (ints3 (by simp) (by go_simp) (by go_simp) (by go_simp)) (ints3 (by simp) (by go_simp) (by go_simp) (by go_simp))
end Go.Proofs.YtnfagcccgmakdaaGreat
namespace Go.Proofs.YtnfagcccgmakdaaGreat
open Go.RowKit Go.Wk Go.Proofs
attribute [local irreducible] Go.Wk.Wops Go.Wk.Wp
set_option maxHeartbeats 4000000
theorem check3 : checkS three = 0 := by kernel_rfl
theorem times3 : tabL three (begA three) = [[0, 3, 7], [3, 5, 10], [5, 9, 13]] := by kernel_rfl
theorem end3 : endS three = 14 := by kernel_rfl
theorem wait3 : waitL three = [0, 2, 4] := by kernel_rfl
theorem idle3 : idleL three = [0, 2, 1] := by kernel_rfl
theorem latE3 : latestE three 14 = 0 := by kernel_rfl
theorem lat3 : tabL three (lstA three 14) = [[0, 4, 8], [3, 5, 10], [6, 10, 13]] := by kernel_rfl
theorem crit3 : critL three = [(0, 0), (1, 0), (1, 1), (1, 2), (2, 2)] := by kernel_rfl
theorem moreE3 : moreE three 0 = 0 := by kernel_rfl
theorem save3 : saveV three 0 = 1 := by kernel_rfl
theorem needE3 : needE three 0 13 = 0 := by kernel_rfl
theorem need3 : needN three 0 13 = 2 := by kernel_rfl
theorem delay3 : delayE three 0 1 1 = 0 := by kernel_rfl
theorem reach3 : reachL three 0 1 1 = [(0, 2)] := by kernel_rfl
theorem askR3 : askS three (okRunner three 0) = 0 := by kernel_rfl
theorem rateN3 : rateN three 0 = 3 := by kernel_rfl
theorem rateD3 : rateD three 0 = 1 := by kernel_rfl
theorem best3 : bestA three 0 three.m = 0 := by kernel_rfl
theorem alikeN3 : alikeN three 0 3 = 15 := by kernel_rfl
theorem alikeE3 : alikeE three 0 3 = 0 := by kernel_rfl
theorem askD3 : askS three (okDay 9) = 0 := by kernel_rfl
theorem hold3 : holdL three 9 = [(1, 1), (2, 1)] := by kernel_rfl
theorem johnE3 : johnE pair = 0 := by kernel_rfl
theorem johnL3 : johnL pair = [3, 1, 2] := by kernel_rfl
theorem johnN3 : endS (johnO pair) = 12 := by kernel_rfl
theorem ample3 : ampleV three = 11 := by kernel_rfl
theorem askP3 : askS three (isStint three 2 2) = 0 := by kernel_rfl
theorem path3 : isPathV three (2, 2) (pathZ three (2, 2)) = true := by kernel_rfl
theorem pathl3 : (pathZ three (2, 2)).length = 5 := by kernel_rfl
end Go.Proofs.YtnfagcccgmakdaaGreat
namespace Go.Proofs.YtnfagcccgmakdaaGreat
open Go.RowKit Go.Wk Go.Proofs
attribute [local irreducible] Go.Wk.Wops Go.Wk.Wp
theorem three_good : OrdGood three := checkS_zero.1 check3
theorem three_fits : Fits three := three_good.fits
theorem pair_good : OrdGood pair := checkS_zero.1 (by kernel_rfl)
theorem t3_times (v : Value) (w : World) (hV : OrderV w w.heap.size v three) : CallsV Tryz.prog 12 #[v] w fun v w' => ∃ t, v = .tuple #[t, .int .i64 0] ∧ TabV w' w'.heap.size t [[0, 3, 7], [3, 5, 10], [5, 9, 13]] ∧ Ext w w' :=
  (Times_c v three w hV three_fits).mono fun _ _ ⟨t, h1, h2, h3⟩ => by
    rw [check3] at h1 h2; rw [if_pos rfl, times3] at h2; exact ⟨t, h1, h2.tabV, h3⟩
theorem t3_end (v : Value) (w : World) (hV : OrderV w w.heap.size v three) : CallsV Tryz.prog 14 #[v] w fun v w' => v = .tuple #[.int .i64 14, .int .i64 0] ∧ Ext w w' :=
  (End_c v three w hV three_fits).mono fun _ _ ⟨h1, h3⟩ => by
    rw [check3, if_pos rfl, end3] at h1; exact ⟨h1, h3⟩
theorem t3_path (v : Value) (w : World) (hV : OrderV w w.heap.size v three) : CallsV Tryz.prog 55 #[v, .agg #[.int .i64 2, .int .i64 2]] w fun v w' => ∃ t, v = .tuple #[t, .int .i64 0] ∧ StintsV w' w'.heap.size t (pathZ three (2, 2)) ∧ Ext w w' :=
  (Path_c v three 2 2 w hV three_fits).mono fun _ _ ⟨t, h1, h2, h3⟩ => by
    rw [askP3] at h1 h2; rw [if_pos rfl] at h2; exact ⟨t, h1, h2.stintsV, h3⟩
theorem t3_waits (v : Value) (w : World) (hV : OrderV w w.heap.size v three) : CallsV Tryz.prog 16 #[v] w fun v w' => ∃ t, v = .tuple #[t, .int .i64 0] ∧ IntsV w' w'.heap.size t [0, 2, 4] ∧ Ext w w' :=
  (Waits_c v three w hV three_fits).mono fun _ _ ⟨t, h1, h2, h3⟩ => by
    rw [check3] at h1 h2; rw [if_pos rfl, wait3] at h2; exact ⟨t, h1, h2.intsV, h3⟩
theorem t3_idle (v : Value) (w : World) (hV : OrderV w w.heap.size v three) : CallsV Tryz.prog 18 #[v] w fun v w' => ∃ t, v = .tuple #[t, .int .i64 0] ∧ IntsV w' w'.heap.size t [0, 2, 1] ∧ Ext w w' :=
  (Idle_c v three w hV three_fits).mono fun _ _ ⟨t, h1, h2, h3⟩ => by
    rw [check3] at h1 h2; rw [if_pos rfl, idle3] at h2; exact ⟨t, h1, h2.intsV, h3⟩
theorem t3_latest (v : Value) (w : World) (hV : OrderV w w.heap.size v three) : CallsV Tryz.prog 29 #[v, .int .i64 14] w fun v w' => ∃ t, v = .tuple #[t, .int .i64 0] ∧ TabV w' w'.heap.size t [[0, 4, 8], [3, 5, 10], [6, 10, 13]] ∧ Ext w w' :=
  (Latest_c v three 14 w hV three_fits).mono fun _ _ ⟨t, h1, h2, h3⟩ => by
    rw [latE3] at h1 h2; rw [if_pos rfl, lat3] at h2; exact ⟨t, h1, h2.tabV, h3⟩
theorem t3_crit (v : Value) (w : World) (hV : OrderV w w.heap.size v three) : CallsV Tryz.prog 22 #[v] w fun v w' => ∃ t, v = .tuple #[t, .int .i64 0] ∧ StintsV w' w'.heap.size t [(0, 0), (1, 0), (1, 1), (1, 2), (2, 2)] ∧ Ext w w' :=
  (Critical_c v three w hV three_fits).mono fun _ _ ⟨t, h1, h2, h3⟩ => by
    rw [check3] at h1 h2; rw [if_pos rfl, crit3] at h2; exact ⟨t, h1, h2.stintsV, h3⟩
theorem t3_save (v : Value) (w : World) (hV : OrderV w w.heap.size v three) : CallsV Tryz.prog 38 #[v, .int .i64 0] w fun v w' => v = .tuple #[.int .i64 1, .int .i64 0] ∧ Ext w w' :=
  (Save_c v three 0 w hV three_fits).mono fun _ _ ⟨h1, h3⟩ => by
    rw [moreE3, save3] at h1; exact ⟨h1, h3⟩
theorem t3_need (v : Value) (w : World) (hV : OrderV w w.heap.size v three) : CallsV Tryz.prog 40 #[v, .int .i64 0, .int .i64 13] w fun v w' => v = .tuple #[.int .i64 2, .int .i64 0] ∧ Ext w w' :=
  (Need_c v three 0 13 w hV three_fits).mono fun _ _ ⟨h1, h3⟩ => by
    rw [needE3, need3] at h1; exact ⟨h1, h3⟩
theorem t3_reach (v : Value) (w : World) (hV : OrderV w w.heap.size v three) : CallsV Tryz.prog 33 #[v, .agg #[.int .i64 0, .int .i64 1], .int .i64 1] w fun v w' => ∃ t, v = .tuple #[t, .int .i64 0] ∧ StintsV w' w'.heap.size t [(0, 2)] ∧ Ext w w' :=
  (Reach_c v three 0 1 1 w hV three_fits).mono fun _ _ ⟨t, h1, h2, h3⟩ => by
    rw [delay3] at h1 h2; rw [if_pos rfl, reach3] at h2; exact ⟨t, h1, h2.stintsV, h3⟩
theorem t3_rate (v : Value) (w : World) (hV : OrderV w w.heap.size v three) : CallsV Tryz.prog 46 #[v, .int .i64 0] w fun v w' => v = .tuple #[.agg #[.int .i64 3, .int .i64 1], .int .i64 0, .int .i64 0] ∧ Ext w w' :=
  (Rate_c v three 0 w hV three_fits).mono fun _ _ ⟨h1, h3⟩ => by
    rw [askR3, if_pos rfl] at h1; rw [show (0 : Int).toNat = 0 from rfl, rateN3, rateD3, best3] at h1; exact ⟨h1, h3⟩
theorem t3_alike (v : Value) (w : World) (hV : OrderV w w.heap.size v three) : CallsV Tryz.prog 48 #[v, .int .i64 0, .int .i64 3] w fun v w' => v = .tuple #[.int .i64 15, .int .i64 0] ∧ Ext w w' :=
  (Alike_c v three 0 3 w hV three_fits).mono fun _ _ ⟨h1, h3⟩ => by
    rw [alikeN3, alikeE3] at h1; exact ⟨h1, h3⟩
theorem t3_hold (v : Value) (w : World) (hV : OrderV w w.heap.size v three) : CallsV Tryz.prog 68 #[v, .int .i64 9] w fun v w' => ∃ t, v = .tuple #[t, .int .i64 0] ∧ StintsV w' w'.heap.size t [(1, 1), (2, 1)] ∧ Ext w w' :=
  (Hold_c v three 9 w hV three_fits).mono fun _ _ ⟨t, h1, h2, h3⟩ => by
    rw [askD3] at h1 h2; rw [if_pos rfl, hold3] at h2; exact ⟨t, h1, h2.stintsV, h3⟩
theorem t3_john (v : Value) (w : World) (hV : OrderV w w.heap.size v pair) : CallsV Tryz.prog 50 #[v] w fun v w' => ∃ t, v = .tuple #[t, .int .i64 12, .int .i64 0] ∧ IntsV w' w'.heap.size t [3, 1, 2] ∧ Ext w w' :=
  (Johnson_c v pair w hV pair_good.fits).mono fun _ _ ⟨t, h1, h2, h3⟩ => by
    rw [johnE3] at h1 h2; rw [if_pos rfl, johnN3] at h1; rw [if_pos rfl, johnL3] at h2; exact ⟨t, h1, h2.intsV, h3⟩
theorem t3_ample (v : Value) (w : World) (hV : OrderV w w.heap.size v three) : CallsV Tryz.prog 20 #[v] w fun v w' => v = .tuple #[.int .i64 11, .int .i64 0] ∧ Ext w w' :=
  (Ample_c v three w hV three_fits).mono fun _ _ ⟨h1, h3⟩ => by
    rw [check3, if_pos rfl, ample3] at h1; exact ⟨h1, h3⟩
theorem t3_isPath (v v1 : Value) (w : World) (hV : OrderV w w.heap.size v three) (hl : StintsV w w.heap.size v1 (pathZ three (2, 2))) : CallsV Tryz.prog 58 #[v, .agg #[.int .i64 2, .int .i64 2], v1] w fun v w' => v = .bool true ∧ Ext w w' := by
  obtain ⟨cv, rv, rfl, h⟩ := hV; refine (isPath_c cv rv three 2 2 v1 (pathZ three (2, 2)) w ⟨cv, rv, rfl, h⟩ three_good (by decide) (by decide) hl (by rw [pathl3]; decide)).mono fun v w' ⟨h1, h3⟩ => ?_; have : isPathV three (((2 : Nat) : Int), ((2 : Nat) : Int)) (pathZ three (2, 2)) = true := path3; rw [this] at h1; exact ⟨h1, h3⟩
theorem OrderV.two {w : World} {B : Nat} {v : Value} {o : Ord} (h : OrderV w B v o) : ∃ A1 n1 c1 A2 n2 c2, v = .agg #[.slice A1 n1 c1, .slice A2 n2 c2] ∧ OrderV w B (.agg #[.slice A1 n1 c1, .slice A2 n2 c2]) o := by
  obtain ⟨cv, rv, rfl, h1, h2⟩ := h; obtain ⟨A1, c1, rfl, -⟩ := id h1; obtain ⟨A2, c2, tv, rfl, -⟩ := id h2; exact ⟨A1, _, c1, A2, _, c2, rfl, _, _, rfl, h1, h2⟩
theorem same_T (v1 v2 : Value) (t : List (List Int)) (w : World) (h1 : TabV w w.heap.size v1 t) (h2 : TabV w w.heap.size v2 t) (hn : t.length ≤ 1000 ∧ ∀ x ∈ t, x.length ≤ 1000) : CallsV Tryz.prog 26 #[v1, v2] w fun v w' => v = .bool true ∧ Ext w w' :=
  (sameT_c v1 v2 t t w h1 h2 (by omega) (by omega) (fun x hx => by have := hn.2 x hx; omega) (fun x hx => by have := hn.2 x hx; omega)).mono fun _ _ ⟨h, h3⟩ => by
    rw [decide_eq_true rfl] at h; exact ⟨h, h3⟩
theorem same_I (v1 v2 : Value) (t : List Int) (w : World) (h1 : IntsV w w.heap.size v1 t) (h2 : IntsV w w.heap.size v2 t) (hn : t.length ≤ 1000) : CallsV Tryz.prog 27 #[v1, v2] w fun v w' => v = .bool true ∧ Ext w w' :=
  (sameI_c v1 v2 t t w h1 h2 (by omega) (by omega)).mono fun _ _ ⟨h, h3⟩ => by
    rw [decide_eq_true rfl] at h; exact ⟨h, h3⟩
theorem same_S (v1 v2 : Value) (t : List SZ) (w : World) (h1 : StintsV w w.heap.size v1 t) (h2 : StintsV w w.heap.size v2 t) (hn : t.length ≤ 1000) : CallsV Tryz.prog 28 #[v1, v2] w fun v w' => v = .bool true ∧ Ext w w' :=
  (sameS_c v1 v2 t t w h1 h2 (by omega) (by omega)).mono fun _ _ ⟨h, h3⟩ => by
    rw [decide_eq_true rfl] at h; exact ⟨h, h3⟩
theorem stints_of {w : World} {b : Nat} {xs : List SZ} {c : Nat} (hb : b < w.heap.size) (hc : xs.length ≤ c) (h : ∀ k (h : k < xs.length), w.cell? ⟨b, k * 2, none⟩ = some (.int .i64 xs[k].1) ∧ w.cell? ⟨b, k * 2 + 1, none⟩ = some (.int .i64 xs[k].2)) : StintsV w w.heap.size (.slice (some ⟨b, 0, none⟩) xs.length c) xs :=
  ⟨_, c, rfl, fun _ => ⟨b, 0, rfl, hb, fun k hk => by simpa using h k hk⟩, hc⟩
theorem tab_of {w : World} {b : Nat} {x y z : Value} {xs ys zs : List Int} (hb : b < w.heap.size) (h0 : w.cell? ⟨b, 0, none⟩ = some x) (h1 : w.cell? ⟨b, 1, none⟩ = some y) (h2 : w.cell? ⟨b, 2, none⟩ = some z) (hx : IntsV w w.heap.size x xs) (hy : IntsV w w.heap.size y ys) (hz : IntsV w w.heap.size z zs) :
    TabV w w.heap.size (.slice (some ⟨b, 0, none⟩) 3 3) [xs, ys, zs] := by
  refine ⟨_, 3, fun k => if k = 0 then x else if k = 1 then y else z, rfl, fun _ => ⟨b, 0, rfl, hb, fun k hk => ?_⟩, fun k hk => ?_, Nat.le_refl _⟩
  · match k, hk with
    | 0, _ => simpa using h0
    | 1, _ => simpa using h1
    | 2, _ => simpa using h2
  · match k, hk with
    | 0, _ => simpa using hx
    | 1, _ => simpa using hy
    | 2, _ => simpa using hz
end Go.Proofs.YtnfagcccgmakdaaGreat
namespace Go.Proofs.YtnfagcccgmakdaaGreat
open Go.RowKit Go.Wk Go.Proofs
attribute [local irreducible] Go.Wk.Wops Go.Wk.Wp Go.Wk.Mtree Go.Wk.Mops
set_option maxHeartbeats 4000000
set_option maxRecDepth 4000
theorem sanity_c (w : World) : CallsV Tryz.prog 11 #[] w fun v w' => v = .bool true ∧ Ext w w' := by
  refine Wp.fn Tryz.func11 rfl Tryz.ntmps11 (by simp) ?_; refine Wp.keep [] fun r1 hkeep => ?_; clear hkeep; refine Wp.seqRegion (.inl rfl) (by kernel_rfl) fun K' gd hK hg => ?_; clear hg; go_simp; refine hK _ _ ?_; clear hK K' gd; refine Wp.keep [] fun r2 hkeep => ?_; clear hkeep; refine Wp.seqRegion (.inl rfl) (by kernel_rfl) fun K' gd hK hg => ?_; clear hg; go_simp; refine Wcall (.inl rfl) (three_c _) ?_; rintro v w1 ⟨hV, hE1⟩; obtain ⟨A1, n1, c1, A2, n2, c2, rfl, hV⟩ := hV.two; go_simp; refine hK _ _ ?_; clear hK K' gd; refine Wp.keep [1] fun r3 hkeep => ?_; obtain ⟨e1_3, -⟩ := hkeep; simp [go_sem] at e1_3; obtain ⟨cv, hcv⟩ : ∃ x, Value.slice A1 n1 c1 = x := ⟨_, rfl⟩; obtain ⟨rv, hrv⟩ : ∃ x, Value.slice A2 n2 c2 = x := ⟨_, rfl⟩; rw [hcv, hrv] at hV; simp only [hcv, hrv]; clear hcv hrv; have x0 := cell_nn w1 #[cv, rv] 25 0 rfl (v := cv) rfl; have x1 := cell_nn w1 #[cv, rv] 25 1 rfl (v := rv) rfl; have hV := hV.ext ((Ext.refl w1).alloc (.cells #[cv, rv] 25)); have hE0 : Ext w (w1.alloc (.cells #[cv, rv] 25)) := XE
  generalize w1.alloc (.cells #[cv, rv] 25) = W at *
  refine Wp.seqRegion (.inl rfl) (by kernel_rfl) fun K' gd hK hg => ?_; clear hg; go_simp; refine Wcall (.inl rfl) (t3_times _ _ hV) ?_; rintro v w2 ⟨tT, rfl, hT, hE2⟩; have x0 := hE2.cell x0; have x1 := hE2.cell x1; have hV : OrderV w2 w2.heap.size (.agg #[cv, rv]) three := hV.ext XE; go_simp; refine hK _ _ ?_; clear hK K' gd; refine Wp.keep [1, 2, 3] fun r4 hkeep => ?_; obtain ⟨e1_4, e2_4, e3_4, -⟩ := hkeep; simp [go_sem, e1_3] at e1_4 e2_4 e3_4; clear e1_3; refine Wp.seqRegion (.inl rfl) (by kernel_rfl) fun K' gd hK hg => ?_; clear hg; go_simp; refine Wcall (.inl rfl) (t3_end _ _ hV) ?_; rintro v w3 ⟨rfl, hE3⟩; have x0 := hE3.cell x0; have x1 := hE3.cell x1; have hV : OrderV w3 w3.heap.size (.agg #[cv, rv]) three := hV.ext XE; go_simp; refine hK _ _ ?_; clear hK K' gd; refine Wp.keep [1, 2, 3, 4, 5] fun r5 hkeep => ?_; obtain ⟨e1_5, e2_5, e3_5, e4_5, e5_5, -⟩ := hkeep; simp [go_sem, e1_4, e2_4, e3_4] at e1_5 e2_5 e3_5 e4_5 e5_5; clear e1_4 e2_4 e3_4; refine Wp.seqDraw (.inl rfl) mixed [([0], some (1, false)), ([], some (2, false)), ([3, 4, 5, 6, 7], none)] (by kernel_rfl) fun K' gd hK hg => ?_; clear hg; simp only [pick, nth, List.map_cons, List.map_nil, Option.map_none, Option.map_some]; apply Mops.act
  · intro w' hE'; have hC' := hE'.cellsS; go_simp; with_reducible rfl
  intro K1 hK1; go_simp; refine Wcall (.inl rfl) (at_c 2 2 _) ?_; rintro v w4 ⟨rfl, hE4⟩; have x0 := hE4.cell x0; have x1 := hE4.cell x1; have hV : OrderV w4 w4.heap.size (.agg #[cv, rv]) three := hV.ext XE; go_simp; refine hK1 _ _ (XR) ?_; clear hK1 K1; apply Mops.act
  · exact fun _ _ => Rops_done
  intro K1 hK1; go_simp; refine Wcall (.inl rfl) (t3_path _ _ hV) ?_; rintro v w5 ⟨tP, rfl, hP, hE5⟩; have x0 := hE5.cell x0; have x1 := hE5.cell x1; have hV : OrderV w5 w5.heap.size (.agg #[cv, rv]) three := hV.ext XE; go_simp; refine hK1 _ _ (XR) ?_; clear hK1 K1; apply Mops.none
  · intro w' hE'; have hC' := hE'.cellsS; go_simp; with_reducible rfl
  refine Mops.done ?_; refine hK _ _ ?_; clear hK K' gd; refine Wp.keep [1, 2, 3, 4, 5, 6, 7] fun r6 hkeep => ?_; obtain ⟨e1_6, e2_6, e3_6, e4_6, e5_6, e6_6, e7_6, -⟩ := hkeep; simp [go_sem, e1_5, e2_5, e3_5, e4_5, e5_5] at e1_6 e2_6 e3_6 e4_6 e5_6 e6_6 e7_6; clear e1_5 e2_5 e3_5 e4_5 e5_5; refine Wp.seqRegion (.inl rfl) (by kernel_rfl) fun K' gd hK hg => ?_; clear hg; go_simp; refine Wcall (.inl rfl) (t3_waits _ _ hV) ?_; rintro v w6 ⟨tW, rfl, hW, hE6⟩; have x0 := hE6.cell x0; have x1 := hE6.cell x1; have hV : OrderV w6 w6.heap.size (.agg #[cv, rv]) three := hV.ext XE; go_simp; refine hK _ _ ?_; clear hK K' gd; refine Wp.keep [1, 2, 3, 4, 5, 6, 7, 8, 9] fun r7 hkeep => ?_; obtain ⟨e1_7, e2_7, e3_7, e4_7, e5_7, e6_7, e7_7, e8_7, e9_7, -⟩ := hkeep; simp [go_sem, e1_6, e2_6, e3_6, e4_6, e5_6, e6_6, e7_6] at e1_7 e2_7 e3_7 e4_7 e5_7 e6_7 e7_7 e8_7 e9_7; clear e1_6 e2_6 e3_6 e4_6 e5_6 e6_6 e7_6; refine Wp.seqRegion (.inl rfl) (by kernel_rfl) fun K' gd hK hg => ?_; clear hg; go_simp; refine Wcall (.inl rfl) (t3_idle _ _ hV) ?_; rintro v w7 ⟨tD, rfl, hD, hE7⟩; have x0 := hE7.cell x0; have x1 := hE7.cell x1; have hV : OrderV w7 w7.heap.size (.agg #[cv, rv]) three := hV.ext XE; go_simp; refine hK _ _ ?_; clear hK K' gd; refine Wp.keep [1, 2, 3, 4, 5, 6, 7, 8, 9, 10, 11] fun r8 hkeep => ?_; obtain ⟨e1_8, e2_8, e3_8, e4_8, e5_8, e6_8, e7_8, e8_8, e9_8, e10_8, e11_8, -⟩ := hkeep; simp [go_sem, e1_7, e2_7, e3_7, e4_7, e5_7, e6_7, e7_7, e8_7, e9_7] at e1_8 e2_8 e3_8 e4_8 e5_8 e6_8 e7_8 e8_8 e9_8 e10_8 e11_8
  clear e1_7 e2_7 e3_7 e4_7 e5_7 e6_7 e7_7 e8_7 e9_7; refine Wp.seqRegion (.inl rfl) (by kernel_rfl) fun K' gd hK hg => ?_; clear hg; go_simp; refine Wcall (.inl rfl) (t3_latest _ _ hV) ?_; rintro v w8 ⟨tL, rfl, hL, hE8⟩; have x0 := hE8.cell x0; have x1 := hE8.cell x1; have hV : OrderV w8 w8.heap.size (.agg #[cv, rv]) three := hV.ext XE; go_simp; refine hK _ _ ?_; clear hK K' gd; refine Wp.keep [1, 2, 3, 4, 5, 6, 7, 8, 9, 10, 11, 12, 13] fun r9 hkeep => ?_; obtain ⟨e1_9, e2_9, e3_9, e4_9, e5_9, e6_9, e7_9, e8_9, e9_9, e10_9, e11_9, e12_9, e13_9, -⟩ := hkeep; simp [go_sem, e1_8, e2_8, e3_8, e4_8, e5_8, e6_8, e7_8, e8_8, e9_8, e10_8, e11_8] at e1_9 e2_9 e3_9 e4_9 e5_9 e6_9 e7_9 e8_9 e9_9 e10_9 e11_9 e12_9 e13_9; clear e1_8 e2_8 e3_8 e4_8 e5_8 e6_8 e7_8 e8_8 e9_8 e10_8 e11_8; refine Wp.seqRegion (.inl rfl) (by kernel_rfl) fun K' gd hK hg => ?_; clear hg; go_simp; refine Wcall (.inl rfl) (t3_crit _ _ hV) ?_; rintro v w9 ⟨tC, rfl, hC, hE9⟩; have x0 := hE9.cell x0; have x1 := hE9.cell x1; have hV : OrderV w9 w9.heap.size (.agg #[cv, rv]) three := hV.ext XE; go_simp; refine hK _ _ ?_; clear hK K' gd; refine Wp.keep [1, 2, 3, 4, 5, 6, 7, 8, 9, 10, 11, 12, 13, 14, 15] fun r10 hkeep => ?_; obtain ⟨e1_10, e2_10, e3_10, e4_10, e5_10, e6_10, e7_10, e8_10, e9_10, e10_10, e11_10, e12_10, e13_10, e14_10, e15_10, -⟩ := hkeep; simp [go_sem, e1_9, e2_9, e3_9, e4_9, e5_9, e6_9, e7_9, e8_9, e9_9, e10_9, e11_9, e12_9, e13_9] at e1_10 e2_10 e3_10 e4_10 e5_10 e6_10 e7_10 e8_10 e9_10 e10_10 e11_10 e12_10 e13_10 e14_10 e15_10
  clear e1_9 e2_9 e3_9 e4_9 e5_9 e6_9 e7_9 e8_9 e9_9 e10_9 e11_9 e12_9 e13_9; refine Wp.seqRegion (.inl rfl) (by kernel_rfl) fun K' gd hK hg => ?_; clear hg; go_simp; refine Wcall (.inl rfl) (t3_save _ _ hV) ?_; rintro v w10 ⟨rfl, hE10⟩; have x0 := hE10.cell x0; have x1 := hE10.cell x1; have hV : OrderV w10 w10.heap.size (.agg #[cv, rv]) three := hV.ext XE; go_simp; refine hK _ _ ?_; clear hK K' gd; refine Wp.keep [1, 2, 3, 4, 5, 6, 7, 8, 9, 10, 11, 12, 13, 14, 15, 16, 17] fun r11 hkeep => ?_; obtain ⟨e1_11, e2_11, e3_11, e4_11, e5_11, e6_11, e7_11, e8_11, e9_11, e10_11, e11_11, e12_11, e13_11, e14_11, e15_11, e16_11, e17_11, -⟩ := hkeep; simp [go_sem, e1_10, e2_10, e3_10, e4_10, e5_10, e6_10, e7_10, e8_10, e9_10, e10_10, e11_10, e12_10, e13_10, e14_10, e15_10] at e1_11 e2_11 e3_11 e4_11 e5_11 e6_11 e7_11 e8_11 e9_11 e10_11 e11_11 e12_11 e13_11 e14_11 e15_11 e16_11 e17_11; clear e1_10 e2_10 e3_10 e4_10 e5_10 e6_10 e7_10 e8_10 e9_10 e10_10 e11_10 e12_10 e13_10 e14_10 e15_10; refine Wp.seqRegion (.inl rfl) (by kernel_rfl) fun K' gd hK hg => ?_; clear hg; go_simp; refine Wcall (.inl rfl) (t3_need _ _ hV) ?_; rintro v w11 ⟨rfl, hE11⟩; have x0 := hE11.cell x0; have x1 := hE11.cell x1; have hV : OrderV w11 w11.heap.size (.agg #[cv, rv]) three := hV.ext XE; go_simp; refine hK _ _ ?_; clear hK K' gd; refine Wp.keep [1, 2, 3, 4, 5, 6, 7, 8, 9, 10, 11, 12, 13, 14, 15, 16, 17, 18, 19] fun r12 hkeep => ?_; obtain ⟨e1_12, e2_12, e3_12, e4_12, e5_12, e6_12, e7_12, e8_12, e9_12, e10_12, e11_12, e12_12, e13_12, e14_12, e15_12, e16_12, e17_12, e18_12, e19_12, -⟩ := hkeep
  simp [go_sem, e1_11, e2_11, e3_11, e4_11, e5_11, e6_11, e7_11, e8_11, e9_11, e10_11, e11_11, e12_11, e13_11, e14_11, e15_11, e16_11, e17_11] at e1_12 e2_12 e3_12 e4_12 e5_12 e6_12 e7_12 e8_12 e9_12 e10_12 e11_12 e12_12 e13_12 e14_12 e15_12 e16_12 e17_12 e18_12 e19_12; clear e1_11 e2_11 e3_11 e4_11 e5_11 e6_11 e7_11 e8_11 e9_11 e10_11 e11_11 e12_11 e13_11 e14_11 e15_11 e16_11 e17_11; refine Wp.seqDraw (.inl rfl) mixed [([0], some (1, false)), ([], some (2, false)), ([3, 4, 5, 6, 7], none)] (by kernel_rfl) fun K' gd hK hg => ?_; clear hg; simp only [pick, nth, List.map_cons, List.map_nil, Option.map_none, Option.map_some]; apply Mops.act
  · intro w' hE'; have hC' := hE'.cellsS; go_simp; with_reducible rfl
  intro K1 hK1; go_simp; refine Wcall (.inl rfl) (at_c 0 1 _) ?_; rintro v w12 ⟨rfl, hE12⟩; have x0 := hE12.cell x0; have x1 := hE12.cell x1; have hV : OrderV w12 w12.heap.size (.agg #[cv, rv]) three := hV.ext XE; go_simp; refine hK1 _ _ (XR) ?_; clear hK1 K1; apply Mops.act
  · exact fun _ _ => Rops_done
  intro K1 hK1; go_simp; refine Wcall (.inl rfl) (t3_reach _ _ hV) ?_; rintro v w13 ⟨tR, rfl, hR, hE13⟩; have x0 := hE13.cell x0; have x1 := hE13.cell x1; have hV : OrderV w13 w13.heap.size (.agg #[cv, rv]) three := hV.ext XE; go_simp; refine hK1 _ _ (XR) ?_; clear hK1 K1; apply Mops.none
  · intro w' hE'; have hC' := hE'.cellsS; go_simp; with_reducible rfl
  refine Mops.done ?_; refine hK _ _ ?_; clear hK K' gd; refine Wp.keep [1, 2, 3, 4, 5, 6, 7, 8, 9, 10, 11, 12, 13, 14, 15, 16, 17, 18, 19, 20, 21] fun r13 hkeep => ?_; obtain ⟨e1_13, e2_13, e3_13, e4_13, e5_13, e6_13, e7_13, e8_13, e9_13, e10_13, e11_13, e12_13, e13_13, e14_13, e15_13, e16_13, e17_13, e18_13, e19_13, e20_13, e21_13, -⟩ := hkeep; simp [go_sem, e1_12, e2_12, e3_12, e4_12, e5_12, e6_12, e7_12, e8_12, e9_12, e10_12, e11_12, e12_12, e13_12, e14_12, e15_12, e16_12, e17_12, e18_12, e19_12] at e1_13 e2_13 e3_13 e4_13 e5_13 e6_13 e7_13 e8_13 e9_13 e10_13 e11_13 e12_13 e13_13 e14_13 e15_13 e16_13 e17_13 e18_13 e19_13 e20_13 e21_13; clear e1_12 e2_12 e3_12 e4_12 e5_12 e6_12 e7_12 e8_12 e9_12 e10_12 e11_12 e12_12 e13_12 e14_12 e15_12 e16_12 e17_12 e18_12 e19_12; refine Wp.seq ?_; refine Wp.seqRegion (.inl rfl) (by kernel_rfl) fun K' gd hK hg => ?_; have g2 : gd 2 = some 92 := hg 2; have g6 : gd 6 = some 96 := hg 6; have g10 : gd 10 = some 100 := hg 10; have g14 : gd 14 = some 104 := hg 14; have g18 : gd 18 = some 108 := hg 18; have g22 : gd 22 = some 112 := hg 22; have g26 : gd 26 = some 116 := hg 26; have g30 : gd 30 = some 120 := hg 30; have g34 : gd 34 = some 124 := hg 34; clear hg; go_simp; refine hK _ _ ?_; clear hK K' gd g2 g6 g10 g14 g18 g22 g26 g30 g34; refine Wp.keep [1, 2, 4, 6, 8, 10, 12, 14, 16, 18, 20, 127] fun r14 hkeep => ?_; obtain ⟨e1_14, e2_14, e4_14, e6_14, e8_14, e10_14, e12_14, e14_14, e16_14, e18_14, e20_14, e127_14, -⟩ := hkeep; simp [go_sem, e1_13, e2_13, e3_13, e4_13, e5_13, e6_13, e7_13, e8_13, e9_13, e10_13, e11_13, e12_13, e13_13, e14_13, e15_13, e16_13, e17_13, e18_13, e19_13, e20_13, e21_13] at e1_14 e2_14 e4_14 e6_14 e8_14 e10_14 e12_14 e14_14 e16_14 e18_14 e20_14 e127_14
  clear e1_13 e2_13 e3_13 e4_13 e5_13 e6_13 e7_13 e8_13 e9_13 e10_13 e11_13 e12_13 e13_13 e14_13 e15_13 e16_13 e17_13 e18_13 e19_13 e20_13 e21_13; refine Wp.condF (by go_simp) ?_; refine Wp.skip ?_; refine thenK_normal ?_; refine Wp.seqDrawT (.inl rfl) mixed (.rd [0] (PL.graft (.both (.act 1 false (.both (.act 2 false (.act 3 false .done)) (.act 3 false (.act 2 false .done)))) (.both (.act 2 false (.both (.act 1 false (.act 3 false .done)) (.act 3 false (.act 1 false .done)))) (.act 3 false (.both (.act 1 false (.act 2 false .done)) (.act 2 false (.act 1 false .done)))))) (.act 4 false (.act 5 false (.rd [6] (.rd [7, 8, 9, 10] (.rd [11, 13] (.act 12 false (.act 14 false (.rd [15, 16] (.rd [17] (.act 18 false (.act 19 false (.rd [20, 21] (.rd [22] (.act 23 false (.act 24 false (.rd [25, 26] (.rd [27] (PL.graft (.both (.act 28 false (.both (.act 29 false (.act 30 false .done)) (.act 30 false (.act 29 false .done)))) (.both (.act 29 false (.both (.act 28 false (.act 30 false .done)) (.act 30 false (.act 28 false .done)))) (.act 30 false (.both (.act 28 false (.act 29 false .done)) (.act 29 false (.act 28 false .done)))))) (.act 31 false (.act 32 false (.rd [33, 34] .done))))))))))))))))))))))) (by kernel_rfl) (fun ρ W => AllEq [1, 14, 16, 18, 20] ρ r14 ∧ (ρ 22 = .bool true ∧ Ext w13 W)) (fun K' gd hK hg => ?_) ?_
  · skip; have g6 : gd 6 = some 134 := hg 6; have g10 : gd 10 = some 138 := hg 10; have g16 : gd 16 = some 144 := hg 16; have g21 : gd 21 = some 149 := hg 21; have g26 : gd 26 = some 154 := hg 26; clear hg; simp only [pickT, nth, List.map_cons, List.map_nil]; apply Mtree.reads
    · intro w' hE'; have hC' := hE'.cellsS; go_simp; with_reducible rfl
    refine Mtree.merge (fun ρ W => AllEq [1, 4, 6, 8, 10, 12, 14, 16, 18, 20] ρ r14 ∧ (∃ b1 b2 b3, ρ 128 = tT ∧ ρ 129 = .slice (some ⟨b1, 0, none⟩) 3 3 ∧ ρ 130 = .slice (some ⟨b2, 0, none⟩) 3 3 ∧ ρ 131 = .slice (some ⟨b3, 0, none⟩) 3 3 ∧ IntsV W W.heap.size (.slice (some ⟨b1, 0, none⟩) 3 3) [0, 3, 7] ∧ IntsV W W.heap.size (.slice (some ⟨b2, 0, none⟩) 3 3) [3, 5, 10] ∧ IntsV W W.heap.size (.slice (some ⟨b3, 0, none⟩) 3 3) [5, 9, 13] ∧ Ext w13 W)) (fun M1 hM1 => ?_) ?_
    · skip; simp only [pickT, nth, List.map_cons, List.map_nil]; refine Mtree.two ?_ ?_
      · skip; refine Mtree.step fun K1 hK1 => ?_; go_simp; refine hK1 _ _ XA ?_; clear hK1 K1; refine Mtree.two ?_ ?_
        · skip; refine Mtree.step fun K1 hK1 => ?_; go_simp; refine hK1 _ _ XA ?_; clear hK1 K1; refine Mtree.step fun K1 hK1 => ?_; go_simp; refine hK1 _ _ XA ?_; clear hK1 K1; refine Mtree.fin ?_; refine hM1 _ _ ⟨by simp [AllEq, go_sem], ?_⟩; exact ⟨_, _, _, rfl, rfl, rfl, rfl, ints3 (by simp <;> omega) (by go_simp) (by go_simp) (by go_simp), ints3 (by simp <;> omega) (by go_simp) (by go_simp) (by go_simp), ints3 (by simp <;> omega) (by go_simp) (by go_simp) (by go_simp), XE⟩
        · skip; refine Mtree.step fun K1 hK1 => ?_; go_simp; refine hK1 _ _ XA ?_; clear hK1 K1; refine Mtree.step fun K1 hK1 => ?_; go_simp; refine hK1 _ _ XA ?_; clear hK1 K1; refine Mtree.fin ?_; refine hM1 _ _ ⟨by simp [AllEq, go_sem], ?_⟩; exact ⟨_, _, _, rfl, rfl, rfl, rfl, ints3 (by simp <;> omega) (by go_simp) (by go_simp) (by go_simp), ints3 (by simp <;> omega) (by go_simp) (by go_simp) (by go_simp), ints3 (by simp <;> omega) (by go_simp) (by go_simp) (by go_simp), XE⟩
      · skip; refine Mtree.two ?_ ?_
        · skip; refine Mtree.step fun K1 hK1 => ?_; go_simp; refine hK1 _ _ XA ?_; clear hK1 K1; refine Mtree.two ?_ ?_
          · skip; refine Mtree.step fun K1 hK1 => ?_; go_simp; refine hK1 _ _ XA ?_; clear hK1 K1; refine Mtree.step fun K1 hK1 => ?_; go_simp; refine hK1 _ _ XA ?_; clear hK1 K1; refine Mtree.fin ?_; refine hM1 _ _ ⟨by simp [AllEq, go_sem], ?_⟩; exact ⟨_, _, _, rfl, rfl, rfl, rfl, ints3 (by simp <;> omega) (by go_simp) (by go_simp) (by go_simp), ints3 (by simp <;> omega) (by go_simp) (by go_simp) (by go_simp), ints3 (by simp <;> omega) (by go_simp) (by go_simp) (by go_simp), XE⟩
          · skip; refine Mtree.step fun K1 hK1 => ?_; go_simp; refine hK1 _ _ XA ?_; clear hK1 K1; refine Mtree.step fun K1 hK1 => ?_; go_simp; refine hK1 _ _ XA ?_; clear hK1 K1; refine Mtree.fin ?_; refine hM1 _ _ ⟨by simp [AllEq, go_sem], ?_⟩; exact ⟨_, _, _, rfl, rfl, rfl, rfl, ints3 (by simp <;> omega) (by go_simp) (by go_simp) (by go_simp), ints3 (by simp <;> omega) (by go_simp) (by go_simp) (by go_simp), ints3 (by simp <;> omega) (by go_simp) (by go_simp) (by go_simp), XE⟩
        · skip; refine Mtree.step fun K1 hK1 => ?_; go_simp; refine hK1 _ _ XA ?_; clear hK1 K1; refine Mtree.two ?_ ?_
          · skip; refine Mtree.step fun K1 hK1 => ?_; go_simp; refine hK1 _ _ XA ?_; clear hK1 K1; refine Mtree.step fun K1 hK1 => ?_; go_simp; refine hK1 _ _ XA ?_; clear hK1 K1; refine Mtree.fin ?_; refine hM1 _ _ ⟨by simp [AllEq, go_sem], ?_⟩; exact ⟨_, _, _, rfl, rfl, rfl, rfl, ints3 (by simp <;> omega) (by go_simp) (by go_simp) (by go_simp), ints3 (by simp <;> omega) (by go_simp) (by go_simp) (by go_simp), ints3 (by simp <;> omega) (by go_simp) (by go_simp) (by go_simp), XE⟩
          · skip; refine Mtree.step fun K1 hK1 => ?_; go_simp; refine hK1 _ _ XA ?_; clear hK1 K1; refine Mtree.step fun K1 hK1 => ?_; go_simp; refine hK1 _ _ XA ?_; clear hK1 K1; refine Mtree.fin ?_; refine hM1 _ _ ⟨by simp [AllEq, go_sem], ?_⟩; exact ⟨_, _, _, rfl, rfl, rfl, rfl, ints3 (by simp <;> omega) (by go_simp) (by go_simp) (by go_simp), ints3 (by simp <;> omega) (by go_simp) (by go_simp) (by go_simp), ints3 (by simp <;> omega) (by go_simp) (by go_simp) (by go_simp), XE⟩
    · rintro r15 Wr15 ⟨hAr15, b1, b2, b3, q128, q129, q130, q131, i1, i2, i3, hE21⟩; obtain ⟨m1_r15, m4_r15, m6_r15, m8_r15, m10_r15, m12_r15, m14_r15, m16_r15, m18_r15, m20_r15, -⟩ := hAr15; simp only [pickT, nth, List.map_cons, List.map_nil]; have x0 := hE21.cell x0; have x1 := hE21.cell x1; have hV := hV.ext hE21; refine Mtree.step fun K1 hK1 => ?_; go_simp; refine hK1 _ _ XA ?_; clear hK1 K1; refine Mtree.step fun K1 hK1 => ?_; go_simp; refine Wcall (.inl rfl) (same_T _ _ [[0, 3, 7], [3, 5, 10], [5, 9, 13]] _ (hT.ext XE) (tab_of (by simp) (by go_simp) (by go_simp) (by go_simp) (i1.ext XE) (i2.ext XE) (i3.ext XE)) (by decide)) ?_; rintro v w22 ⟨rfl, hE22⟩; have x0 := cell_al (.cells #[.slice (some ⟨b1, 0, none⟩) 3 3, .slice (some ⟨b2, 0, none⟩) 3 3, .slice (some ⟨b3, 0, none⟩) 3 3] 22) x0; have x1 := cell_al (.cells #[.slice (some ⟨b1, 0, none⟩) 3 3, .slice (some ⟨b2, 0, none⟩) 3 3, .slice (some ⟨b3, 0, none⟩) 3 3] 22) x1; have hV := hV.ext ((Ext.refl _).alloc (.cells #[.slice (some ⟨b1, 0, none⟩) 3 3, .slice (some ⟨b2, 0, none⟩) 3 3, .slice (some ⟨b3, 0, none⟩) 3 3] 22)); have x0 := hE22.cell x0; have x1 := hE22.cell x1; have hV : OrderV w22 w22.heap.size (.agg #[cv, rv]) three := hV.ext XE; go_simp; refine hK1 _ _ XR ?_; clear hK1 K1; apply Mtree.reads
      · intro w' hE'; have hC' := hE'.cellsS; go_simp; with_reducible rfl
      apply Mtree.reads
      · intro w' hE'; have hC' := hE'.cellsS; go_simp; with_reducible rfl
      apply Mtree.reads
      · intro w' hE'; have hC' := hE'.cellsS; go_simp; with_reducible rfl
      refine Mtree.step fun K1 hK1 => ?_; go_simp; refine Wcall (.inl rfl) (at_c 2 2 _) ?_; rintro v w23 ⟨rfl, hE23⟩; have x0 := hE23.cell x0; have x1 := hE23.cell x1; have hV : OrderV w23 w23.heap.size (.agg #[cv, rv]) three := hV.ext XE; go_simp; refine hK1 _ _ XR ?_; clear hK1 K1; refine Mtree.step fun K1 hK1 => ?_; go_simp; refine Wcall (.inl rfl) (t3_isPath _ _ _ hV (hP.ext XE)) ?_; rintro v w24 ⟨rfl, hE24⟩; have x0 := hE24.cell x0; have x1 := hE24.cell x1; have hV : OrderV w24 w24.heap.size (.agg #[cv, rv]) three := hV.ext XE; go_simp; refine hK1 _ _ XR ?_; clear hK1 K1; apply Mtree.reads
      · intro w' hE'; have hC' := hE'.cellsS; go_simp; with_reducible rfl
      apply Mtree.reads
      · intro w' hE'; have hC' := hE'.cellsS; go_simp; with_reducible rfl
      refine Mtree.step fun K1 hK1 => ?_; go_simp; refine hK1 _ _ XA ?_; clear hK1 K1; refine Mtree.step fun K1 hK1 => ?_; go_simp; refine Wcall (.inl rfl) (same_I _ _ [0, 2, 4] _ (hW.ext XE) (ints3 (by simp) (by go_simp) (by go_simp) (by go_simp)) (by decide)) ?_; rintro v w25 ⟨rfl, hE25⟩; have x0 := cell_al (.cells #[.int .i64 0, .int .i64 2, .int .i64 4] 3) x0; have x1 := cell_al (.cells #[.int .i64 0, .int .i64 2, .int .i64 4] 3) x1; have hV := hV.ext ((Ext.refl _).alloc (.cells #[.int .i64 0, .int .i64 2, .int .i64 4] 3)); have x0 := hE25.cell x0; have x1 := hE25.cell x1; have hV : OrderV w25 w25.heap.size (.agg #[cv, rv]) three := hV.ext XE; go_simp; refine hK1 _ _ XR ?_; clear hK1 K1; apply Mtree.reads
      · intro w' hE'; have hC' := hE'.cellsS; go_simp; with_reducible rfl
      apply Mtree.reads
      · intro w' hE'; have hC' := hE'.cellsS; go_simp; with_reducible rfl
      refine Mtree.step fun K1 hK1 => ?_; go_simp; refine hK1 _ _ XA ?_; clear hK1 K1; refine Mtree.step fun K1 hK1 => ?_; go_simp; refine Wcall (.inl rfl) (same_I _ _ [0, 2, 1] _ (hD.ext XE) (ints3 (by simp) (by go_simp) (by go_simp) (by go_simp)) (by decide)) ?_; rintro v w26 ⟨rfl, hE26⟩; have x0 := cell_al (.cells #[.int .i64 0, .int .i64 2, .int .i64 1] 3) x0; have x1 := cell_al (.cells #[.int .i64 0, .int .i64 2, .int .i64 1] 3) x1; have hV := hV.ext ((Ext.refl _).alloc (.cells #[.int .i64 0, .int .i64 2, .int .i64 1] 3)); have x0 := hE26.cell x0; have x1 := hE26.cell x1; have hV : OrderV w26 w26.heap.size (.agg #[cv, rv]) three := hV.ext XE; go_simp; refine hK1 _ _ XR ?_; clear hK1 K1; apply Mtree.reads
      · intro w' hE'; have hC' := hE'.cellsS; go_simp; with_reducible rfl
      apply Mtree.reads
      · intro w' hE'; have hC' := hE'.cellsS; go_simp; with_reducible rfl
      refine Mtree.merge (fun ρ W => AllEq [1, 14, 16, 18, 20] ρ r14 ∧ (∃ b1 b2 b3, ρ 154 = .bool true ∧ ρ 155 = tL ∧ ρ 156 = .slice (some ⟨b1, 0, none⟩) 3 3 ∧ ρ 157 = .slice (some ⟨b2, 0, none⟩) 3 3 ∧ ρ 158 = .slice (some ⟨b3, 0, none⟩) 3 3 ∧ IntsV W W.heap.size (.slice (some ⟨b1, 0, none⟩) 3 3) [0, 4, 8] ∧ IntsV W W.heap.size (.slice (some ⟨b2, 0, none⟩) 3 3) [3, 5, 10] ∧ IntsV W W.heap.size (.slice (some ⟨b3, 0, none⟩) 3 3) [6, 10, 13] ∧ Ext w26 W)) (fun M1 hM1 => ?_) ?_
      · skip; simp only [pickT, nth, List.map_cons, List.map_nil]; refine Mtree.two ?_ ?_
        · skip; refine Mtree.step fun K1 hK1 => ?_; go_simp; refine hK1 _ _ XA ?_; clear hK1 K1; refine Mtree.two ?_ ?_
          · skip; refine Mtree.step fun K1 hK1 => ?_; go_simp; refine hK1 _ _ XA ?_; clear hK1 K1; refine Mtree.step fun K1 hK1 => ?_; go_simp; refine hK1 _ _ XA ?_; clear hK1 K1; refine Mtree.fin ?_; refine hM1 _ _ ⟨by simp [AllEq, go_sem, m1_r15, m4_r15, m6_r15, m8_r15, m10_r15, m12_r15, m14_r15, m16_r15, m18_r15, m20_r15], ?_⟩; exact ⟨_, _, _, rfl, rfl, rfl, rfl, rfl, ints3 (by simp <;> omega) (by go_simp) (by go_simp) (by go_simp), ints3 (by simp <;> omega) (by go_simp) (by go_simp) (by go_simp), ints3 (by simp <;> omega) (by go_simp) (by go_simp) (by go_simp), XE⟩
          · skip; refine Mtree.step fun K1 hK1 => ?_; go_simp; refine hK1 _ _ XA ?_; clear hK1 K1; refine Mtree.step fun K1 hK1 => ?_; go_simp; refine hK1 _ _ XA ?_; clear hK1 K1; refine Mtree.fin ?_; refine hM1 _ _ ⟨by simp [AllEq, go_sem, m1_r15, m4_r15, m6_r15, m8_r15, m10_r15, m12_r15, m14_r15, m16_r15, m18_r15, m20_r15], ?_⟩; exact ⟨_, _, _, rfl, rfl, rfl, rfl, rfl, ints3 (by simp <;> omega) (by go_simp) (by go_simp) (by go_simp), ints3 (by simp <;> omega) (by go_simp) (by go_simp) (by go_simp), ints3 (by simp <;> omega) (by go_simp) (by go_simp) (by go_simp), XE⟩
        · skip; refine Mtree.two ?_ ?_
          · skip; refine Mtree.step fun K1 hK1 => ?_; go_simp; refine hK1 _ _ XA ?_; clear hK1 K1; refine Mtree.two ?_ ?_
            · skip; refine Mtree.step fun K1 hK1 => ?_; go_simp; refine hK1 _ _ XA ?_; clear hK1 K1; refine Mtree.step fun K1 hK1 => ?_; go_simp; refine hK1 _ _ XA ?_; clear hK1 K1; refine Mtree.fin ?_; refine hM1 _ _ ⟨by simp [AllEq, go_sem, m1_r15, m4_r15, m6_r15, m8_r15, m10_r15, m12_r15, m14_r15, m16_r15, m18_r15, m20_r15], ?_⟩; exact ⟨_, _, _, rfl, rfl, rfl, rfl, rfl, ints3 (by simp <;> omega) (by go_simp) (by go_simp) (by go_simp), ints3 (by simp <;> omega) (by go_simp) (by go_simp) (by go_simp), ints3 (by simp <;> omega) (by go_simp) (by go_simp) (by go_simp), XE⟩
            · skip; refine Mtree.step fun K1 hK1 => ?_; go_simp; refine hK1 _ _ XA ?_; clear hK1 K1; refine Mtree.step fun K1 hK1 => ?_; go_simp; refine hK1 _ _ XA ?_; clear hK1 K1; refine Mtree.fin ?_; refine hM1 _ _ ⟨by simp [AllEq, go_sem, m1_r15, m4_r15, m6_r15, m8_r15, m10_r15, m12_r15, m14_r15, m16_r15, m18_r15, m20_r15], ?_⟩; exact ⟨_, _, _, rfl, rfl, rfl, rfl, rfl, ints3 (by simp <;> omega) (by go_simp) (by go_simp) (by go_simp), ints3 (by simp <;> omega) (by go_simp) (by go_simp) (by go_simp), ints3 (by simp <;> omega) (by go_simp) (by go_simp) (by go_simp), XE⟩
          · skip; refine Mtree.step fun K1 hK1 => ?_; go_simp; refine hK1 _ _ XA ?_; clear hK1 K1; refine Mtree.two ?_ ?_
            · skip; refine Mtree.step fun K1 hK1 => ?_; go_simp; refine hK1 _ _ XA ?_; clear hK1 K1; refine Mtree.step fun K1 hK1 => ?_; go_simp; refine hK1 _ _ XA ?_; clear hK1 K1; refine Mtree.fin ?_; refine hM1 _ _ ⟨by simp [AllEq, go_sem, m1_r15, m4_r15, m6_r15, m8_r15, m10_r15, m12_r15, m14_r15, m16_r15, m18_r15, m20_r15], ?_⟩; exact ⟨_, _, _, rfl, rfl, rfl, rfl, rfl, ints3 (by simp <;> omega) (by go_simp) (by go_simp) (by go_simp), ints3 (by simp <;> omega) (by go_simp) (by go_simp) (by go_simp), ints3 (by simp <;> omega) (by go_simp) (by go_simp) (by go_simp), XE⟩
            · skip; refine Mtree.step fun K1 hK1 => ?_; go_simp; refine hK1 _ _ XA ?_; clear hK1 K1; refine Mtree.step fun K1 hK1 => ?_; go_simp; refine hK1 _ _ XA ?_; clear hK1 K1; refine Mtree.fin ?_; refine hM1 _ _ ⟨by simp [AllEq, go_sem, m1_r15, m4_r15, m6_r15, m8_r15, m10_r15, m12_r15, m14_r15, m16_r15, m18_r15, m20_r15], ?_⟩; exact ⟨_, _, _, rfl, rfl, rfl, rfl, rfl, ints3 (by simp <;> omega) (by go_simp) (by go_simp) (by go_simp), ints3 (by simp <;> omega) (by go_simp) (by go_simp) (by go_simp), ints3 (by simp <;> omega) (by go_simp) (by go_simp) (by go_simp), XE⟩
      · rintro r16 Wr16 ⟨hAr16, b4, b5, b6, q154, q155, q156, q157, q158, i4, i5, i6, hE27⟩; obtain ⟨m1_r16, m14_r16, m16_r16, m18_r16, m20_r16, -⟩ := hAr16; simp only [pickT, nth, List.map_cons, List.map_nil]; refine Mtree.step fun K1 hK1 => ?_; go_simp; refine hK1 _ _ XA ?_; clear hK1 K1; refine Mtree.step fun K1 hK1 => ?_; go_simp; refine Wcall (.inl rfl) (same_T _ _ [[0, 4, 8], [3, 5, 10], [6, 10, 13]] _ (hL.ext XE) (tab_of (by simp) (by go_simp) (by go_simp) (by go_simp) (i4.ext XE) (i5.ext XE) (i6.ext XE)) (by decide)) ?_; rintro v w28 ⟨rfl, hE28⟩; go_simp; refine hK1 _ _ XR ?_; clear hK1 K1; apply Mtree.reads
        · intro w' hE'; have hC' := hE'.cellsS; go_simp; with_reducible rfl
        refine Mtree.fin ?_; refine hK _ _ ⟨by simp [AllEq, go_sem, m1_r16, m14_r16, m16_r16, m18_r16, m20_r16], ?_⟩; exact ⟨by simp [go_sem], XE⟩
  · rintro r17 W ⟨hA, e22, hE20⟩; obtain ⟨e1_17, e14_17, e16_17, e18_17, e20_17, -⟩ := hA; rw [e1_14] at e1_17; rw [e14_14] at e14_17; rw [e16_14] at e16_17; rw [e18_14] at e18_17; rw [e20_14] at e20_17; clear e1_14 e2_14 e4_14 e6_14 e8_14 e10_14 e12_14 e14_14 e16_14 e18_14 e20_14 e127_14; have x0 := hE20.cell x0; have x1 := hE20.cell x1; have hV := hV.ext hE20; refine Wp.seqRegion (.inl rfl) (by kernel_rfl) fun K' gd hK hg => ?_; have g8 : gd 8 = some 170 := hg 8; have g12 : gd 12 = some 174 := hg 12; have g16 : gd 16 = some 178 := hg 16; clear hg; go_simp; refine Wcall (.inl rfl) (at_c 0 0 _) ?_; rintro v w31 ⟨rfl, hE31⟩; have x0 := hE31.cell x0; have x1 := hE31.cell x1; have hV : OrderV w31 w31.heap.size (.agg #[cv, rv]) three := hV.ext XE; go_simp; refine Wcall (.inl rfl) (at_c 1 0 _) ?_; rintro v w32 ⟨rfl, hE32⟩; have x0 := hE32.cell x0; have x1 := hE32.cell x1; have hV : OrderV w32 w32.heap.size (.agg #[cv, rv]) three := hV.ext XE; go_simp; refine Wcall (.inl rfl) (at_c 1 1 _) ?_; rintro v w33 ⟨rfl, hE33⟩; have x0 := hE33.cell x0; have x1 := hE33.cell x1; have hV : OrderV w33 w33.heap.size (.agg #[cv, rv]) three := hV.ext XE; go_simp; refine Wcall (.inl rfl) (at_c 1 2 _) ?_; rintro v w34 ⟨rfl, hE34⟩; have x0 := hE34.cell x0; have x1 := hE34.cell x1; have hV : OrderV w34 w34.heap.size (.agg #[cv, rv]) three := hV.ext XE; go_simp; refine Wcall (.inl rfl) (at_c 2 2 _) ?_; rintro v w35 ⟨rfl, hE35⟩; have x0 := hE35.cell x0; have x1 := hE35.cell x1; have hV : OrderV w35 w35.heap.size (.agg #[cv, rv]) three := hV.ext XE
    go_simp; refine Wcall (.inl rfl) (same_S _ _ [(0, 0), (1, 0), (1, 1), (1, 2), (2, 2)] _ (hC.ext XE) (stints_of (xs := [(0, 0), (1, 0), (1, 1), (1, 2), (2, 2)]) (c := 5) (by simp <;> omega) (by decide) (fun k hk => match k, hk with | 0, _ => ⟨by go_simp, by go_simp⟩ | 1, _ => ⟨by go_simp, by go_simp⟩ | 2, _ => ⟨by go_simp, by go_simp⟩ | 3, _ => ⟨by go_simp, by go_simp⟩ | 4, _ => ⟨by go_simp, by go_simp⟩)) (by decide)) ?_; rintro v w36 ⟨rfl, hE36⟩; have x0 := cell_al (.cells #[.int .i64 0, .int .i64 0, .int .i64 1, .int .i64 0, .int .i64 1, .int .i64 1, .int .i64 1, .int .i64 2, .int .i64 2, .int .i64 2] 56) x0; have x1 := cell_al (.cells #[.int .i64 0, .int .i64 0, .int .i64 1, .int .i64 0, .int .i64 1, .int .i64 1, .int .i64 1, .int .i64 2, .int .i64 2, .int .i64 2] 56) x1; have hV := hV.ext ((Ext.refl _).alloc (.cells #[.int .i64 0, .int .i64 0, .int .i64 1, .int .i64 0, .int .i64 1, .int .i64 1, .int .i64 1, .int .i64 2, .int .i64 2, .int .i64 2] 56)); have x0 := hE36.cell x0; have x1 := hE36.cell x1; have hV : OrderV w36 w36.heap.size (.agg #[cv, rv]) three := hV.ext XE; go_simp; refine Wcall (.inl rfl) (at_c 0 2 _) ?_; rintro v w37 ⟨rfl, hE37⟩; have x0 := hE37.cell x0; have x1 := hE37.cell x1; have hV : OrderV w37 w37.heap.size (.agg #[cv, rv]) three := hV.ext XE; go_simp; refine Wcall (.inl rfl) (same_S _ _ [(0, 2)] _ (hR.ext XE) (stints_of (xs := [(0, 2)]) (c := 1) (by simp <;> omega) (by decide) (fun k hk => match k, hk with | 0, _ => ⟨by go_simp, by go_simp⟩)) (by decide)) ?_
    rintro v w38 ⟨rfl, hE38⟩; have x0 := cell_al (.cells #[.int .i64 0, .int .i64 2] 56) x0; have x1 := cell_al (.cells #[.int .i64 0, .int .i64 2] 56) x1; have hV := hV.ext ((Ext.refl _).alloc (.cells #[.int .i64 0, .int .i64 2] 56)); have x0 := hE38.cell x0; have x1 := hE38.cell x1; have hV : OrderV w38 w38.heap.size (.agg #[cv, rv]) three := hV.ext XE; go_simp; refine hK _ _ ?_; clear hK K' gd g8 g12 g16; refine Wp.keep [1, 22, 23] fun r18 hkeep => ?_; obtain ⟨e1_18, e22_18, e23_18, -⟩ := hkeep; simp [go_sem, e1_17, e14_17, e16_17, e18_17, e20_17, e22] at e1_18 e22_18 e23_18; clear e1_17 e14_17 e16_17 e18_17 e20_17 e22; refine Wp.seqRegion (.inl rfl) (by kernel_rfl) fun K' gd hK hg => ?_; clear hg; go_simp; refine Wcall (.inl rfl) (t3_rate _ _ hV) ?_; rintro v w39 ⟨rfl, hE39⟩; have x0 := hE39.cell x0; have x1 := hE39.cell x1; have hV : OrderV w39 w39.heap.size (.agg #[cv, rv]) three := hV.ext XE; go_simp; refine hK _ _ ?_; clear hK K' gd; refine Wp.keep [1, 22, 23, 24, 25, 26] fun r19 hkeep => ?_; obtain ⟨e1_19, e22_19, e23_19, e24_19, e25_19, e26_19, -⟩ := hkeep; simp [go_sem, e1_18, e22_18, e23_18] at e1_19 e22_19 e23_19 e24_19 e25_19 e26_19; clear e1_18 e22_18 e23_18; have x0 := cell_al (.cells #[.int .i64 3, .int .i64 1] 76) x0; have x1 := cell_al (.cells #[.int .i64 3, .int .i64 1] 76) x1; have hV := hV.ext ((Ext.refl _).alloc (.cells #[.int .i64 3, .int .i64 1] 76)); have y0 := cell_nn w39 #[.int .i64 3, .int .i64 1] 76 0 rfl (v := .int .i64 3) rfl; have y1 := cell_nn w39 #[.int .i64 3, .int .i64 1] 76 1 rfl (v := .int .i64 1) rfl
    have hE50 : Ext w39 (w39.alloc (.cells #[.int .i64 3, .int .i64 1] 76)) := XE
    generalize w39.alloc (.cells #[.int .i64 3, .int .i64 1] 76) = W50 at *
    refine Wp.seqRegion (.inl rfl) (by kernel_rfl) fun K' gd hK hg => ?_; clear hg; go_simp; refine Wcall (.inl rfl) (t3_alike _ _ hV) ?_; rintro v w51 ⟨rfl, hE51⟩; have x0 := hE51.cell x0; have x1 := hE51.cell x1; have y0 := hE51.cell y0; have y1 := hE51.cell y1; have hV : OrderV w51 w51.heap.size (.agg #[cv, rv]) three := hV.ext XE; go_simp; refine hK _ _ ?_; clear hK K' gd; refine Wp.keep [1, 22, 23, 24, 25, 26, 27, 28] fun r20 hkeep => ?_; obtain ⟨e1_20, e22_20, e23_20, e24_20, e25_20, e26_20, e27_20, e28_20, -⟩ := hkeep; simp [go_sem, e1_19, e22_19, e23_19, e24_19, e25_19, e26_19] at e1_20 e22_20 e23_20 e24_20 e25_20 e26_20 e27_20 e28_20; clear e1_19 e22_19 e23_19 e24_19 e25_19 e26_19; refine Wp.seqRegion (.inl rfl) (by kernel_rfl) fun K' gd hK hg => ?_; clear hg; go_simp; refine Wcall (.inl rfl) (t3_hold _ _ hV) ?_; rintro v w52 ⟨tH, rfl, hH, hE52⟩; have x0 := hE52.cell x0; have x1 := hE52.cell x1; have y0 := hE52.cell y0; have y1 := hE52.cell y1; have hV : OrderV w52 w52.heap.size (.agg #[cv, rv]) three := hV.ext XE; go_simp; refine hK _ _ ?_; clear hK K' gd; refine Wp.keep [1, 22, 23, 24, 25, 26, 27, 28, 29, 30] fun r21 hkeep => ?_; obtain ⟨e1_21, e22_21, e23_21, e24_21, e25_21, e26_21, e27_21, e28_21, e29_21, e30_21, -⟩ := hkeep; simp [go_sem, e1_20, e22_20, e23_20, e24_20, e25_20, e26_20, e27_20, e28_20] at e1_21 e22_21 e23_21 e24_21 e25_21 e26_21 e27_21 e28_21 e29_21 e30_21; clear e1_20 e22_20 e23_20 e24_20 e25_20 e26_20 e27_20 e28_20; refine Wp.seqRegion (.inl rfl) (by kernel_rfl) fun K' gd hK hg => ?_
    clear hg; go_simp; refine hK _ _ ?_; clear hK K' gd; refine Wp.keep [1, 22, 23, 24, 25, 26, 27, 28, 29, 30, 31] fun r22 hkeep => ?_; obtain ⟨e1_22, e22_22, e23_22, e24_22, e25_22, e26_22, e27_22, e28_22, e29_22, e30_22, e31_22, -⟩ := hkeep; simp [go_sem, e1_21, e22_21, e23_21, e24_21, e25_21, e26_21, e27_21, e28_21, e29_21, e30_21] at e1_22 e22_22 e23_22 e24_22 e25_22 e26_22 e27_22 e28_22 e29_22 e30_22 e31_22; clear e1_21 e22_21 e23_21 e24_21 e25_21 e26_21 e27_21 e28_21 e29_21 e30_21; refine Wp.seqRegion (.inl rfl) (by kernel_rfl) fun K' gd hK hg => ?_; clear hg; go_simp; refine Wcall (.inl rfl) (t3_john _ _ ⟨_, _, rfl, (ints2 (by simp <;> omega) (by go_simp) (by go_simp)), runs3 (u := .slice (some ⟨w52.heap.size + 1, 0, none⟩) 2 2) (v := .slice (some ⟨w52.heap.size + 1 + 1, 0, none⟩) 2 2) (x := .slice (some ⟨w52.heap.size + 1 + 1 + 1, 0, none⟩) 2 2) (by simp <;> omega) (by go_simp) (by go_simp) (by go_simp) (by go_simp) (by go_simp) (by go_simp) (by go_simp) (by go_simp) (by go_simp) (ints2 (by simp <;> omega) (by go_simp) (by go_simp)) (ints2 (by simp <;> omega) (by go_simp) (by go_simp)) (ints2 (by simp <;> omega) (by go_simp) (by go_simp))⟩) ?_; rintro v w53 ⟨tJ, rfl, hJ, hE53⟩; have hE : Ext w52 w53 := XE; have x0 := hE.cell x0; have x1 := hE.cell x1; have y0 := hE.cell y0; have y1 := hE.cell y1; have hV : OrderV w53 w53.heap.size (.agg #[cv, rv]) three := hV.ext hE; go_simp; refine hK _ _ ?_; clear hK K' gd; refine Wp.keep [1, 22, 23, 24, 25, 26, 27, 28, 29, 30, 32, 33, 34] fun r23 hkeep => ?_
    obtain ⟨e1_23, e22_23, e23_23, e24_23, e25_23, e26_23, e27_23, e28_23, e29_23, e30_23, e32_23, e33_23, e34_23, -⟩ := hkeep; simp [go_sem, e1_22, e22_22, e23_22, e24_22, e25_22, e26_22, e27_22, e28_22, e29_22, e30_22, e31_22] at e1_23 e22_23 e23_23 e24_23 e25_23 e26_23 e27_23 e28_23 e29_23 e30_23 e32_23 e33_23 e34_23; clear e1_22 e22_22 e23_22 e24_22 e25_22 e26_22 e27_22 e28_22 e29_22 e30_22 e31_22; refine Wp.seqRegion (.inl rfl) (by kernel_rfl) fun K' gd hK hg => ?_; clear hg; go_simp; refine Wcall (.inl rfl) (t3_ample _ _ hV) ?_; rintro v w54 ⟨rfl, hE54⟩; have x0 := hE54.cell x0; have x1 := hE54.cell x1; have y0 := hE54.cell y0; have y1 := hE54.cell y1; have hV : OrderV w54 w54.heap.size (.agg #[cv, rv]) three := hV.ext XE; go_simp; refine hK _ _ ?_; clear hK K' gd; refine Wp.keep [22, 23, 24, 25, 26, 27, 28, 29, 30, 32, 33, 34, 35, 36] fun r24 hkeep => ?_; obtain ⟨e22_24, e23_24, e24_24, e25_24, e26_24, e27_24, e28_24, e29_24, e30_24, e32_24, e33_24, e34_24, e35_24, e36_24, -⟩ := hkeep; simp [go_sem, e1_23, e22_23, e23_23, e24_23, e25_23, e26_23, e27_23, e28_23, e29_23, e30_23, e32_23, e33_23, e34_23] at e22_24 e23_24 e24_24 e25_24 e26_24 e27_24 e28_24 e29_24 e30_24 e32_24 e33_24 e34_24 e35_24 e36_24; clear e1_23 e22_23 e23_23 e24_23 e25_23 e26_23 e27_23 e28_23 e29_23 e30_23 e32_23 e33_23 e34_23; refine Wp.seqRegion (.inl rfl) (by kernel_rfl) fun K' gd hK hg => ?_; have g1 : gd 1 = some 221 := hg 1; have g4 : gd 4 = some 224 := hg 4; have g8 : gd 8 = some 228 := hg 8; have g13 : gd 13 = some 233 := hg 13
    have g17 : gd 17 = some 237 := hg 17; have g21 : gd 21 = some 241 := hg 21; have g25 : gd 25 = some 245 := hg 25; have g29 : gd 29 = some 249 := hg 29; have g36 : gd 36 = some 256 := hg 36; have g40 : gd 40 = some 260 := hg 40; have g45 : gd 45 = some 265 := hg 45; have g49 : gd 49 = some 269 := hg 49; have g53 : gd 53 = some 273 := hg 53; clear hg; go_simp; refine Wcall (.inl rfl) (at_c 1 1 _) ?_; rintro v w55 ⟨rfl, hE55⟩; have x0 := hE55.cell x0; have x1 := hE55.cell x1; have y0 := hE55.cell y0; have y1 := hE55.cell y1; have hV : OrderV w55 w55.heap.size (.agg #[cv, rv]) three := hV.ext XE; go_simp; refine Wcall (.inl rfl) (at_c 2 1 _) ?_; rintro v w56 ⟨rfl, hE56⟩; have x0 := hE56.cell x0; have x1 := hE56.cell x1; have y0 := hE56.cell y0; have y1 := hE56.cell y1; have hV : OrderV w56 w56.heap.size (.agg #[cv, rv]) three := hV.ext XE; go_simp; refine Wcall (.inl rfl) (same_S _ _ [(1, 1), (2, 1)] _ (hH.ext XE) (stints_of (xs := [(1, 1), (2, 1)]) (c := 2) (by simp <;> omega) (by decide) (fun k hk => match k, hk with | 0, _ => ⟨by go_simp, by go_simp⟩ | 1, _ => ⟨by go_simp, by go_simp⟩)) (by decide)) ?_; rintro v w57 ⟨rfl, hE57⟩; have x0 := cell_al (.cells #[.int .i64 1, .int .i64 1, .int .i64 2, .int .i64 1] 56) x0; have x1 := cell_al (.cells #[.int .i64 1, .int .i64 1, .int .i64 2, .int .i64 1] 56) x1; have y0 := cell_al (.cells #[.int .i64 1, .int .i64 1, .int .i64 2, .int .i64 1] 56) y0; have y1 := cell_al (.cells #[.int .i64 1, .int .i64 1, .int .i64 2, .int .i64 1] 56) y1
    have hV := hV.ext ((Ext.refl _).alloc (.cells #[.int .i64 1, .int .i64 1, .int .i64 2, .int .i64 1] 56)); have x0 := hE57.cell x0; have x1 := hE57.cell x1; have y0 := hE57.cell y0; have y1 := hE57.cell y1; have hV : OrderV w57 w57.heap.size (.agg #[cv, rv]) three := hV.ext XE; go_simp; refine Wcall (.inl rfl) (same_I _ _ [3, 1, 2] _ (hJ.ext XE) (ints3 (by simp) (by go_simp) (by go_simp) (by go_simp)) (by decide)) ?_; rintro v w58 ⟨rfl, hE58⟩; have x0 := cell_al (.cells #[.int .i64 3, .int .i64 1, .int .i64 2] 3) x0; have x1 := cell_al (.cells #[.int .i64 3, .int .i64 1, .int .i64 2] 3) x1; have y0 := cell_al (.cells #[.int .i64 3, .int .i64 1, .int .i64 2] 3) y0; have y1 := cell_al (.cells #[.int .i64 3, .int .i64 1, .int .i64 2] 3) y1; have hV := hV.ext ((Ext.refl _).alloc (.cells #[.int .i64 3, .int .i64 1, .int .i64 2] 3)); have x0 := hE58.cell x0; have x1 := hE58.cell x1; have y0 := hE58.cell y0; have y1 := hE58.cell y1; have hV : OrderV w58 w58.heap.size (.agg #[cv, rv]) three := hV.ext XE; go_simp; refine hK _ _ ?_; clear hK K' gd g1 g4 g8 g13 g17 g21 g25 g29 g36 g40 g45 g49 g53; refine Wp.keep [0] fun r25 hkeep => ?_; obtain ⟨e0_25, -⟩ := hkeep; simp [go_sem, e22_24, e23_24, e24_24, e25_24, e26_24, e27_24, e28_24, e29_24, e30_24, e32_24, e33_24, e34_24, e35_24, e36_24] at e0_25; clear e22_24 e23_24 e24_24 e25_24 e26_24 e27_24 e28_24 e29_24 e30_24 e32_24 e33_24 e34_24 e35_24 e36_24; refine Wp.ret ?_; refine endK_tmp Tryz.results11 (by decide) ?_; rw [e0_25]; exact ⟨rfl, XE⟩
end Go.Proofs.YtnfagcccgmakdaaGreat
namespace Go.Proofs.YtnfagcccgmakdaaGreat
open Go.RowKit Go.Wk Go.Proofs
theorem list_three {α : Type} {l : List α} (h : l.length = 3) : ∃ a b c, l = [a, b, c] := by
  match l, h with
  | [a, b, c], _ => exact ⟨a, b, c, rfl⟩
theorem list_two {α : Type} {l : List α} (h : l.length = 2) : ∃ a b, l = [a, b] := by
  match l, h with
  | [a, b], _ => exact ⟨a, b, rfl⟩
theorem openI {w : World} {v : Value} (h : Rd Tryz.prog w 22 [v]) : ∃ xs, IntsV w w.heap.size v xs ∧ xs.length ≤ farI := by
  have e1 : Tryz.prog.cellsOf 3 = 1 := by kernel_rfl
  have e2 : Tryz.prog.bytesOf 3 = 8 := by kernel_rfl
  obtain ⟨A, n, c, rfl, hn, hc, hx⟩ := h.list Tryz.underlying22 (by rw [e1]; decide) (by rw [e2]; decide); rw [e1] at hx; clear e1 e2
  obtain ⟨f, hf⟩ := Go.Deep.choose_lt (α := Int) (p := fun i z => ∃ b o, A = some ⟨b, o, none⟩ ∧ b < w.heap.size ∧ w.cell? ⟨b, o + i, none⟩ = some (.int .i64 z)) fun i hi => by
    obtain ⟨b, o, cs, h1, h2, h3, h4, h5⟩ := hx i hi; obtain ⟨z, rfl, -⟩ := h5.int Tryz.underlying3; exact ⟨z, b, o, h1, h2, by have := h4 0 (by decide); simpa using this⟩
  have hl : ((List.range n).map f).length = n := by simp
  refine ⟨(List.range n).map f, ⟨A, c, by rw [hl], fun hne => ?_, by rw [hl]; exact hn⟩, by rw [hl]; omega⟩
  have h0 : 0 < n := by
    rcases Nat.eq_zero_or_pos n with e | e
    · subst e; exact absurd rfl hne
    · exact e
  obtain ⟨b, o, h1, h2, -⟩ := hf 0 h0; refine ⟨b, o, h1, h2, fun k hk => ?_⟩; rw [hl] at hk; obtain ⟨b', o', h1', h2', h3'⟩ := hf k hk; rw [h1] at h1'
  injection h1' with h1'
  injection h1' with hb ho
  subst hb; subst ho
  simpa using h3'
theorem openR {w : World} {v : Value} (h : Rd Tryz.prog w 23 [v]) : ∃ rs, RunsV w w.heap.size v rs ∧ rs.length ≤ farI ∧ ∀ k (h : k < rs.length), rs[k].takes.length ≤ farI := by
  have e1 : Tryz.prog.cellsOf 103 = 3 := by kernel_rfl
  have e2 : Tryz.prog.bytesOf 103 = 40 := by kernel_rfl
  have e3 : Tryz.prog.cellsOf 3 = 1 := by kernel_rfl
  have e4 : Tryz.prog.cellsOf 22 = 1 := by kernel_rfl
  obtain ⟨A, n, c, rfl, hn, hc, hx⟩ := h.list Tryz.underlying23 (by rw [e1]; decide) (by rw [e2]; decide); rw [e1] at hx; clear e1 e2
  obtain ⟨f, hf⟩ := Go.Deep.choose_lt (α := Run × Value) (p := fun i z => (∃ b o, A = some ⟨b, o, none⟩ ∧ b < w.heap.size ∧ w.cell? ⟨b, o + i * 3, none⟩ = some (.int .i64 z.1.id) ∧ w.cell? ⟨b, o + i * 3 + 1, none⟩ = some (.int .i64 z.1.arr) ∧ w.cell? ⟨b, o + i * 3 + 2, none⟩ = some z.2) ∧
      IntsV w w.heap.size z.2 z.1.takes ∧ z.1.takes.length ≤ farI) fun i hi => by
    obtain ⟨b, o, cs, h1, h2, h3, h4, h5⟩ := hx i hi; obtain ⟨-, hs⟩ := h5.struct Tryz.underlying103; have s0 : Rd Tryz.prog w 3 ((cs.drop 0).take (Tryz.prog.cellsOf 3)) := hs 0 _ rfl; have s1 : Rd Tryz.prog w 3 ((cs.drop 1).take (Tryz.prog.cellsOf 3)) := hs 1 _ rfl; have s2 : Rd Tryz.prog w 22 ((cs.drop 2).take (Tryz.prog.cellsOf 22)) := hs 2 _ rfl; rw [e3] at s0 s1; rw [e4] at s2; clear e3 e4; obtain ⟨c0, c1, c2, rfl⟩ := list_three h3; obtain ⟨z0, q0, -⟩ := s0.int Tryz.underlying3; obtain ⟨z1, q1, -⟩ := s1.int Tryz.underlying3; obtain ⟨xs, hxs, hxl⟩ := openI s2; simp only [List.drop_zero, List.take_succ_cons, List.take_zero, List.drop_succ_cons, List.cons.injEq, and_true] at q0 q1; subst q0; subst q1; exact ⟨(⟨z0, z1, xs⟩, c2), ⟨b, o, h1, h2, by have := h4 0 (by decide); simpa using this, by have := h4 1 (by decide); simpa using this, by have := h4 2 (by decide); simpa using this⟩, hxs, hxl⟩
  clear e3 e4; have hl : ((List.range n).map fun i => (f i).1).length = n := by simp
  refine ⟨(List.range n).map fun i => (f i).1, ⟨A, c, fun i => (f i).2, by rw [hl], fun hne => ?_, fun k hk => ?_, by rw [hl]; exact hn⟩, by rw [hl]; omega, fun k hk => ?_⟩
  · have h0 : 0 < n := by
      rcases Nat.eq_zero_or_pos n with e | e
      · subst e; exact absurd rfl hne
      · exact e
    obtain ⟨⟨b, o, h1, h2, -⟩, -⟩ := hf 0 h0; refine ⟨b, o, h1, h2, fun k hk => ?_⟩; rw [hl] at hk; obtain ⟨⟨b', o', h1', h2', h3', h4', h5'⟩, -⟩ := hf k hk; rw [h1] at h1'
    injection h1' with h1'
    injection h1' with hb ho
    subst hb; subst ho
    simpa using ⟨h3', h4', h5'⟩
  · rw [hl] at hk
    simpa using (hf k hk).2.1
  · rw [hl] at hk
    simpa using (hf k hk).2.2
theorem openO {w : World} {v : Value} (hv : ∃ cs, v = .agg cs) (h : Rd Tryz.prog w 25 v.cells.toList) : ∃ o, OrderV w w.heap.size v o ∧ Fits o := by
  obtain ⟨cs, rfl⟩ := hv; have e1 : Tryz.prog.cellsOf 25 = 2 := by kernel_rfl
  have e4 : Tryz.prog.cellsOf 22 = 1 := by kernel_rfl
  have e5 : Tryz.prog.cellsOf 23 = 1 := by kernel_rfl
  obtain ⟨hl, hs⟩ := h.struct Tryz.underlying25; have s0 : Rd Tryz.prog w 22 (((Value.agg cs).cells.toList.drop 0).take (Tryz.prog.cellsOf 22)) := hs 0 _ rfl; have s1 : Rd Tryz.prog w 23 (((Value.agg cs).cells.toList.drop 1).take (Tryz.prog.cellsOf 23)) := hs 1 _ rfl; rw [e1] at hl; simp only [Value.cells] at hl s0 s1; rw [e4] at s0; rw [e5] at s1; clear e1 e4 e5; obtain ⟨l⟩ := cs; obtain ⟨c0, c1, rfl⟩ := list_two hl; obtain ⟨xs, hx, hxl⟩ := openI s0; obtain ⟨rs, hr, hrl, hrt⟩ := openR s1; exact ⟨⟨xs, rs⟩, ⟨c0, c1, rfl, hx, hr⟩, by unfold farI at hxl hrl hrt; exact ⟨hxl, hrl, hrt⟩⟩
end Go.Proofs.YtnfagcccgmakdaaGreat
namespace Go.Proofs.YtnfagcccgmakdaaGreat
open Go.RowKit Go.Wk Go.Proofs
structure KeepsP (o : Ord) (t : Nat → Nat → Int) : Prop where
  arr : ∀ i, i < o.n → o.A i ≤ t i 0
  piece : ∀ i j, i < o.n → j + 1 < o.m → t i j + o.T i j ≤ t i (j + 1)
  copy : ∀ (i k j : Nat), i < o.n → j < o.m → (k : Int) + o.C j = i → t k j + o.T k j ≤ t i j
theorem before_piece (o : Ord) (i j : Nat) : (i, j) ∈ beforeL o (i, j + 1) := by simp [beforeL]
theorem before_copy {o : Ord} {i k j : Nat} (hC : 1 ≤ o.C j) (h : (k : Int) + o.C j = i) : (k, j) ∈ beforeL o (i, j) := by
  have h1 : o.C j ≤ (i : Int) := by omega
  have h2 : i - (o.C j).toNat = k := by omega
  simp [beforeL, h1, h2]
variable {o : Ord}
theorem begA_fill (ho : OrdOk o) {i j : Nat} (hi : i < o.n) (hj : j < o.m) : begA o i j = mostL o (begA o) (if j = 0 then o.A i else 0) (beforeL o (i, j)) := by
  rw [begA_eq hi hj, beg_eq ho hi hj]; have hC := ho.vC j hj; refine fillS_congr (fun x hx => ?_)
  rcases beforeL_mem hC.1 hx with ⟨h1, h2⟩ | ⟨h1, h2⟩
  · rw [begA_eq (by omega) (by omega)]
  · rw [begA_eq (by omega) (by omega)]
theorem beg_keeps (ho : OrdOk o) : KeepsP o (begA o) := by
  have hm := ho.hm1; refine ⟨fun i hi => ?_, fun i j hi hj => ?_, fun i k j hi hj h => ?_⟩
  · rw [begA_fill ho hi (by omega), if_pos rfl]; exact mostL_ge
  · rw [begA_fill ho hi hj]; exact mostL_ge_mem (before_piece o i j)
  · rw [begA_fill ho hi hj]; exact mostL_ge_mem (before_copy (ho.vC j hj).1 h)
theorem beg_least (ho : OrdOk o) {t : Nat → Nat → Int} (hk : KeepsP o t) (h0 : ∀ i j, i < o.n → j < o.m → 0 ≤ t i j) : ∀ (s i j : Nat), i + j = s → i < o.n → j < o.m → begA o i j ≤ t i j := by
  intro s
  induction s using Nat.strongRecOn with
  | ind s ih =>
    intro i j hs hi hj; rw [begA_fill ho hi hj]; have hC := (ho.vC j hj).1; refine mostL_le ?_ (fun x hx => ?_)
    · split
      · rename_i e; subst e; exact hk.arr i hi
      · exact h0 i j hi hj
    · obtain ⟨x1, x2⟩ := x
      rcases beforeL_mem hC hx with ⟨h1, h2⟩ | ⟨h1, h2⟩
      · dsimp only at h1 h2 ⊢
        subst h2; subst h1; have := ih (x1 + x2) (by omega) x1 x2 rfl hi (by omega); have := hk.piece x1 x2 hi hj; omega
      · dsimp only at h1 h2 ⊢
        subst h1; have := ih (x1 + x2) (by omega) x1 x2 rfl (by omega) hj; have := hk.copy i x1 x2 hi hj h2; omega
theorem end_ge {i j : Nat} (hi : i < o.n) (hj : j < o.m) : begA o i j + o.T i j ≤ endS o := mostL_ge_mem (x := (i, j)) (stintsL_mem.2 ⟨hi, hj⟩)
theorem end_le {B : Int} (h0 : 0 ≤ B) (h : ∀ i j, i < o.n → j < o.m → begA o i j + o.T i j ≤ B) : endS o ≤ B :=
  mostL_le h0 fun x hx => h x.1 x.2 (stintsL_mem.1 hx).1 (stintsL_mem.1 hx).2
end Go.Proofs.YtnfagcccgmakdaaGreat
