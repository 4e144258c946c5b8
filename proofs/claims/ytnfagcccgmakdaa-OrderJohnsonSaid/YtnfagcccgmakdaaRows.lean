/-
  No cell of these rows narrows 'for every input' (looked for: loops, veiled, ifaces, maps, wideKeys, modest, calm, conditions, laid).
  DERIVED. THE GIVEN ROWS OF THIS SEAT. 9 by the template 'for every input the law returns true; each argument reads behind the call as it read before'; 0 by the template 'total and deterministic' (their statements: YtnfagcccgmakdaaTotals.lean).
  GIVEN WITH THE SEED: the statements are not yours to turn. If you find one false, say at which input.
  Laid BY PROGRAM, IN A SANDBOX (cutbox-rows.mjs): the forced cells as the released guide's own fill.sh prints them over the translation 1742bd7bd9dc2280… (all of the seat's roots in one cut). By AI agents, Wed Nov 11 2026. No macro, syntax, notation, axiom, sorry.
-/
import Derived.Test.YtnfagcccgmakdaaChecked
import GoSem.Claim
import GoSem.ClaimJoined
import GoSem.ClaimMapViews
import Derived.JoinedTies
import Derived.KernelRfl
namespace Go.Proofs.Ytnfagcccgmakdaa
/- THE CELL 'sum', in the pinned program and in every row, IS THE sha256 OF THE DUMP (.gsa) THAT YtnfagcccgmakdaaProg.lean LOADS. Nothing in Lean hashes anything: it is a label: what it is worth is what the hold of that sum in a sandbox is worth. -/
noncomputable def Try.pinned : Pinned := { name := "ytnfagcccgmakdaa", sum := "1742bd7bd9dc2280acff39dadff8e30a18a12f937766d9f6f590d9247f18c7bd", checked := Try.checked }
namespace Rows
def none {H : Type} : Left H := { results := [], args := [] }

/-- 'pecialaw08.OrderNoEarlier': WHATEVER THE INPUT: true; the input reads as it did. -/
def orderNoEarlierSpec : ChangeSpec := { name := "orderNoEarlier", fn := fun _ => fun
  | [d1, d2, d3] => { results := [.lit (.bool true)], args := [d1, d2, d3] }
  | _ => none }
def orderNoEarlierRow : OpenClaim := { program := "ytnfagcccgmakdaa", sum := "1742bd7bd9dc2280acff39dadff8e30a18a12f937766d9f6f590d9247f18c7bd", func := "pecia/pecialaw08.OrderNoEarlier", spec := "orderNoEarlier", unfollowed := true, recurses := true, apart := false }
def OrderNoEarlierSaid : Prop := orderNoEarlierRow.holds Try.pinned (OpenSpec.ofChange orderNoEarlierSpec)

/-- ITS FALSE NEIGHBOUR: 'it returns false'. Refute it at one input. -/
def orderNoEarlierWrong : ChangeSpec := { name := "orderNoEarlier", fn := fun _ => fun
  | [d1, d2, d3] => { results := [.lit (.bool false)], args := [d1, d2, d3] }
  | _ => none }
def OrderNoEarlierWrongFalsely : Prop := orderNoEarlierRow.holds Try.pinned (OpenSpec.ofChange orderNoEarlierWrong)

/-- 'pecialaw08.OrderReaches': WHATEVER THE INPUT: true; the input reads as it did. -/
def orderReachesSpec : ChangeSpec := { name := "orderReaches", fn := fun _ => fun
  | [d1, d2, d3, d4] => { results := [.lit (.bool true)], args := [d1, d2, d3, d4] }
  | _ => none }
def orderReachesRow : OpenClaim := { program := "ytnfagcccgmakdaa", sum := "1742bd7bd9dc2280acff39dadff8e30a18a12f937766d9f6f590d9247f18c7bd", func := "pecia/pecialaw08.OrderReaches", spec := "orderReaches", unfollowed := true, recurses := true, apart := false }
def OrderReachesSaid : Prop := orderReachesRow.holds Try.pinned (OpenSpec.ofChange orderReachesSpec)

/-- ITS FALSE NEIGHBOUR: 'it returns false'. Refute it at one input. -/
def orderReachesWrong : ChangeSpec := { name := "orderReaches", fn := fun _ => fun
  | [d1, d2, d3, d4] => { results := [.lit (.bool false)], args := [d1, d2, d3, d4] }
  | _ => none }
def OrderReachesWrongFalsely : Prop := orderReachesRow.holds Try.pinned (OpenSpec.ofChange orderReachesWrong)

/-- 'pecialaw08.OrderPacked': WHATEVER THE INPUT: true; the input reads as it did. -/
def orderPackedSpec : ChangeSpec := { name := "orderPacked", fn := fun _ => fun
  | [d1, d2, d3] => { results := [.lit (.bool true)], args := [d1, d2, d3] }
  | _ => none }
def orderPackedRow : OpenClaim := { program := "ytnfagcccgmakdaa", sum := "1742bd7bd9dc2280acff39dadff8e30a18a12f937766d9f6f590d9247f18c7bd", func := "pecia/pecialaw08.OrderPacked", spec := "orderPacked", unfollowed := true, recurses := true, apart := false }
def OrderPackedSaid : Prop := orderPackedRow.holds Try.pinned (OpenSpec.ofChange orderPackedSpec)

/-- ITS FALSE NEIGHBOUR: 'it returns false'. Refute it at one input. -/
def orderPackedWrong : ChangeSpec := { name := "orderPacked", fn := fun _ => fun
  | [d1, d2, d3] => { results := [.lit (.bool false)], args := [d1, d2, d3] }
  | _ => none }
def OrderPackedWrongFalsely : Prop := orderPackedRow.holds Try.pinned (OpenSpec.ofChange orderPackedWrong)

/-- 'pecialaw08.OrderDays': WHATEVER THE INPUT: true; the input reads as it did. -/
def orderDaysSpec : ChangeSpec := { name := "orderDays", fn := fun _ => fun
  | [d1, d2, d3] => { results := [.lit (.bool true)], args := [d1, d2, d3] }
  | _ => none }
def orderDaysRow : OpenClaim := { program := "ytnfagcccgmakdaa", sum := "1742bd7bd9dc2280acff39dadff8e30a18a12f937766d9f6f590d9247f18c7bd", func := "pecia/pecialaw08.OrderDays", spec := "orderDays", unfollowed := true, recurses := true, apart := false }
def OrderDaysSaid : Prop := orderDaysRow.holds Try.pinned (OpenSpec.ofChange orderDaysSpec)

/-- ITS FALSE NEIGHBOUR: 'it returns false'. Refute it at one input. -/
def orderDaysWrong : ChangeSpec := { name := "orderDays", fn := fun _ => fun
  | [d1, d2, d3] => { results := [.lit (.bool false)], args := [d1, d2, d3] }
  | _ => none }
def OrderDaysWrongFalsely : Prop := orderDaysRow.holds Try.pinned (OpenSpec.ofChange orderDaysWrong)

/-- 'pecialaw08.OrderHolds': WHATEVER THE INPUT: true; the input reads as it did. -/
def orderHoldsSpec : ChangeSpec := { name := "orderHolds", fn := fun _ => fun
  | [d1, d2] => { results := [.lit (.bool true)], args := [d1, d2] }
  | _ => none }
def orderHoldsRow : OpenClaim := { program := "ytnfagcccgmakdaa", sum := "1742bd7bd9dc2280acff39dadff8e30a18a12f937766d9f6f590d9247f18c7bd", func := "pecia/pecialaw08.OrderHolds", spec := "orderHolds", unfollowed := true, recurses := true, apart := false }
def OrderHoldsSaid : Prop := orderHoldsRow.holds Try.pinned (OpenSpec.ofChange orderHoldsSpec)

/-- ITS FALSE NEIGHBOUR: 'it returns false'. Refute it at one input. -/
def orderHoldsWrong : ChangeSpec := { name := "orderHolds", fn := fun _ => fun
  | [d1, d2] => { results := [.lit (.bool false)], args := [d1, d2] }
  | _ => none }
def OrderHoldsWrongFalsely : Prop := orderHoldsRow.holds Try.pinned (OpenSpec.ofChange orderHoldsWrong)

/-- 'pecialaw08.OrderSlacks': WHATEVER THE INPUT: true; the input reads as it did. -/
def orderSlacksSpec : ChangeSpec := { name := "orderSlacks", fn := fun _ => fun
  | [d1, d2, d3, d4] => { results := [.lit (.bool true)], args := [d1, d2, d3, d4] }
  | _ => none }
def orderSlacksRow : OpenClaim := { program := "ytnfagcccgmakdaa", sum := "1742bd7bd9dc2280acff39dadff8e30a18a12f937766d9f6f590d9247f18c7bd", func := "pecia/pecialaw08.OrderSlacks", spec := "orderSlacks", unfollowed := true, recurses := true, apart := false }
def OrderSlacksSaid : Prop := orderSlacksRow.holds Try.pinned (OpenSpec.ofChange orderSlacksSpec)

/-- ITS FALSE NEIGHBOUR: 'it returns false'. Refute it at one input. -/
def orderSlacksWrong : ChangeSpec := { name := "orderSlacks", fn := fun _ => fun
  | [d1, d2, d3, d4] => { results := [.lit (.bool false)], args := [d1, d2, d3, d4] }
  | _ => none }
def OrderSlacksWrongFalsely : Prop := orderSlacksRow.holds Try.pinned (OpenSpec.ofChange orderSlacksWrong)

/-- 'pecialaw08.OrderJohnson': WHATEVER THE INPUT: true; the input reads as it did. -/
def orderJohnsonSpec : ChangeSpec := { name := "orderJohnson", fn := fun _ => fun
  | [d1, d2, d3] => { results := [.lit (.bool true)], args := [d1, d2, d3] }
  | _ => none }
def orderJohnsonRow : OpenClaim := { program := "ytnfagcccgmakdaa", sum := "1742bd7bd9dc2280acff39dadff8e30a18a12f937766d9f6f590d9247f18c7bd", func := "pecia/pecialaw08.OrderJohnson", spec := "orderJohnson", unfollowed := true, recurses := true, apart := false }
def OrderJohnsonSaid : Prop := orderJohnsonRow.holds Try.pinned (OpenSpec.ofChange orderJohnsonSpec)

/-- ITS FALSE NEIGHBOUR: 'it returns false'. Refute it at one input. -/
def orderJohnsonWrong : ChangeSpec := { name := "orderJohnson", fn := fun _ => fun
  | [d1, d2, d3] => { results := [.lit (.bool false)], args := [d1, d2, d3] }
  | _ => none }
def OrderJohnsonWrongFalsely : Prop := orderJohnsonRow.holds Try.pinned (OpenSpec.ofChange orderJohnsonWrong)

/-- 'pecialaw08.OrderMerged': WHATEVER THE INPUT: true; the input reads as it did. -/
def orderMergedSpec : ChangeSpec := { name := "orderMerged", fn := fun _ => fun
  | [d1, d2] => { results := [.lit (.bool true)], args := [d1, d2] }
  | _ => none }
def orderMergedRow : OpenClaim := { program := "ytnfagcccgmakdaa", sum := "1742bd7bd9dc2280acff39dadff8e30a18a12f937766d9f6f590d9247f18c7bd", func := "pecia/pecialaw08.OrderMerged", spec := "orderMerged", unfollowed := true, recurses := true, apart := false }
def OrderMergedSaid : Prop := orderMergedRow.holds Try.pinned (OpenSpec.ofChange orderMergedSpec)

/-- ITS FALSE NEIGHBOUR: 'it returns false'. Refute it at one input. -/
def orderMergedWrong : ChangeSpec := { name := "orderMerged", fn := fun _ => fun
  | [d1, d2] => { results := [.lit (.bool false)], args := [d1, d2] }
  | _ => none }
def OrderMergedWrongFalsely : Prop := orderMergedRow.holds Try.pinned (OpenSpec.ofChange orderMergedWrong)

/-- 'pecialaw08.OrderFewest': WHATEVER THE INPUT: true; the input reads as it did. -/
def orderFewestSpec : ChangeSpec := { name := "orderFewest", fn := fun _ => fun
  | [d1, d2, d3] => { results := [.lit (.bool true)], args := [d1, d2, d3] }
  | _ => none }
def orderFewestRow : OpenClaim := { program := "ytnfagcccgmakdaa", sum := "1742bd7bd9dc2280acff39dadff8e30a18a12f937766d9f6f590d9247f18c7bd", func := "pecia/pecialaw08.OrderFewest", spec := "orderFewest", unfollowed := true, recurses := true, apart := false }
def OrderFewestSaid : Prop := orderFewestRow.holds Try.pinned (OpenSpec.ofChange orderFewestSpec)

/-- ITS FALSE NEIGHBOUR: 'it returns false'. Refute it at one input. -/
def orderFewestWrong : ChangeSpec := { name := "orderFewest", fn := fun _ => fun
  | [d1, d2, d3] => { results := [.lit (.bool false)], args := [d1, d2, d3] }
  | _ => none }
def OrderFewestWrongFalsely : Prop := orderFewestRow.holds Try.pinned (OpenSpec.ofChange orderFewestWrong)

/- THE SECOND FORM. 'bulk': how many values and letters a reading holds, each counted each time it is reached (what is shared counts as often as it is met; a slice's spare places count too). A statement '..UptoSaid' is the law's where the arguments, and the package variables that the reading takes, are together of bulk at most 1048576: NARROWER than '..Said'. Prove '..Said' where nothing that the law and all that it calls make is longer than what came in: it says more and counts as full. Else prove '..UptoSaid'. A law counts once. -/
mutual
def uptoBulk {H : Type} : DataW H → Nat
  | .lit (.string bytes) => bytes.length + 1
  | .lit _ => 1
  | .nil => 1
  | .ptr d => uptoBulk d + 1
  | .slice elems spare => uptoBulkAll elems + uptoBulkAll spare + 1
  | .agg parts => uptoBulkAll parts + 1
  | .iface _ d => uptoBulk d + 1
  | .map entries => uptoBulkEntries entries + 1
  | .held _ => 1
def uptoBulkAll {H : Type} : List (DataW H) → Nat
  | [] => 0
  | d :: r => uptoBulk d + uptoBulkAll r
def uptoBulkEntries {H : Type} : List (Lit × DataW H) → Nat
  | [] => 0
  | x :: r => uptoBulkEntry x + uptoBulkEntries r
def uptoBulkEntry {H : Type} : Lit × DataW H → Nat
  | (.string bytes, d) => bytes.length + uptoBulk d + 1
  | (_, d) => uptoBulk d + 1
 end
def uptoSmall : (H : Type) → List (DataW H) → Bool := fun _ ds => decide (uptoBulkAll ds ≤ 1048576)
def OpenSpec.upto (s : _root_.Go.ChangeSpec) : _root_.Go.OpenSpec := { _root_.Go.OpenSpec.ofChange s with cond := some uptoSmall }

/-- 'pecialaw08.OrderNoEarlier', WHERE WHAT IT READS IS OF BULK AT MOST 1048576: true; the input reads as it did. -/
def orderNoEarlierUptoRow : OpenClaim := { program := "ytnfagcccgmakdaa", sum := "1742bd7bd9dc2280acff39dadff8e30a18a12f937766d9f6f590d9247f18c7bd", func := "pecia/pecialaw08.OrderNoEarlier", spec := "orderNoEarlier", unfollowed := true, recurses := true, apart := false, narrowed := true }
def OrderNoEarlierUptoSaid : Prop := orderNoEarlierUptoRow.holds Try.pinned (OpenSpec.upto orderNoEarlierSpec)

/-- 'pecialaw08.OrderReaches', WHERE WHAT IT READS IS OF BULK AT MOST 1048576: true; the input reads as it did. -/
def orderReachesUptoRow : OpenClaim := { program := "ytnfagcccgmakdaa", sum := "1742bd7bd9dc2280acff39dadff8e30a18a12f937766d9f6f590d9247f18c7bd", func := "pecia/pecialaw08.OrderReaches", spec := "orderReaches", unfollowed := true, recurses := true, apart := false, narrowed := true }
def OrderReachesUptoSaid : Prop := orderReachesUptoRow.holds Try.pinned (OpenSpec.upto orderReachesSpec)

/-- 'pecialaw08.OrderPacked', WHERE WHAT IT READS IS OF BULK AT MOST 1048576: true; the input reads as it did. -/
def orderPackedUptoRow : OpenClaim := { program := "ytnfagcccgmakdaa", sum := "1742bd7bd9dc2280acff39dadff8e30a18a12f937766d9f6f590d9247f18c7bd", func := "pecia/pecialaw08.OrderPacked", spec := "orderPacked", unfollowed := true, recurses := true, apart := false, narrowed := true }
def OrderPackedUptoSaid : Prop := orderPackedUptoRow.holds Try.pinned (OpenSpec.upto orderPackedSpec)

/-- 'pecialaw08.OrderDays', WHERE WHAT IT READS IS OF BULK AT MOST 1048576: true; the input reads as it did. -/
def orderDaysUptoRow : OpenClaim := { program := "ytnfagcccgmakdaa", sum := "1742bd7bd9dc2280acff39dadff8e30a18a12f937766d9f6f590d9247f18c7bd", func := "pecia/pecialaw08.OrderDays", spec := "orderDays", unfollowed := true, recurses := true, apart := false, narrowed := true }
def OrderDaysUptoSaid : Prop := orderDaysUptoRow.holds Try.pinned (OpenSpec.upto orderDaysSpec)

/-- 'pecialaw08.OrderHolds', WHERE WHAT IT READS IS OF BULK AT MOST 1048576: true; the input reads as it did. -/
def orderHoldsUptoRow : OpenClaim := { program := "ytnfagcccgmakdaa", sum := "1742bd7bd9dc2280acff39dadff8e30a18a12f937766d9f6f590d9247f18c7bd", func := "pecia/pecialaw08.OrderHolds", spec := "orderHolds", unfollowed := true, recurses := true, apart := false, narrowed := true }
def OrderHoldsUptoSaid : Prop := orderHoldsUptoRow.holds Try.pinned (OpenSpec.upto orderHoldsSpec)

/-- 'pecialaw08.OrderSlacks', WHERE WHAT IT READS IS OF BULK AT MOST 1048576: true; the input reads as it did. -/
def orderSlacksUptoRow : OpenClaim := { program := "ytnfagcccgmakdaa", sum := "1742bd7bd9dc2280acff39dadff8e30a18a12f937766d9f6f590d9247f18c7bd", func := "pecia/pecialaw08.OrderSlacks", spec := "orderSlacks", unfollowed := true, recurses := true, apart := false, narrowed := true }
def OrderSlacksUptoSaid : Prop := orderSlacksUptoRow.holds Try.pinned (OpenSpec.upto orderSlacksSpec)

/-- 'pecialaw08.OrderJohnson', WHERE WHAT IT READS IS OF BULK AT MOST 1048576: true; the input reads as it did. -/
def orderJohnsonUptoRow : OpenClaim := { program := "ytnfagcccgmakdaa", sum := "1742bd7bd9dc2280acff39dadff8e30a18a12f937766d9f6f590d9247f18c7bd", func := "pecia/pecialaw08.OrderJohnson", spec := "orderJohnson", unfollowed := true, recurses := true, apart := false, narrowed := true }
def OrderJohnsonUptoSaid : Prop := orderJohnsonUptoRow.holds Try.pinned (OpenSpec.upto orderJohnsonSpec)

/-- 'pecialaw08.OrderMerged', WHERE WHAT IT READS IS OF BULK AT MOST 1048576: true; the input reads as it did. -/
def orderMergedUptoRow : OpenClaim := { program := "ytnfagcccgmakdaa", sum := "1742bd7bd9dc2280acff39dadff8e30a18a12f937766d9f6f590d9247f18c7bd", func := "pecia/pecialaw08.OrderMerged", spec := "orderMerged", unfollowed := true, recurses := true, apart := false, narrowed := true }
def OrderMergedUptoSaid : Prop := orderMergedUptoRow.holds Try.pinned (OpenSpec.upto orderMergedSpec)

/-- 'pecialaw08.OrderFewest', WHERE WHAT IT READS IS OF BULK AT MOST 1048576: true; the input reads as it did. -/
def orderFewestUptoRow : OpenClaim := { program := "ytnfagcccgmakdaa", sum := "1742bd7bd9dc2280acff39dadff8e30a18a12f937766d9f6f590d9247f18c7bd", func := "pecia/pecialaw08.OrderFewest", spec := "orderFewest", unfollowed := true, recurses := true, apart := false, narrowed := true }
def OrderFewestUptoSaid : Prop := orderFewestUptoRow.holds Try.pinned (OpenSpec.upto orderFewestSpec)

end Rows
end Go.Proofs.Ytnfagcccgmakdaa
