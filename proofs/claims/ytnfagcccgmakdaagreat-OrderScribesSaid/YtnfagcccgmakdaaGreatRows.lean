/-
  No cell of these rows narrows 'for every input' (looked for: loops, veiled, ifaces, maps, wideKeys, modest, calm, conditions, laid).
  DERIVED. THE GIVEN ROWS OF THIS SEAT. 7 by the template 'for every input the law returns true; each argument reads behind the call as it read before'; 0 by the template 'total and deterministic' (their statements: YtnfagcccgmakdaaGreatTotals.lean).
  GIVEN WITH THE SEED: the statements are not yours to turn. If you find one false, say at which input.
  Laid BY PROGRAM, IN A SANDBOX (cutbox-rows.mjs): the forced cells as the released guide's own fill.sh prints them over the translation b266cf7dcb285574… (all of the seat's roots in one cut). By AI agents, Wed Nov 11 2026. No macro, syntax, notation, axiom, sorry.
-/
import Derived.Test.YtnfagcccgmakdaaGreatChecked
import GoSem.Claim
import GoSem.ClaimJoined
import GoSem.ClaimMapViews
import Derived.JoinedTies
import Derived.KernelRfl
namespace Go.Proofs.YtnfagcccgmakdaaGreat
/- THE CELL 'sum', in the pinned program and in every row, IS THE sha256 OF THE DUMP (.gsa) THAT YtnfagcccgmakdaaGreatProg.lean LOADS. Nothing in Lean hashes anything: it is a label: what it is worth is what the hold of that sum in a sandbox is worth. -/
noncomputable def Tryz.pinned : Pinned := { name := "ytnfagcccgmakdaagreat", sum := "b266cf7dcb285574445c1384308bb931254fc8d76ec6e7d499496e7ed4719c4c", checked := Tryz.checked }
namespace Rows
def none {H : Type} : Left H := { results := [], args := [] }

/-- 'pecialaw08.OrderTimes': WHATEVER THE INPUT: true; the input reads as it did. -/
def orderTimesSpec : ChangeSpec := { name := "orderTimes", fn := fun _ => fun
  | [d] => { results := [.lit (.bool true)], args := [d] }
  | _ => none }
def orderTimesRow : OpenClaim := { program := "ytnfagcccgmakdaagreat", sum := "b266cf7dcb285574445c1384308bb931254fc8d76ec6e7d499496e7ed4719c4c", func := "pecia/pecialaw08.OrderTimes", spec := "orderTimes", unfollowed := true, recurses := true, apart := false }
def OrderTimesSaid : Prop := orderTimesRow.holds Tryz.pinned (OpenSpec.ofChange orderTimesSpec)

/-- ITS FALSE NEIGHBOUR: 'it returns false'. Refute it at one input. -/
def orderTimesWrong : ChangeSpec := { name := "orderTimes", fn := fun _ => fun
  | [d] => { results := [.lit (.bool false)], args := [d] }
  | _ => none }
def OrderTimesWrongFalsely : Prop := orderTimesRow.holds Tryz.pinned (OpenSpec.ofChange orderTimesWrong)

/-- 'pecialaw08.OrderLater': WHATEVER THE INPUT: true; the input reads as it did. -/
def orderLaterSpec : ChangeSpec := { name := "orderLater", fn := fun _ => fun
  | [d1, d2, d3, d4] => { results := [.lit (.bool true)], args := [d1, d2, d3, d4] }
  | _ => none }
def orderLaterRow : OpenClaim := { program := "ytnfagcccgmakdaagreat", sum := "b266cf7dcb285574445c1384308bb931254fc8d76ec6e7d499496e7ed4719c4c", func := "pecia/pecialaw08.OrderLater", spec := "orderLater", unfollowed := true, recurses := true, apart := false }
def OrderLaterSaid : Prop := orderLaterRow.holds Tryz.pinned (OpenSpec.ofChange orderLaterSpec)

/-- ITS FALSE NEIGHBOUR: 'it returns false'. Refute it at one input. -/
def orderLaterWrong : ChangeSpec := { name := "orderLater", fn := fun _ => fun
  | [d1, d2, d3, d4] => { results := [.lit (.bool false)], args := [d1, d2, d3, d4] }
  | _ => none }
def OrderLaterWrongFalsely : Prop := orderLaterRow.holds Tryz.pinned (OpenSpec.ofChange orderLaterWrong)

/-- 'pecialaw08.OrderCopies': WHATEVER THE INPUT: true; the input reads as it did. -/
def orderCopiesSpec : ChangeSpec := { name := "orderCopies", fn := fun _ => fun
  | [d1, d2, d3] => { results := [.lit (.bool true)], args := [d1, d2, d3] }
  | _ => none }
def orderCopiesRow : OpenClaim := { program := "ytnfagcccgmakdaagreat", sum := "b266cf7dcb285574445c1384308bb931254fc8d76ec6e7d499496e7ed4719c4c", func := "pecia/pecialaw08.OrderCopies", spec := "orderCopies", unfollowed := true, recurses := true, apart := false }
def OrderCopiesSaid : Prop := orderCopiesRow.holds Tryz.pinned (OpenSpec.ofChange orderCopiesSpec)

/-- ITS FALSE NEIGHBOUR: 'it returns false'. Refute it at one input. -/
def orderCopiesWrong : ChangeSpec := { name := "orderCopies", fn := fun _ => fun
  | [d1, d2, d3] => { results := [.lit (.bool false)], args := [d1, d2, d3] }
  | _ => none }
def OrderCopiesWrongFalsely : Prop := orderCopiesRow.holds Tryz.pinned (OpenSpec.ofChange orderCopiesWrong)

/-- 'pecialaw08.OrderScribes': WHATEVER THE INPUT: true; the input reads as it did. -/
def orderScribesSpec : ChangeSpec := { name := "orderScribes", fn := fun _ => fun
  | [d1, d2, d3] => { results := [.lit (.bool true)], args := [d1, d2, d3] }
  | _ => none }
def orderScribesRow : OpenClaim := { program := "ytnfagcccgmakdaagreat", sum := "b266cf7dcb285574445c1384308bb931254fc8d76ec6e7d499496e7ed4719c4c", func := "pecia/pecialaw08.OrderScribes", spec := "orderScribes", unfollowed := true, recurses := true, apart := false }
def OrderScribesSaid : Prop := orderScribesRow.holds Tryz.pinned (OpenSpec.ofChange orderScribesSpec)

/-- ITS FALSE NEIGHBOUR: 'it returns false'. Refute it at one input. -/
def orderScribesWrong : ChangeSpec := { name := "orderScribes", fn := fun _ => fun
  | [d1, d2, d3] => { results := [.lit (.bool false)], args := [d1, d2, d3] }
  | _ => none }
def OrderScribesWrongFalsely : Prop := orderScribesRow.holds Tryz.pinned (OpenSpec.ofChange orderScribesWrong)

/-- 'pecialaw08.OrderPathsProve': WHATEVER THE INPUT: true; the input reads as it did. -/
def orderPathsProveSpec : ChangeSpec := { name := "orderPathsProve", fn := fun _ => fun
  | [d1, d2, d3, d4, d5] => { results := [.lit (.bool true)], args := [d1, d2, d3, d4, d5] }
  | _ => none }
def orderPathsProveRow : OpenClaim := { program := "ytnfagcccgmakdaagreat", sum := "b266cf7dcb285574445c1384308bb931254fc8d76ec6e7d499496e7ed4719c4c", func := "pecia/pecialaw08.OrderPathsProve", spec := "orderPathsProve", unfollowed := true, recurses := true, apart := false }
def OrderPathsProveSaid : Prop := orderPathsProveRow.holds Tryz.pinned (OpenSpec.ofChange orderPathsProveSpec)

/-- ITS FALSE NEIGHBOUR: 'it returns false'. Refute it at one input. -/
def orderPathsProveWrong : ChangeSpec := { name := "orderPathsProve", fn := fun _ => fun
  | [d1, d2, d3, d4, d5] => { results := [.lit (.bool false)], args := [d1, d2, d3, d4, d5] }
  | _ => none }
def OrderPathsProveWrongFalsely : Prop := orderPathsProveRow.holds Tryz.pinned (OpenSpec.ofChange orderPathsProveWrong)

/-- 'pecialaw08.OrderPaths': WHATEVER THE INPUT: true; the input reads as it did. -/
def orderPathsSpec : ChangeSpec := { name := "orderPaths", fn := fun _ => fun
  | [d1, d2, d3, d4] => { results := [.lit (.bool true)], args := [d1, d2, d3, d4] }
  | _ => none }
def orderPathsRow : OpenClaim := { program := "ytnfagcccgmakdaagreat", sum := "b266cf7dcb285574445c1384308bb931254fc8d76ec6e7d499496e7ed4719c4c", func := "pecia/pecialaw08.OrderPaths", spec := "orderPaths", unfollowed := true, recurses := true, apart := false }
def OrderPathsSaid : Prop := orderPathsRow.holds Tryz.pinned (OpenSpec.ofChange orderPathsSpec)

/-- ITS FALSE NEIGHBOUR: 'it returns false'. Refute it at one input. -/
def orderPathsWrong : ChangeSpec := { name := "orderPaths", fn := fun _ => fun
  | [d1, d2, d3, d4] => { results := [.lit (.bool false)], args := [d1, d2, d3, d4] }
  | _ => none }
def OrderPathsWrongFalsely : Prop := orderPathsRow.holds Tryz.pinned (OpenSpec.ofChange orderPathsWrong)

/-- 'pecialaw08.OrderFewer': WHATEVER THE INPUT: true; the input reads as it did. -/
def orderFewerSpec : ChangeSpec := { name := "orderFewer", fn := fun _ => fun
  | [d1, d2, d3] => { results := [.lit (.bool true)], args := [d1, d2, d3] }
  | _ => none }
def orderFewerRow : OpenClaim := { program := "ytnfagcccgmakdaagreat", sum := "b266cf7dcb285574445c1384308bb931254fc8d76ec6e7d499496e7ed4719c4c", func := "pecia/pecialaw08.OrderFewer", spec := "orderFewer", unfollowed := true, recurses := true, apart := false }
def OrderFewerSaid : Prop := orderFewerRow.holds Tryz.pinned (OpenSpec.ofChange orderFewerSpec)

/-- ITS FALSE NEIGHBOUR: 'it returns false'. Refute it at one input. -/
def orderFewerWrong : ChangeSpec := { name := "orderFewer", fn := fun _ => fun
  | [d1, d2, d3] => { results := [.lit (.bool false)], args := [d1, d2, d3] }
  | _ => none }
def OrderFewerWrongFalsely : Prop := orderFewerRow.holds Tryz.pinned (OpenSpec.ofChange orderFewerWrong)

/- THE SECOND FORM. 'bulk': how many values and letters a reading holds, each counted each time it is reached (what is shared counts as often as it is met; a slice's spare places count too). A statement '..UptoSaid' is the law's where the arguments, and the package variables that the reading takes, are together of bulk at most 1048576: NARROWER than '..Said'. Prove '..Said' where nothing that the law and all that it calls make is longer than what came in: it says more and counts as full. Else prove '..UptoSaid'. A law counts once. -/
mutual
def uptoBulk {H : Type} : DataW H → Nat
  | .lit (.string bytes) => bytes.length + 1
  | .lit _ => 1
  | .nil => 1
  | .ptr d => uptoBulk d + 1
  | .slice elems spare => uptoBulkAll elems + uptoBulkAll spare + 1
  | .agg parts => uptoBulkAll parts + 1
  | .iface _ d => uptoBulk d + 1
  | .map entries => uptoBulkEntries entries + 1
  | .held _ => 1
def uptoBulkAll {H : Type} : List (DataW H) → Nat
  | [] => 0
  | d :: r => uptoBulk d + uptoBulkAll r
def uptoBulkEntries {H : Type} : List (Lit × DataW H) → Nat
  | [] => 0
  | x :: r => uptoBulkEntry x + uptoBulkEntries r
def uptoBulkEntry {H : Type} : Lit × DataW H → Nat
  | (.string bytes, d) => bytes.length + uptoBulk d + 1
  | (_, d) => uptoBulk d + 1
 end
def uptoSmall : (H : Type) → List (DataW H) → Bool := fun _ ds => decide (uptoBulkAll ds ≤ 1048576)
def OpenSpec.upto (s : _root_.Go.ChangeSpec) : _root_.Go.OpenSpec := { _root_.Go.OpenSpec.ofChange s with cond := some uptoSmall }

/-- 'pecialaw08.OrderTimes', WHERE WHAT IT READS IS OF BULK AT MOST 1048576: true; the input reads as it did. -/
def orderTimesUptoRow : OpenClaim := { program := "ytnfagcccgmakdaagreat", sum := "b266cf7dcb285574445c1384308bb931254fc8d76ec6e7d499496e7ed4719c4c", func := "pecia/pecialaw08.OrderTimes", spec := "orderTimes", unfollowed := true, recurses := true, apart := false, narrowed := true }
def OrderTimesUptoSaid : Prop := orderTimesUptoRow.holds Tryz.pinned (OpenSpec.upto orderTimesSpec)

/-- 'pecialaw08.OrderLater', WHERE WHAT IT READS IS OF BULK AT MOST 1048576: true; the input reads as it did. -/
def orderLaterUptoRow : OpenClaim := { program := "ytnfagcccgmakdaagreat", sum := "b266cf7dcb285574445c1384308bb931254fc8d76ec6e7d499496e7ed4719c4c", func := "pecia/pecialaw08.OrderLater", spec := "orderLater", unfollowed := true, recurses := true, apart := false, narrowed := true }
def OrderLaterUptoSaid : Prop := orderLaterUptoRow.holds Tryz.pinned (OpenSpec.upto orderLaterSpec)

/-- 'pecialaw08.OrderCopies', WHERE WHAT IT READS IS OF BULK AT MOST 1048576: true; the input reads as it did. -/
def orderCopiesUptoRow : OpenClaim := { program := "ytnfagcccgmakdaagreat", sum := "b266cf7dcb285574445c1384308bb931254fc8d76ec6e7d499496e7ed4719c4c", func := "pecia/pecialaw08.OrderCopies", spec := "orderCopies", unfollowed := true, recurses := true, apart := false, narrowed := true }
def OrderCopiesUptoSaid : Prop := orderCopiesUptoRow.holds Tryz.pinned (OpenSpec.upto orderCopiesSpec)

/-- 'pecialaw08.OrderScribes', WHERE WHAT IT READS IS OF BULK AT MOST 1048576: true; the input reads as it did. -/
def orderScribesUptoRow : OpenClaim := { program := "ytnfagcccgmakdaagreat", sum := "b266cf7dcb285574445c1384308bb931254fc8d76ec6e7d499496e7ed4719c4c", func := "pecia/pecialaw08.OrderScribes", spec := "orderScribes", unfollowed := true, recurses := true, apart := false, narrowed := true }
def OrderScribesUptoSaid : Prop := orderScribesUptoRow.holds Tryz.pinned (OpenSpec.upto orderScribesSpec)

/-- 'pecialaw08.OrderPathsProve', WHERE WHAT IT READS IS OF BULK AT MOST 1048576: true; the input reads as it did. -/
def orderPathsProveUptoRow : OpenClaim := { program := "ytnfagcccgmakdaagreat", sum := "b266cf7dcb285574445c1384308bb931254fc8d76ec6e7d499496e7ed4719c4c", func := "pecia/pecialaw08.OrderPathsProve", spec := "orderPathsProve", unfollowed := true, recurses := true, apart := false, narrowed := true }
def OrderPathsProveUptoSaid : Prop := orderPathsProveUptoRow.holds Tryz.pinned (OpenSpec.upto orderPathsProveSpec)

/-- 'pecialaw08.OrderPaths', WHERE WHAT IT READS IS OF BULK AT MOST 1048576: true; the input reads as it did. -/
def orderPathsUptoRow : OpenClaim := { program := "ytnfagcccgmakdaagreat", sum := "b266cf7dcb285574445c1384308bb931254fc8d76ec6e7d499496e7ed4719c4c", func := "pecia/pecialaw08.OrderPaths", spec := "orderPaths", unfollowed := true, recurses := true, apart := false, narrowed := true }
def OrderPathsUptoSaid : Prop := orderPathsUptoRow.holds Tryz.pinned (OpenSpec.upto orderPathsSpec)

/-- 'pecialaw08.OrderFewer', WHERE WHAT IT READS IS OF BULK AT MOST 1048576: true; the input reads as it did. -/
def orderFewerUptoRow : OpenClaim := { program := "ytnfagcccgmakdaagreat", sum := "b266cf7dcb285574445c1384308bb931254fc8d76ec6e7d499496e7ed4719c4c", func := "pecia/pecialaw08.OrderFewer", spec := "orderFewer", unfollowed := true, recurses := true, apart := false, narrowed := true }
def OrderFewerUptoSaid : Prop := orderFewerUptoRow.holds Tryz.pinned (OpenSpec.upto orderFewerSpec)

end Rows
end Go.Proofs.YtnfagcccgmakdaaGreat
