/-
  No cell of these rows narrows 'for every input' (looked for: loops, veiled, ifaces, maps, wideKeys, modest, calm, conditions, laid).
  DERIVED. THE GIVEN ROWS OF THIS SEAT. 19 by the template 'for every input the law returns true; each argument reads behind the call as it read before'; 0 by the template 'total and deterministic' (their statements: YtnjajbkkgfohaaaTotals.lean).
  GIVEN WITH THE SEED: the statements are not yours to turn. If you find one false, say at which input.
  Laid BY PROGRAM, IN A SANDBOX (cutbox-rows.mjs): the forced cells as the released guide's own fill.sh prints them over the translation 867c0efd91a21125… (all of the seat's roots in one cut). By AI agents, Wed Nov 11 2026. No macro, syntax, notation, axiom, sorry.
-/
import Derived.Test.YtnjajbkkgfohaaaChecked
import GoSem.Claim
import GoSem.ClaimJoined
import GoSem.ClaimMapViews
import Derived.JoinedTies
import Derived.KernelRfl
namespace Go.Proofs.Ytnjajbkkgfohaaa
/- THE CELL 'sum', in the pinned program and in every row, IS THE sha256 OF THE DUMP (.gsa) THAT YtnjajbkkgfohaaaProg.lean LOADS. Nothing in Lean hashes anything: it is a label: what it is worth is what the hold of that sum in a sandbox is worth. -/
noncomputable def Try.pinned : Pinned := { name := "ytnjajbkkgfohaaa", sum := "867c0efd91a21125fbd006c1b9b14e0aa11756bc648399189f28fe86fabbea35", checked := Try.checked }
namespace Rows
def none {H : Type} : Left H := { results := [], args := [] }

/-- 'pecialaw03.StateReads': WHATEVER THE INPUT: true; the input reads as it did. -/
def stateReadsSpec : ChangeSpec := { name := "stateReads", fn := fun _ => fun
  | [d1, d2, d3, d4, d5] => { results := [.lit (.bool true)], args := [d1, d2, d3, d4, d5] }
  | _ => none }
def stateReadsRow : OpenClaim := { program := "ytnjajbkkgfohaaa", sum := "867c0efd91a21125fbd006c1b9b14e0aa11756bc648399189f28fe86fabbea35", func := "pecia/pecialaw03.StateReads", spec := "stateReads", unfollowed := true, recurses := true, apart := false }
def StateReadsSaid : Prop := stateReadsRow.holds Try.pinned (OpenSpec.ofChange stateReadsSpec)

/-- ITS FALSE NEIGHBOUR: 'it returns false'. Refute it at one input. -/
def stateReadsWrong : ChangeSpec := { name := "stateReads", fn := fun _ => fun
  | [d1, d2, d3, d4, d5] => { results := [.lit (.bool false)], args := [d1, d2, d3, d4, d5] }
  | _ => none }
def StateReadsWrongFalsely : Prop := stateReadsRow.holds Try.pinned (OpenSpec.ofChange stateReadsWrong)

/-- 'pecialaw03.StateWords': WHATEVER THE INPUT: true; the input reads as it did. -/
def stateWordsSpec : ChangeSpec := { name := "stateWords", fn := fun _ => fun
  | [d1, d2, d3, d4] => { results := [.lit (.bool true)], args := [d1, d2, d3, d4] }
  | _ => none }
def stateWordsRow : OpenClaim := { program := "ytnjajbkkgfohaaa", sum := "867c0efd91a21125fbd006c1b9b14e0aa11756bc648399189f28fe86fabbea35", func := "pecia/pecialaw03.StateWords", spec := "stateWords", unfollowed := true, recurses := true, apart := false }
def StateWordsSaid : Prop := stateWordsRow.holds Try.pinned (OpenSpec.ofChange stateWordsSpec)

/-- ITS FALSE NEIGHBOUR: 'it returns false'. Refute it at one input. -/
def stateWordsWrong : ChangeSpec := { name := "stateWords", fn := fun _ => fun
  | [d1, d2, d3, d4] => { results := [.lit (.bool false)], args := [d1, d2, d3, d4] }
  | _ => none }
def StateWordsWrongFalsely : Prop := stateWordsRow.holds Try.pinned (OpenSpec.ofChange stateWordsWrong)

/-- 'pecialaw03.StateFits': WHATEVER THE INPUT: true; the input reads as it did. -/
def stateFitsSpec : ChangeSpec := { name := "stateFits", fn := fun _ => fun
  | [d1, d2, d3] => { results := [.lit (.bool true)], args := [d1, d2, d3] }
  | _ => none }
def stateFitsRow : OpenClaim := { program := "ytnjajbkkgfohaaa", sum := "867c0efd91a21125fbd006c1b9b14e0aa11756bc648399189f28fe86fabbea35", func := "pecia/pecialaw03.StateFits", spec := "stateFits", unfollowed := true, recurses := true, apart := false }
def StateFitsSaid : Prop := stateFitsRow.holds Try.pinned (OpenSpec.ofChange stateFitsSpec)

/-- ITS FALSE NEIGHBOUR: 'it returns false'. Refute it at one input. -/
def stateFitsWrong : ChangeSpec := { name := "stateFits", fn := fun _ => fun
  | [d1, d2, d3] => { results := [.lit (.bool false)], args := [d1, d2, d3] }
  | _ => none }
def StateFitsWrongFalsely : Prop := stateFitsRow.holds Try.pinned (OpenSpec.ofChange stateFitsWrong)

/-- 'pecialaw03.StateLines': WHATEVER THE INPUT: true; the input reads as it did. -/
def stateLinesSpec : ChangeSpec := { name := "stateLines", fn := fun _ => fun
  | [d1, d2, d3, d4] => { results := [.lit (.bool true)], args := [d1, d2, d3, d4] }
  | _ => none }
def stateLinesRow : OpenClaim := { program := "ytnjajbkkgfohaaa", sum := "867c0efd91a21125fbd006c1b9b14e0aa11756bc648399189f28fe86fabbea35", func := "pecia/pecialaw03.StateLines", spec := "stateLines", unfollowed := true, recurses := true, apart := false }
def StateLinesSaid : Prop := stateLinesRow.holds Try.pinned (OpenSpec.ofChange stateLinesSpec)

/-- ITS FALSE NEIGHBOUR: 'it returns false'. Refute it at one input. -/
def stateLinesWrong : ChangeSpec := { name := "stateLines", fn := fun _ => fun
  | [d1, d2, d3, d4] => { results := [.lit (.bool false)], args := [d1, d2, d3, d4] }
  | _ => none }
def StateLinesWrongFalsely : Prop := stateLinesRow.holds Try.pinned (OpenSpec.ofChange stateLinesWrong)

/-- 'pecialaw03.StateLattice': WHATEVER THE INPUT: true; the input reads as it did. -/
def stateLatticeSpec : ChangeSpec := { name := "stateLattice", fn := fun _ => fun
  | [d1, d2, d3, d4] => { results := [.lit (.bool true)], args := [d1, d2, d3, d4] }
  | _ => none }
def stateLatticeRow : OpenClaim := { program := "ytnjajbkkgfohaaa", sum := "867c0efd91a21125fbd006c1b9b14e0aa11756bc648399189f28fe86fabbea35", func := "pecia/pecialaw03.StateLattice", spec := "stateLattice", unfollowed := true, recurses := true, apart := false }
def StateLatticeSaid : Prop := stateLatticeRow.holds Try.pinned (OpenSpec.ofChange stateLatticeSpec)

/-- ITS FALSE NEIGHBOUR: 'it returns false'. Refute it at one input. -/
def stateLatticeWrong : ChangeSpec := { name := "stateLattice", fn := fun _ => fun
  | [d1, d2, d3, d4] => { results := [.lit (.bool false)], args := [d1, d2, d3, d4] }
  | _ => none }
def StateLatticeWrongFalsely : Prop := stateLatticeRow.holds Try.pinned (OpenSpec.ofChange stateLatticeWrong)

/-- 'pecialaw03.StateNarrows': WHATEVER THE INPUT: true; the input reads as it did. -/
def stateNarrowsSpec : ChangeSpec := { name := "stateNarrows", fn := fun _ => fun
  | [d1, d2, d3, d4, d5] => { results := [.lit (.bool true)], args := [d1, d2, d3, d4, d5] }
  | _ => none }
def stateNarrowsRow : OpenClaim := { program := "ytnjajbkkgfohaaa", sum := "867c0efd91a21125fbd006c1b9b14e0aa11756bc648399189f28fe86fabbea35", func := "pecia/pecialaw03.StateNarrows", spec := "stateNarrows", unfollowed := true, recurses := true, apart := false }
def StateNarrowsSaid : Prop := stateNarrowsRow.holds Try.pinned (OpenSpec.ofChange stateNarrowsSpec)

/-- ITS FALSE NEIGHBOUR: 'it returns false'. Refute it at one input. -/
def stateNarrowsWrong : ChangeSpec := { name := "stateNarrows", fn := fun _ => fun
  | [d1, d2, d3, d4, d5] => { results := [.lit (.bool false)], args := [d1, d2, d3, d4, d5] }
  | _ => none }
def StateNarrowsWrongFalsely : Prop := stateNarrowsRow.holds Try.pinned (OpenSpec.ofChange stateNarrowsWrong)

/-- 'pecialaw03.StateTrue': WHATEVER THE INPUT: true; the input reads as it did. -/
def stateTrueSpec : ChangeSpec := { name := "stateTrue", fn := fun _ => fun
  | [d1, d2, d3, d4, d5] => { results := [.lit (.bool true)], args := [d1, d2, d3, d4, d5] }
  | _ => none }
def stateTrueRow : OpenClaim := { program := "ytnjajbkkgfohaaa", sum := "867c0efd91a21125fbd006c1b9b14e0aa11756bc648399189f28fe86fabbea35", func := "pecia/pecialaw03.StateTrue", spec := "stateTrue", unfollowed := true, recurses := true, apart := false }
def StateTrueSaid : Prop := stateTrueRow.holds Try.pinned (OpenSpec.ofChange stateTrueSpec)

/-- ITS FALSE NEIGHBOUR: 'it returns false'. Refute it at one input. -/
def stateTrueWrong : ChangeSpec := { name := "stateTrue", fn := fun _ => fun
  | [d1, d2, d3, d4, d5] => { results := [.lit (.bool false)], args := [d1, d2, d3, d4, d5] }
  | _ => none }
def StateTrueWrongFalsely : Prop := stateTrueRow.holds Try.pinned (OpenSpec.ofChange stateTrueWrong)

/-- 'pecialaw03.StateOrder': WHATEVER THE INPUT: true; the input reads as it did. -/
def stateOrderSpec : ChangeSpec := { name := "stateOrder", fn := fun _ => fun
  | [d1, d2, d3] => { results := [.lit (.bool true)], args := [d1, d2, d3] }
  | _ => none }
def stateOrderRow : OpenClaim := { program := "ytnjajbkkgfohaaa", sum := "867c0efd91a21125fbd006c1b9b14e0aa11756bc648399189f28fe86fabbea35", func := "pecia/pecialaw03.StateOrder", spec := "stateOrder", unfollowed := true, recurses := true, apart := false }
def StateOrderSaid : Prop := stateOrderRow.holds Try.pinned (OpenSpec.ofChange stateOrderSpec)

/-- ITS FALSE NEIGHBOUR: 'it returns false'. Refute it at one input. -/
def stateOrderWrong : ChangeSpec := { name := "stateOrder", fn := fun _ => fun
  | [d1, d2, d3] => { results := [.lit (.bool false)], args := [d1, d2, d3] }
  | _ => none }
def StateOrderWrongFalsely : Prop := stateOrderRow.holds Try.pinned (OpenSpec.ofChange stateOrderWrong)

/-- 'pecialaw03.StateSees': WHATEVER THE INPUT: true; the input reads as it did. -/
def stateSeesSpec : ChangeSpec := { name := "stateSees", fn := fun _ => fun
  | [d1, d2, d3] => { results := [.lit (.bool true)], args := [d1, d2, d3] }
  | _ => none }
def stateSeesRow : OpenClaim := { program := "ytnjajbkkgfohaaa", sum := "867c0efd91a21125fbd006c1b9b14e0aa11756bc648399189f28fe86fabbea35", func := "pecia/pecialaw03.StateSees", spec := "stateSees", unfollowed := true, recurses := true, apart := false }
def StateSeesSaid : Prop := stateSeesRow.holds Try.pinned (OpenSpec.ofChange stateSeesSpec)

/-- ITS FALSE NEIGHBOUR: 'it returns false'. Refute it at one input. -/
def stateSeesWrong : ChangeSpec := { name := "stateSees", fn := fun _ => fun
  | [d1, d2, d3] => { results := [.lit (.bool false)], args := [d1, d2, d3] }
  | _ => none }
def StateSeesWrongFalsely : Prop := stateSeesRow.holds Try.pinned (OpenSpec.ofChange stateSeesWrong)

/-- 'pecialaw03.StateFollows': WHATEVER THE INPUT: true; the input reads as it did. -/
def stateFollowsSpec : ChangeSpec := { name := "stateFollows", fn := fun _ => fun
  | [d1, d2, d3] => { results := [.lit (.bool true)], args := [d1, d2, d3] }
  | _ => none }
def stateFollowsRow : OpenClaim := { program := "ytnjajbkkgfohaaa", sum := "867c0efd91a21125fbd006c1b9b14e0aa11756bc648399189f28fe86fabbea35", func := "pecia/pecialaw03.StateFollows", spec := "stateFollows", unfollowed := true, recurses := true, apart := false }
def StateFollowsSaid : Prop := stateFollowsRow.holds Try.pinned (OpenSpec.ofChange stateFollowsSpec)

/-- ITS FALSE NEIGHBOUR: 'it returns false'. Refute it at one input. -/
def stateFollowsWrong : ChangeSpec := { name := "stateFollows", fn := fun _ => fun
  | [d1, d2, d3] => { results := [.lit (.bool false)], args := [d1, d2, d3] }
  | _ => none }
def StateFollowsWrongFalsely : Prop := stateFollowsRow.holds Try.pinned (OpenSpec.ofChange stateFollowsWrong)

/-- 'pecialaw03.StateSources': WHATEVER THE INPUT: true; the input reads as it did. -/
def stateSourcesSpec : ChangeSpec := { name := "stateSources", fn := fun _ => fun
  | [d1, d2] => { results := [.lit (.bool true)], args := [d1, d2] }
  | _ => none }
def stateSourcesRow : OpenClaim := { program := "ytnjajbkkgfohaaa", sum := "867c0efd91a21125fbd006c1b9b14e0aa11756bc648399189f28fe86fabbea35", func := "pecia/pecialaw03.StateSources", spec := "stateSources", unfollowed := true, recurses := true, apart := false }
def StateSourcesSaid : Prop := stateSourcesRow.holds Try.pinned (OpenSpec.ofChange stateSourcesSpec)

/-- ITS FALSE NEIGHBOUR: 'it returns false'. Refute it at one input. -/
def stateSourcesWrong : ChangeSpec := { name := "stateSources", fn := fun _ => fun
  | [d1, d2] => { results := [.lit (.bool false)], args := [d1, d2] }
  | _ => none }
def StateSourcesWrongFalsely : Prop := stateSourcesRow.holds Try.pinned (OpenSpec.ofChange stateSourcesWrong)

/-- 'pecialaw03.StateUnseen': WHATEVER THE INPUT: true; the input reads as it did. -/
def stateUnseenSpec : ChangeSpec := { name := "stateUnseen", fn := fun _ => fun
  | [d1, d2, d3] => { results := [.lit (.bool true)], args := [d1, d2, d3] }
  | _ => none }
def stateUnseenRow : OpenClaim := { program := "ytnjajbkkgfohaaa", sum := "867c0efd91a21125fbd006c1b9b14e0aa11756bc648399189f28fe86fabbea35", func := "pecia/pecialaw03.StateUnseen", spec := "stateUnseen", unfollowed := true, recurses := true, apart := false }
def StateUnseenSaid : Prop := stateUnseenRow.holds Try.pinned (OpenSpec.ofChange stateUnseenSpec)

/-- ITS FALSE NEIGHBOUR: 'it returns false'. Refute it at one input. -/
def stateUnseenWrong : ChangeSpec := { name := "stateUnseen", fn := fun _ => fun
  | [d1, d2, d3] => { results := [.lit (.bool false)], args := [d1, d2, d3] }
  | _ => none }
def StateUnseenWrongFalsely : Prop := stateUnseenRow.holds Try.pinned (OpenSpec.ofChange stateUnseenWrong)

/-- 'pecialaw03.StateRests': WHATEVER THE INPUT: true; the input reads as it did. -/
def stateRestsSpec : ChangeSpec := { name := "stateRests", fn := fun _ => fun
  | [d1, d2] => { results := [.lit (.bool true)], args := [d1, d2] }
  | _ => none }
def stateRestsRow : OpenClaim := { program := "ytnjajbkkgfohaaa", sum := "867c0efd91a21125fbd006c1b9b14e0aa11756bc648399189f28fe86fabbea35", func := "pecia/pecialaw03.StateRests", spec := "stateRests", unfollowed := true, recurses := true, apart := false }
def StateRestsSaid : Prop := stateRestsRow.holds Try.pinned (OpenSpec.ofChange stateRestsSpec)

/-- ITS FALSE NEIGHBOUR: 'it returns false'. Refute it at one input. -/
def stateRestsWrong : ChangeSpec := { name := "stateRests", fn := fun _ => fun
  | [d1, d2] => { results := [.lit (.bool false)], args := [d1, d2] }
  | _ => none }
def StateRestsWrongFalsely : Prop := stateRestsRow.holds Try.pinned (OpenSpec.ofChange stateRestsWrong)

/-- 'pecialaw03.StateOrders': WHATEVER THE INPUT: true; the input reads as it did. -/
def stateOrdersSpec : ChangeSpec := { name := "stateOrders", fn := fun _ => fun
  | [d1, d2, d3, d4, d5] => { results := [.lit (.bool true)], args := [d1, d2, d3, d4, d5] }
  | _ => none }
def stateOrdersRow : OpenClaim := { program := "ytnjajbkkgfohaaa", sum := "867c0efd91a21125fbd006c1b9b14e0aa11756bc648399189f28fe86fabbea35", func := "pecia/pecialaw03.StateOrders", spec := "stateOrders", unfollowed := true, recurses := true, apart := false }
def StateOrdersSaid : Prop := stateOrdersRow.holds Try.pinned (OpenSpec.ofChange stateOrdersSpec)

/-- ITS FALSE NEIGHBOUR: 'it returns false'. Refute it at one input. -/
def stateOrdersWrong : ChangeSpec := { name := "stateOrders", fn := fun _ => fun
  | [d1, d2, d3, d4, d5] => { results := [.lit (.bool false)], args := [d1, d2, d3, d4, d5] }
  | _ => none }
def StateOrdersWrongFalsely : Prop := stateOrdersRow.holds Try.pinned (OpenSpec.ofChange stateOrdersWrong)

/-- 'pecialaw03.StateClashes': WHATEVER THE INPUT: true; the input reads as it did. -/
def stateClashesSpec : ChangeSpec := { name := "stateClashes", fn := fun _ => fun
  | [d1, d2, d3, d4] => { results := [.lit (.bool true)], args := [d1, d2, d3, d4] }
  | _ => none }
def stateClashesRow : OpenClaim := { program := "ytnjajbkkgfohaaa", sum := "867c0efd91a21125fbd006c1b9b14e0aa11756bc648399189f28fe86fabbea35", func := "pecia/pecialaw03.StateClashes", spec := "stateClashes", unfollowed := true, recurses := true, apart := false }
def StateClashesSaid : Prop := stateClashesRow.holds Try.pinned (OpenSpec.ofChange stateClashesSpec)

/-- ITS FALSE NEIGHBOUR: 'it returns false'. Refute it at one input. -/
def stateClashesWrong : ChangeSpec := { name := "stateClashes", fn := fun _ => fun
  | [d1, d2, d3, d4] => { results := [.lit (.bool false)], args := [d1, d2, d3, d4] }
  | _ => none }
def StateClashesWrongFalsely : Prop := stateClashesRow.holds Try.pinned (OpenSpec.ofChange stateClashesWrong)

/-- 'pecialaw03.StateProves': WHATEVER THE INPUT: true; the input reads as it did. -/
def stateProvesSpec : ChangeSpec := { name := "stateProves", fn := fun _ => fun
  | [d1, d2, d3, d4, d5] => { results := [.lit (.bool true)], args := [d1, d2, d3, d4, d5] }
  | _ => none }
def stateProvesRow : OpenClaim := { program := "ytnjajbkkgfohaaa", sum := "867c0efd91a21125fbd006c1b9b14e0aa11756bc648399189f28fe86fabbea35", func := "pecia/pecialaw03.StateProves", spec := "stateProves", unfollowed := true, recurses := true, apart := false }
def StateProvesSaid : Prop := stateProvesRow.holds Try.pinned (OpenSpec.ofChange stateProvesSpec)

/-- ITS FALSE NEIGHBOUR: 'it returns false'. Refute it at one input. -/
def stateProvesWrong : ChangeSpec := { name := "stateProves", fn := fun _ => fun
  | [d1, d2, d3, d4, d5] => { results := [.lit (.bool false)], args := [d1, d2, d3, d4, d5] }
  | _ => none }
def StateProvesWrongFalsely : Prop := stateProvesRow.holds Try.pinned (OpenSpec.ofChange stateProvesWrong)

/-- 'pecialaw03.StateEnds': WHATEVER THE INPUT: true; the input reads as it did. -/
def stateEndsSpec : ChangeSpec := { name := "stateEnds", fn := fun _ => fun
  | [d1, d2, d3, d4] => { results := [.lit (.bool true)], args := [d1, d2, d3, d4] }
  | _ => none }
def stateEndsRow : OpenClaim := { program := "ytnjajbkkgfohaaa", sum := "867c0efd91a21125fbd006c1b9b14e0aa11756bc648399189f28fe86fabbea35", func := "pecia/pecialaw03.StateEnds", spec := "stateEnds", unfollowed := true, recurses := true, apart := false }
def StateEndsSaid : Prop := stateEndsRow.holds Try.pinned (OpenSpec.ofChange stateEndsSpec)

/-- ITS FALSE NEIGHBOUR: 'it returns false'. Refute it at one input. -/
def stateEndsWrong : ChangeSpec := { name := "stateEnds", fn := fun _ => fun
  | [d1, d2, d3, d4] => { results := [.lit (.bool false)], args := [d1, d2, d3, d4] }
  | _ => none }
def StateEndsWrongFalsely : Prop := stateEndsRow.holds Try.pinned (OpenSpec.ofChange stateEndsWrong)

/-- 'pecialaw03.StateChanges': WHATEVER THE INPUT: true; the input reads as it did. -/
def stateChangesSpec : ChangeSpec := { name := "stateChanges", fn := fun _ => fun
  | [d1, d2, d3] => { results := [.lit (.bool true)], args := [d1, d2, d3] }
  | _ => none }
def stateChangesRow : OpenClaim := { program := "ytnjajbkkgfohaaa", sum := "867c0efd91a21125fbd006c1b9b14e0aa11756bc648399189f28fe86fabbea35", func := "pecia/pecialaw03.StateChanges", spec := "stateChanges", inPlace := ["slices.overlaps[pecia/api.Alter]"], unfollowed := true, recurses := true, apart := false }
def StateChangesSaid : Prop := stateChangesRow.holds Try.pinned (OpenSpec.ofChange stateChangesSpec)

/-- ITS FALSE NEIGHBOUR: 'it returns false'. Refute it at one input. -/
def stateChangesWrong : ChangeSpec := { name := "stateChanges", fn := fun _ => fun
  | [d1, d2, d3] => { results := [.lit (.bool false)], args := [d1, d2, d3] }
  | _ => none }
def StateChangesWrongFalsely : Prop := stateChangesRow.holds Try.pinned (OpenSpec.ofChange stateChangesWrong)

/-- 'pecialaw03.StateMixed': WHATEVER THE INPUT: true; the input reads as it did. -/
def stateMixedSpec : ChangeSpec := { name := "stateMixed", fn := fun _ => fun
  | [d1, d2, d3, d4, d5] => { results := [.lit (.bool true)], args := [d1, d2, d3, d4, d5] }
  | _ => none }
def stateMixedRow : OpenClaim := { program := "ytnjajbkkgfohaaa", sum := "867c0efd91a21125fbd006c1b9b14e0aa11756bc648399189f28fe86fabbea35", func := "pecia/pecialaw03.StateMixed", spec := "stateMixed", inPlace := ["slices.overlaps[pecia/api.Alter]"], unfollowed := true, recurses := true, apart := false }
def StateMixedSaid : Prop := stateMixedRow.holds Try.pinned (OpenSpec.ofChange stateMixedSpec)

/-- ITS FALSE NEIGHBOUR: 'it returns false'. Refute it at one input. -/
def stateMixedWrong : ChangeSpec := { name := "stateMixed", fn := fun _ => fun
  | [d1, d2, d3, d4, d5] => { results := [.lit (.bool false)], args := [d1, d2, d3, d4, d5] }
  | _ => none }
def StateMixedWrongFalsely : Prop := stateMixedRow.holds Try.pinned (OpenSpec.ofChange stateMixedWrong)

/- THE SECOND FORM. 'bulk': how many values and letters a reading holds, each counted each time it is reached (what is shared counts as often as it is met; a slice's spare places count too). A statement '..UptoSaid' is the law's where the arguments, and the package variables that the reading takes, are together of bulk at most 1048576: NARROWER than '..Said'. Prove '..Said' where nothing that the law and all that it calls make is longer than what came in: it says more and counts as full. Else prove '..UptoSaid'. A law counts once. -/
mutual
def uptoBulk {H : Type} : DataW H → Nat
  | .lit (.string bytes) => bytes.length + 1
  | .lit _ => 1
  | .nil => 1
  | .ptr d => uptoBulk d + 1
  | .slice elems spare => uptoBulkAll elems + uptoBulkAll spare + 1
  | .agg parts => uptoBulkAll parts + 1
  | .iface _ d => uptoBulk d + 1
  | .map entries => uptoBulkEntries entries + 1
  | .held _ => 1
def uptoBulkAll {H : Type} : List (DataW H) → Nat
  | [] => 0
  | d :: r => uptoBulk d + uptoBulkAll r
def uptoBulkEntries {H : Type} : List (Lit × DataW H) → Nat
  | [] => 0
  | x :: r => uptoBulkEntry x + uptoBulkEntries r
def uptoBulkEntry {H : Type} : Lit × DataW H → Nat
  | (.string bytes, d) => bytes.length + uptoBulk d + 1
  | (_, d) => uptoBulk d + 1
 end
def uptoSmall : (H : Type) → List (DataW H) → Bool := fun _ ds => decide (uptoBulkAll ds ≤ 1048576)
def OpenSpec.upto (s : _root_.Go.ChangeSpec) : _root_.Go.OpenSpec := { _root_.Go.OpenSpec.ofChange s with cond := some uptoSmall }

/-- 'pecialaw03.StateReads', WHERE WHAT IT READS IS OF BULK AT MOST 1048576: true; the input reads as it did. -/
def stateReadsUptoRow : OpenClaim := { program := "ytnjajbkkgfohaaa", sum := "867c0efd91a21125fbd006c1b9b14e0aa11756bc648399189f28fe86fabbea35", func := "pecia/pecialaw03.StateReads", spec := "stateReads", unfollowed := true, recurses := true, apart := false, narrowed := true }
def StateReadsUptoSaid : Prop := stateReadsUptoRow.holds Try.pinned (OpenSpec.upto stateReadsSpec)

/-- 'pecialaw03.StateWords', WHERE WHAT IT READS IS OF BULK AT MOST 1048576: true; the input reads as it did. -/
def stateWordsUptoRow : OpenClaim := { program := "ytnjajbkkgfohaaa", sum := "867c0efd91a21125fbd006c1b9b14e0aa11756bc648399189f28fe86fabbea35", func := "pecia/pecialaw03.StateWords", spec := "stateWords", unfollowed := true, recurses := true, apart := false, narrowed := true }
def StateWordsUptoSaid : Prop := stateWordsUptoRow.holds Try.pinned (OpenSpec.upto stateWordsSpec)

/-- 'pecialaw03.StateFits', WHERE WHAT IT READS IS OF BULK AT MOST 1048576: true; the input reads as it did. -/
def stateFitsUptoRow : OpenClaim := { program := "ytnjajbkkgfohaaa", sum := "867c0efd91a21125fbd006c1b9b14e0aa11756bc648399189f28fe86fabbea35", func := "pecia/pecialaw03.StateFits", spec := "stateFits", unfollowed := true, recurses := true, apart := false, narrowed := true }
def StateFitsUptoSaid : Prop := stateFitsUptoRow.holds Try.pinned (OpenSpec.upto stateFitsSpec)

/-- 'pecialaw03.StateLines', WHERE WHAT IT READS IS OF BULK AT MOST 1048576: true; the input reads as it did. -/
def stateLinesUptoRow : OpenClaim := { program := "ytnjajbkkgfohaaa", sum := "867c0efd91a21125fbd006c1b9b14e0aa11756bc648399189f28fe86fabbea35", func := "pecia/pecialaw03.StateLines", spec := "stateLines", unfollowed := true, recurses := true, apart := false, narrowed := true }
def StateLinesUptoSaid : Prop := stateLinesUptoRow.holds Try.pinned (OpenSpec.upto stateLinesSpec)

/-- 'pecialaw03.StateLattice', WHERE WHAT IT READS IS OF BULK AT MOST 1048576: true; the input reads as it did. -/
def stateLatticeUptoRow : OpenClaim := { program := "ytnjajbkkgfohaaa", sum := "867c0efd91a21125fbd006c1b9b14e0aa11756bc648399189f28fe86fabbea35", func := "pecia/pecialaw03.StateLattice", spec := "stateLattice", unfollowed := true, recurses := true, apart := false, narrowed := true }
def StateLatticeUptoSaid : Prop := stateLatticeUptoRow.holds Try.pinned (OpenSpec.upto stateLatticeSpec)

/-- 'pecialaw03.StateNarrows', WHERE WHAT IT READS IS OF BULK AT MOST 1048576: true; the input reads as it did. -/
def stateNarrowsUptoRow : OpenClaim := { program := "ytnjajbkkgfohaaa", sum := "867c0efd91a21125fbd006c1b9b14e0aa11756bc648399189f28fe86fabbea35", func := "pecia/pecialaw03.StateNarrows", spec := "stateNarrows", unfollowed := true, recurses := true, apart := false, narrowed := true }
def StateNarrowsUptoSaid : Prop := stateNarrowsUptoRow.holds Try.pinned (OpenSpec.upto stateNarrowsSpec)

/-- 'pecialaw03.StateTrue', WHERE WHAT IT READS IS OF BULK AT MOST 1048576: true; the input reads as it did. -/
def stateTrueUptoRow : OpenClaim := { program := "ytnjajbkkgfohaaa", sum := "867c0efd91a21125fbd006c1b9b14e0aa11756bc648399189f28fe86fabbea35", func := "pecia/pecialaw03.StateTrue", spec := "stateTrue", unfollowed := true, recurses := true, apart := false, narrowed := true }
def StateTrueUptoSaid : Prop := stateTrueUptoRow.holds Try.pinned (OpenSpec.upto stateTrueSpec)

/-- 'pecialaw03.StateOrder', WHERE WHAT IT READS IS OF BULK AT MOST 1048576: true; the input reads as it did. -/
def stateOrderUptoRow : OpenClaim := { program := "ytnjajbkkgfohaaa", sum := "867c0efd91a21125fbd006c1b9b14e0aa11756bc648399189f28fe86fabbea35", func := "pecia/pecialaw03.StateOrder", spec := "stateOrder", unfollowed := true, recurses := true, apart := false, narrowed := true }
def StateOrderUptoSaid : Prop := stateOrderUptoRow.holds Try.pinned (OpenSpec.upto stateOrderSpec)

/-- 'pecialaw03.StateSees', WHERE WHAT IT READS IS OF BULK AT MOST 1048576: true; the input reads as it did. -/
def stateSeesUptoRow : OpenClaim := { program := "ytnjajbkkgfohaaa", sum := "867c0efd91a21125fbd006c1b9b14e0aa11756bc648399189f28fe86fabbea35", func := "pecia/pecialaw03.StateSees", spec := "stateSees", unfollowed := true, recurses := true, apart := false, narrowed := true }
def StateSeesUptoSaid : Prop := stateSeesUptoRow.holds Try.pinned (OpenSpec.upto stateSeesSpec)

/-- 'pecialaw03.StateFollows', WHERE WHAT IT READS IS OF BULK AT MOST 1048576: true; the input reads as it did. -/
def stateFollowsUptoRow : OpenClaim := { program := "ytnjajbkkgfohaaa", sum := "867c0efd91a21125fbd006c1b9b14e0aa11756bc648399189f28fe86fabbea35", func := "pecia/pecialaw03.StateFollows", spec := "stateFollows", unfollowed := true, recurses := true, apart := false, narrowed := true }
def StateFollowsUptoSaid : Prop := stateFollowsUptoRow.holds Try.pinned (OpenSpec.upto stateFollowsSpec)

/-- 'pecialaw03.StateSources', WHERE WHAT IT READS IS OF BULK AT MOST 1048576: true; the input reads as it did. -/
def stateSourcesUptoRow : OpenClaim := { program := "ytnjajbkkgfohaaa", sum := "867c0efd91a21125fbd006c1b9b14e0aa11756bc648399189f28fe86fabbea35", func := "pecia/pecialaw03.StateSources", spec := "stateSources", unfollowed := true, recurses := true, apart := false, narrowed := true }
def StateSourcesUptoSaid : Prop := stateSourcesUptoRow.holds Try.pinned (OpenSpec.upto stateSourcesSpec)

/-- 'pecialaw03.StateUnseen', WHERE WHAT IT READS IS OF BULK AT MOST 1048576: true; the input reads as it did. -/
def stateUnseenUptoRow : OpenClaim := { program := "ytnjajbkkgfohaaa", sum := "867c0efd91a21125fbd006c1b9b14e0aa11756bc648399189f28fe86fabbea35", func := "pecia/pecialaw03.StateUnseen", spec := "stateUnseen", unfollowed := true, recurses := true, apart := false, narrowed := true }
def StateUnseenUptoSaid : Prop := stateUnseenUptoRow.holds Try.pinned (OpenSpec.upto stateUnseenSpec)

/-- 'pecialaw03.StateRests', WHERE WHAT IT READS IS OF BULK AT MOST 1048576: true; the input reads as it did. -/
def stateRestsUptoRow : OpenClaim := { program := "ytnjajbkkgfohaaa", sum := "867c0efd91a21125fbd006c1b9b14e0aa11756bc648399189f28fe86fabbea35", func := "pecia/pecialaw03.StateRests", spec := "stateRests", unfollowed := true, recurses := true, apart := false, narrowed := true }
def StateRestsUptoSaid : Prop := stateRestsUptoRow.holds Try.pinned (OpenSpec.upto stateRestsSpec)

/-- 'pecialaw03.StateOrders', WHERE WHAT IT READS IS OF BULK AT MOST 1048576: true; the input reads as it did. -/
def stateOrdersUptoRow : OpenClaim := { program := "ytnjajbkkgfohaaa", sum := "867c0efd91a21125fbd006c1b9b14e0aa11756bc648399189f28fe86fabbea35", func := "pecia/pecialaw03.StateOrders", spec := "stateOrders", unfollowed := true, recurses := true, apart := false, narrowed := true }
def StateOrdersUptoSaid : Prop := stateOrdersUptoRow.holds Try.pinned (OpenSpec.upto stateOrdersSpec)

/-- 'pecialaw03.StateClashes', WHERE WHAT IT READS IS OF BULK AT MOST 1048576: true; the input reads as it did. -/
def stateClashesUptoRow : OpenClaim := { program := "ytnjajbkkgfohaaa", sum := "867c0efd91a21125fbd006c1b9b14e0aa11756bc648399189f28fe86fabbea35", func := "pecia/pecialaw03.StateClashes", spec := "stateClashes", unfollowed := true, recurses := true, apart := false, narrowed := true }
def StateClashesUptoSaid : Prop := stateClashesUptoRow.holds Try.pinned (OpenSpec.upto stateClashesSpec)

/-- 'pecialaw03.StateProves', WHERE WHAT IT READS IS OF BULK AT MOST 1048576: true; the input reads as it did. -/
def stateProvesUptoRow : OpenClaim := { program := "ytnjajbkkgfohaaa", sum := "867c0efd91a21125fbd006c1b9b14e0aa11756bc648399189f28fe86fabbea35", func := "pecia/pecialaw03.StateProves", spec := "stateProves", unfollowed := true, recurses := true, apart := false, narrowed := true }
def StateProvesUptoSaid : Prop := stateProvesUptoRow.holds Try.pinned (OpenSpec.upto stateProvesSpec)

/-- 'pecialaw03.StateEnds', WHERE WHAT IT READS IS OF BULK AT MOST 1048576: true; the input reads as it did. -/
def stateEndsUptoRow : OpenClaim := { program := "ytnjajbkkgfohaaa", sum := "867c0efd91a21125fbd006c1b9b14e0aa11756bc648399189f28fe86fabbea35", func := "pecia/pecialaw03.StateEnds", spec := "stateEnds", unfollowed := true, recurses := true, apart := false, narrowed := true }
def StateEndsUptoSaid : Prop := stateEndsUptoRow.holds Try.pinned (OpenSpec.upto stateEndsSpec)

/-- 'pecialaw03.StateChanges', WHERE WHAT IT READS IS OF BULK AT MOST 1048576: true; the input reads as it did. -/
def stateChangesUptoRow : OpenClaim := { program := "ytnjajbkkgfohaaa", sum := "867c0efd91a21125fbd006c1b9b14e0aa11756bc648399189f28fe86fabbea35", func := "pecia/pecialaw03.StateChanges", spec := "stateChanges", inPlace := ["slices.overlaps[pecia/api.Alter]"], unfollowed := true, recurses := true, apart := false, narrowed := true }
def StateChangesUptoSaid : Prop := stateChangesUptoRow.holds Try.pinned (OpenSpec.upto stateChangesSpec)

/-- 'pecialaw03.StateMixed', WHERE WHAT IT READS IS OF BULK AT MOST 1048576: true; the input reads as it did. -/
def stateMixedUptoRow : OpenClaim := { program := "ytnjajbkkgfohaaa", sum := "867c0efd91a21125fbd006c1b9b14e0aa11756bc648399189f28fe86fabbea35", func := "pecia/pecialaw03.StateMixed", spec := "stateMixed", inPlace := ["slices.overlaps[pecia/api.Alter]"], unfollowed := true, recurses := true, apart := false, narrowed := true }
def StateMixedUptoSaid : Prop := stateMixedUptoRow.holds Try.pinned (OpenSpec.upto stateMixedSpec)

end Rows
end Go.Proofs.Ytnjajbkkgfohaaa
