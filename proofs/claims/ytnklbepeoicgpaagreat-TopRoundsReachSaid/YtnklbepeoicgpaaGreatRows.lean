/-
  No cell of these rows narrows 'for every input' (looked for: loops, veiled, ifaces, maps, wideKeys, modest, calm, conditions, laid).
  DERIVED. THE GIVEN ROWS OF THIS SEAT. 12 by the template 'for every input the law returns true; each argument reads behind the call as it read before'; 0 by the template 'total and deterministic' (their statements: YtnklbepeoicgpaaGreatTotals.lean).
  GIVEN WITH THE SEED: the statements are not yours to turn. If you find one false, say at which input.
  Laid BY PROGRAM, IN A SANDBOX (cutbox-rows.mjs): the forced cells as the released guide's own fill.sh prints them over the translation 03d7695b2291988e… (all of the seat's roots in one cut). By AI agents, Wed Nov 11 2026. No macro, syntax, notation, axiom, sorry.
-/
import Derived.Test.YtnklbepeoicgpaaGreatChecked
import GoSem.Claim
import GoSem.ClaimJoined
import GoSem.ClaimMapViews
import Derived.JoinedTies
import Derived.KernelRfl
namespace Go.Proofs.YtnklbepeoicgpaaGreat
/- THE CELL 'sum', in the pinned program and in every row, IS THE sha256 OF THE DUMP (.gsa) THAT YtnklbepeoicgpaaGreatProg.lean LOADS. Nothing in Lean hashes anything: it is a label: what it is worth is what the hold of that sum in a sandbox is worth. -/
noncomputable def Tryz.pinned : Pinned := { name := "ytnklbepeoicgpaagreat", sum := "03d7695b2291988e90748d18d2aded65b0e4096282d6312583da2ba7f8c982c3", checked := Tryz.checked }
namespace Rows
def none {H : Type} : Left H := { results := [], args := [] }

/-- 'peciatop.TopRoundsReach': WHATEVER THE INPUT: true; the input reads as it did. -/
def topRoundsReachSpec : ChangeSpec := { name := "topRoundsReach", fn := fun _ => fun
  | [d1, d2, d3, d4] => { results := [.lit (.bool true)], args := [d1, d2, d3, d4] }
  | _ => none }
def topRoundsReachRow : OpenClaim := { program := "ytnklbepeoicgpaagreat", sum := "03d7695b2291988e90748d18d2aded65b0e4096282d6312583da2ba7f8c982c3", func := "pecia/peciatop.TopRoundsReach", spec := "topRoundsReach", unfollowed := true, recurses := true, apart := false }
def TopRoundsReachSaid : Prop := topRoundsReachRow.holds Tryz.pinned (OpenSpec.ofChange topRoundsReachSpec)

/-- ITS FALSE NEIGHBOUR: 'it returns false'. Refute it at one input. -/
def topRoundsReachWrong : ChangeSpec := { name := "topRoundsReach", fn := fun _ => fun
  | [d1, d2, d3, d4] => { results := [.lit (.bool false)], args := [d1, d2, d3, d4] }
  | _ => none }
def TopRoundsReachWrongFalsely : Prop := topRoundsReachRow.holds Tryz.pinned (OpenSpec.ofChange topRoundsReachWrong)

/-- 'pecialaw06.MendSure': WHATEVER THE INPUT: true; the input reads as it did. -/
def mendSureSpec : ChangeSpec := { name := "mendSure", fn := fun _ => fun
  | [d1, d2] => { results := [.lit (.bool true)], args := [d1, d2] }
  | _ => none }
def mendSureRow : OpenClaim := { program := "ytnklbepeoicgpaagreat", sum := "03d7695b2291988e90748d18d2aded65b0e4096282d6312583da2ba7f8c982c3", func := "pecia/pecialaw06.MendSure", spec := "mendSure", inPlace := ["slices.overlaps[int]"], unfollowed := true, recurses := true, apart := false }
def MendSureSaid : Prop := mendSureRow.holds Tryz.pinned (OpenSpec.ofChange mendSureSpec)

/-- ITS FALSE NEIGHBOUR: 'it returns false'. Refute it at one input. -/
def mendSureWrong : ChangeSpec := { name := "mendSure", fn := fun _ => fun
  | [d1, d2] => { results := [.lit (.bool false)], args := [d1, d2] }
  | _ => none }
def MendSureWrongFalsely : Prop := mendSureRow.holds Tryz.pinned (OpenSpec.ofChange mendSureWrong)

/-- 'pecialaw06.MendOther': WHATEVER THE INPUT: true; the input reads as it did. -/
def mendOtherSpec : ChangeSpec := { name := "mendOther", fn := fun _ => fun
  | [d1, d2, d3, d4] => { results := [.lit (.bool true)], args := [d1, d2, d3, d4] }
  | _ => none }
def mendOtherRow : OpenClaim := { program := "ytnklbepeoicgpaagreat", sum := "03d7695b2291988e90748d18d2aded65b0e4096282d6312583da2ba7f8c982c3", func := "pecia/pecialaw06.MendOther", spec := "mendOther", inPlace := ["slices.overlaps[int]"], unfollowed := true, recurses := true, apart := false }
def MendOtherSaid : Prop := mendOtherRow.holds Tryz.pinned (OpenSpec.ofChange mendOtherSpec)

/-- ITS FALSE NEIGHBOUR: 'it returns false'. Refute it at one input. -/
def mendOtherWrong : ChangeSpec := { name := "mendOther", fn := fun _ => fun
  | [d1, d2, d3, d4] => { results := [.lit (.bool false)], args := [d1, d2, d3, d4] }
  | _ => none }
def MendOtherWrongFalsely : Prop := mendOtherRow.holds Tryz.pinned (OpenSpec.ofChange mendOtherWrong)

/-- 'pecialaw06.MendSpreads': WHATEVER THE INPUT: true; the input reads as it did. -/
def mendSpreadsSpec : ChangeSpec := { name := "mendSpreads", fn := fun _ => fun
  | [d1, d2, d3, d4, d5] => { results := [.lit (.bool true)], args := [d1, d2, d3, d4, d5] }
  | _ => none }
def mendSpreadsRow : OpenClaim := { program := "ytnklbepeoicgpaagreat", sum := "03d7695b2291988e90748d18d2aded65b0e4096282d6312583da2ba7f8c982c3", func := "pecia/pecialaw06.MendSpreads", spec := "mendSpreads", inPlace := ["slices.overlaps[int]"], unfollowed := true, recurses := true, apart := false }
def MendSpreadsSaid : Prop := mendSpreadsRow.holds Tryz.pinned (OpenSpec.ofChange mendSpreadsSpec)

/-- ITS FALSE NEIGHBOUR: 'it returns false'. Refute it at one input. -/
def mendSpreadsWrong : ChangeSpec := { name := "mendSpreads", fn := fun _ => fun
  | [d1, d2, d3, d4, d5] => { results := [.lit (.bool false)], args := [d1, d2, d3, d4, d5] }
  | _ => none }
def MendSpreadsWrongFalsely : Prop := mendSpreadsRow.holds Tryz.pinned (OpenSpec.ofChange mendSpreadsWrong)

/-- 'pecialaw06.MendJams': WHATEVER THE INPUT: true; the input reads as it did. -/
def mendJamsSpec : ChangeSpec := { name := "mendJams", fn := fun _ => fun
  | [d1, d2, d3, d4, d5] => { results := [.lit (.bool true)], args := [d1, d2, d3, d4, d5] }
  | _ => none }
def mendJamsRow : OpenClaim := { program := "ytnklbepeoicgpaagreat", sum := "03d7695b2291988e90748d18d2aded65b0e4096282d6312583da2ba7f8c982c3", func := "pecia/pecialaw06.MendJams", spec := "mendJams", inPlace := ["slices.overlaps[int]"], unfollowed := true, recurses := true, apart := false }
def MendJamsSaid : Prop := mendJamsRow.holds Tryz.pinned (OpenSpec.ofChange mendJamsSpec)

/-- ITS FALSE NEIGHBOUR: 'it returns false'. Refute it at one input. -/
def mendJamsWrong : ChangeSpec := { name := "mendJams", fn := fun _ => fun
  | [d1, d2, d3, d4, d5] => { results := [.lit (.bool false)], args := [d1, d2, d3, d4, d5] }
  | _ => none }
def MendJamsWrongFalsely : Prop := mendJamsRow.holds Tryz.pinned (OpenSpec.ofChange mendJamsWrong)

/-- 'pecialaw06.MendBest': WHATEVER THE INPUT: true; the input reads as it did. -/
def mendBestSpec : ChangeSpec := { name := "mendBest", fn := fun _ => fun
  | [d1, d2, d3, d4, d5] => { results := [.lit (.bool true)], args := [d1, d2, d3, d4, d5] }
  | _ => none }
def mendBestRow : OpenClaim := { program := "ytnklbepeoicgpaagreat", sum := "03d7695b2291988e90748d18d2aded65b0e4096282d6312583da2ba7f8c982c3", func := "pecia/pecialaw06.MendBest", spec := "mendBest", inPlace := ["slices.overlaps[int]"], unfollowed := true, recurses := true, apart := false }
def MendBestSaid : Prop := mendBestRow.holds Tryz.pinned (OpenSpec.ofChange mendBestSpec)

/-- ITS FALSE NEIGHBOUR: 'it returns false'. Refute it at one input. -/
def mendBestWrong : ChangeSpec := { name := "mendBest", fn := fun _ => fun
  | [d1, d2, d3, d4, d5] => { results := [.lit (.bool false)], args := [d1, d2, d3, d4, d5] }
  | _ => none }
def MendBestWrongFalsely : Prop := mendBestRow.holds Tryz.pinned (OpenSpec.ofChange mendBestWrong)

/-- 'pecialaw06.MendSurely': WHATEVER THE INPUT: true; the input reads as it did. -/
def mendSurelySpec : ChangeSpec := { name := "mendSurely", fn := fun _ => fun
  | [d1, d2] => { results := [.lit (.bool true)], args := [d1, d2] }
  | _ => none }
def mendSurelyRow : OpenClaim := { program := "ytnklbepeoicgpaagreat", sum := "03d7695b2291988e90748d18d2aded65b0e4096282d6312583da2ba7f8c982c3", func := "pecia/pecialaw06.MendSurely", spec := "mendSurely", inPlace := ["slices.overlaps[int]"], unfollowed := true, recurses := true, apart := false }
def MendSurelySaid : Prop := mendSurelyRow.holds Tryz.pinned (OpenSpec.ofChange mendSurelySpec)

/-- ITS FALSE NEIGHBOUR: 'it returns false'. Refute it at one input. -/
def mendSurelyWrong : ChangeSpec := { name := "mendSurely", fn := fun _ => fun
  | [d1, d2] => { results := [.lit (.bool false)], args := [d1, d2] }
  | _ => none }
def MendSurelyWrongFalsely : Prop := mendSurelyRow.holds Tryz.pinned (OpenSpec.ofChange mendSurelyWrong)

/-- 'pecialaw06.MendChecks': WHATEVER THE INPUT: true; the input reads as it did. -/
def mendChecksSpec : ChangeSpec := { name := "mendChecks", fn := fun _ => fun
  | [d1, d2, d3, d4] => { results := [.lit (.bool true)], args := [d1, d2, d3, d4] }
  | _ => none }
def mendChecksRow : OpenClaim := { program := "ytnklbepeoicgpaagreat", sum := "03d7695b2291988e90748d18d2aded65b0e4096282d6312583da2ba7f8c982c3", func := "pecia/pecialaw06.MendChecks", spec := "mendChecks", inPlace := ["slices.overlaps[int]"], unfollowed := true, recurses := true, apart := false }
def MendChecksSaid : Prop := mendChecksRow.holds Tryz.pinned (OpenSpec.ofChange mendChecksSpec)

/-- ITS FALSE NEIGHBOUR: 'it returns false'. Refute it at one input. -/
def mendChecksWrong : ChangeSpec := { name := "mendChecks", fn := fun _ => fun
  | [d1, d2, d3, d4] => { results := [.lit (.bool false)], args := [d1, d2, d3, d4] }
  | _ => none }
def MendChecksWrongFalsely : Prop := mendChecksRow.holds Tryz.pinned (OpenSpec.ofChange mendChecksWrong)

/-- 'pecialaw06.MendBoth': WHATEVER THE INPUT: true; the input reads as it did. -/
def mendBothSpec : ChangeSpec := { name := "mendBoth", fn := fun _ => fun
  | [d1, d2, d3, d4, d5, d6] => { results := [.lit (.bool true)], args := [d1, d2, d3, d4, d5, d6] }
  | _ => none }
def mendBothRow : OpenClaim := { program := "ytnklbepeoicgpaagreat", sum := "03d7695b2291988e90748d18d2aded65b0e4096282d6312583da2ba7f8c982c3", func := "pecia/pecialaw06.MendBoth", spec := "mendBoth", inPlace := ["slices.overlaps[int]"], unfollowed := true, recurses := true, apart := false }
def MendBothSaid : Prop := mendBothRow.holds Tryz.pinned (OpenSpec.ofChange mendBothSpec)

/-- ITS FALSE NEIGHBOUR: 'it returns false'. Refute it at one input. -/
def mendBothWrong : ChangeSpec := { name := "mendBoth", fn := fun _ => fun
  | [d1, d2, d3, d4, d5, d6] => { results := [.lit (.bool false)], args := [d1, d2, d3, d4, d5, d6] }
  | _ => none }
def MendBothWrongFalsely : Prop := mendBothRow.holds Tryz.pinned (OpenSpec.ofChange mendBothWrong)

/-- 'pecialaw06.MendTwo': WHATEVER THE INPUT: true; the input reads as it did. -/
def mendTwoSpec : ChangeSpec := { name := "mendTwo", fn := fun _ => fun
  | [d1, d2, d3, d4] => { results := [.lit (.bool true)], args := [d1, d2, d3, d4] }
  | _ => none }
def mendTwoRow : OpenClaim := { program := "ytnklbepeoicgpaagreat", sum := "03d7695b2291988e90748d18d2aded65b0e4096282d6312583da2ba7f8c982c3", func := "pecia/pecialaw06.MendTwo", spec := "mendTwo", inPlace := ["slices.overlaps[int]"], unfollowed := true, recurses := true, apart := false }
def MendTwoSaid : Prop := mendTwoRow.holds Tryz.pinned (OpenSpec.ofChange mendTwoSpec)

/-- ITS FALSE NEIGHBOUR: 'it returns false'. Refute it at one input. -/
def mendTwoWrong : ChangeSpec := { name := "mendTwo", fn := fun _ => fun
  | [d1, d2, d3, d4] => { results := [.lit (.bool false)], args := [d1, d2, d3, d4] }
  | _ => none }
def MendTwoWrongFalsely : Prop := mendTwoRow.holds Tryz.pinned (OpenSpec.ofChange mendTwoWrong)

/-- 'pecialaw06.MendLater': WHATEVER THE INPUT: true; the input reads as it did. -/
def mendLaterSpec : ChangeSpec := { name := "mendLater", fn := fun _ => fun
  | [d1, d2, d3] => { results := [.lit (.bool true)], args := [d1, d2, d3] }
  | _ => none }
def mendLaterRow : OpenClaim := { program := "ytnklbepeoicgpaagreat", sum := "03d7695b2291988e90748d18d2aded65b0e4096282d6312583da2ba7f8c982c3", func := "pecia/pecialaw06.MendLater", spec := "mendLater", inPlace := ["slices.overlaps[int]"], unfollowed := true, recurses := true, apart := false }
def MendLaterSaid : Prop := mendLaterRow.holds Tryz.pinned (OpenSpec.ofChange mendLaterSpec)

/-- ITS FALSE NEIGHBOUR: 'it returns false'. Refute it at one input. -/
def mendLaterWrong : ChangeSpec := { name := "mendLater", fn := fun _ => fun
  | [d1, d2, d3] => { results := [.lit (.bool false)], args := [d1, d2, d3] }
  | _ => none }
def MendLaterWrongFalsely : Prop := mendLaterRow.holds Tryz.pinned (OpenSpec.ofChange mendLaterWrong)

/-- 'pecialaw06.MendProves': WHATEVER THE INPUT: true; the input reads as it did. -/
def mendProvesSpec : ChangeSpec := { name := "mendProves", fn := fun _ => fun
  | [d1, d2, d3, d4] => { results := [.lit (.bool true)], args := [d1, d2, d3, d4] }
  | _ => none }
def mendProvesRow : OpenClaim := { program := "ytnklbepeoicgpaagreat", sum := "03d7695b2291988e90748d18d2aded65b0e4096282d6312583da2ba7f8c982c3", func := "pecia/pecialaw06.MendProves", spec := "mendProves", inPlace := ["slices.overlaps[int]"], unfollowed := true, recurses := true, apart := false }
def MendProvesSaid : Prop := mendProvesRow.holds Tryz.pinned (OpenSpec.ofChange mendProvesSpec)

/-- ITS FALSE NEIGHBOUR: 'it returns false'. Refute it at one input. -/
def mendProvesWrong : ChangeSpec := { name := "mendProves", fn := fun _ => fun
  | [d1, d2, d3, d4] => { results := [.lit (.bool false)], args := [d1, d2, d3, d4] }
  | _ => none }
def MendProvesWrongFalsely : Prop := mendProvesRow.holds Tryz.pinned (OpenSpec.ofChange mendProvesWrong)

/- THE SECOND FORM. 'bulk': how many values and letters a reading holds, each counted each time it is reached (what is shared counts as often as it is met; a slice's spare places count too). A statement '..UptoSaid' is the law's where the arguments, and the package variables that the reading takes, are together of bulk at most 1048576: NARROWER than '..Said'. Prove '..Said' where nothing that the law and all that it calls make is longer than what came in: it says more and counts as full. Else prove '..UptoSaid'. A law counts once. -/
mutual
def uptoBulk {H : Type} : DataW H → Nat
  | .lit (.string bytes) => bytes.length + 1
  | .lit _ => 1
  | .nil => 1
  | .ptr d => uptoBulk d + 1
  | .slice elems spare => uptoBulkAll elems + uptoBulkAll spare + 1
  | .agg parts => uptoBulkAll parts + 1
  | .iface _ d => uptoBulk d + 1
  | .map entries => uptoBulkEntries entries + 1
  | .held _ => 1
def uptoBulkAll {H : Type} : List (DataW H) → Nat
  | [] => 0
  | d :: r => uptoBulk d + uptoBulkAll r
def uptoBulkEntries {H : Type} : List (Lit × DataW H) → Nat
  | [] => 0
  | x :: r => uptoBulkEntry x + uptoBulkEntries r
def uptoBulkEntry {H : Type} : Lit × DataW H → Nat
  | (.string bytes, d) => bytes.length + uptoBulk d + 1
  | (_, d) => uptoBulk d + 1
 end
def uptoSmall : (H : Type) → List (DataW H) → Bool := fun _ ds => decide (uptoBulkAll ds ≤ 1048576)
def OpenSpec.upto (s : _root_.Go.ChangeSpec) : _root_.Go.OpenSpec := { _root_.Go.OpenSpec.ofChange s with cond := some uptoSmall }

/-- 'peciatop.TopRoundsReach', WHERE WHAT IT READS IS OF BULK AT MOST 1048576: true; the input reads as it did. -/
def topRoundsReachUptoRow : OpenClaim := { program := "ytnklbepeoicgpaagreat", sum := "03d7695b2291988e90748d18d2aded65b0e4096282d6312583da2ba7f8c982c3", func := "pecia/peciatop.TopRoundsReach", spec := "topRoundsReach", unfollowed := true, recurses := true, apart := false, narrowed := true }
def TopRoundsReachUptoSaid : Prop := topRoundsReachUptoRow.holds Tryz.pinned (OpenSpec.upto topRoundsReachSpec)

/-- 'pecialaw06.MendSure', WHERE WHAT IT READS IS OF BULK AT MOST 1048576: true; the input reads as it did. -/
def mendSureUptoRow : OpenClaim := { program := "ytnklbepeoicgpaagreat", sum := "03d7695b2291988e90748d18d2aded65b0e4096282d6312583da2ba7f8c982c3", func := "pecia/pecialaw06.MendSure", spec := "mendSure", inPlace := ["slices.overlaps[int]"], unfollowed := true, recurses := true, apart := false, narrowed := true }
def MendSureUptoSaid : Prop := mendSureUptoRow.holds Tryz.pinned (OpenSpec.upto mendSureSpec)

/-- 'pecialaw06.MendOther', WHERE WHAT IT READS IS OF BULK AT MOST 1048576: true; the input reads as it did. -/
def mendOtherUptoRow : OpenClaim := { program := "ytnklbepeoicgpaagreat", sum := "03d7695b2291988e90748d18d2aded65b0e4096282d6312583da2ba7f8c982c3", func := "pecia/pecialaw06.MendOther", spec := "mendOther", inPlace := ["slices.overlaps[int]"], unfollowed := true, recurses := true, apart := false, narrowed := true }
def MendOtherUptoSaid : Prop := mendOtherUptoRow.holds Tryz.pinned (OpenSpec.upto mendOtherSpec)

/-- 'pecialaw06.MendSpreads', WHERE WHAT IT READS IS OF BULK AT MOST 1048576: true; the input reads as it did. -/
def mendSpreadsUptoRow : OpenClaim := { program := "ytnklbepeoicgpaagreat", sum := "03d7695b2291988e90748d18d2aded65b0e4096282d6312583da2ba7f8c982c3", func := "pecia/pecialaw06.MendSpreads", spec := "mendSpreads", inPlace := ["slices.overlaps[int]"], unfollowed := true, recurses := true, apart := false, narrowed := true }
def MendSpreadsUptoSaid : Prop := mendSpreadsUptoRow.holds Tryz.pinned (OpenSpec.upto mendSpreadsSpec)

/-- 'pecialaw06.MendJams', WHERE WHAT IT READS IS OF BULK AT MOST 1048576: true; the input reads as it did. -/
def mendJamsUptoRow : OpenClaim := { program := "ytnklbepeoicgpaagreat", sum := "03d7695b2291988e90748d18d2aded65b0e4096282d6312583da2ba7f8c982c3", func := "pecia/pecialaw06.MendJams", spec := "mendJams", inPlace := ["slices.overlaps[int]"], unfollowed := true, recurses := true, apart := false, narrowed := true }
def MendJamsUptoSaid : Prop := mendJamsUptoRow.holds Tryz.pinned (OpenSpec.upto mendJamsSpec)

/-- 'pecialaw06.MendBest', WHERE WHAT IT READS IS OF BULK AT MOST 1048576: true; the input reads as it did. -/
def mendBestUptoRow : OpenClaim := { program := "ytnklbepeoicgpaagreat", sum := "03d7695b2291988e90748d18d2aded65b0e4096282d6312583da2ba7f8c982c3", func := "pecia/pecialaw06.MendBest", spec := "mendBest", inPlace := ["slices.overlaps[int]"], unfollowed := true, recurses := true, apart := false, narrowed := true }
def MendBestUptoSaid : Prop := mendBestUptoRow.holds Tryz.pinned (OpenSpec.upto mendBestSpec)

/-- 'pecialaw06.MendSurely', WHERE WHAT IT READS IS OF BULK AT MOST 1048576: true; the input reads as it did. -/
def mendSurelyUptoRow : OpenClaim := { program := "ytnklbepeoicgpaagreat", sum := "03d7695b2291988e90748d18d2aded65b0e4096282d6312583da2ba7f8c982c3", func := "pecia/pecialaw06.MendSurely", spec := "mendSurely", inPlace := ["slices.overlaps[int]"], unfollowed := true, recurses := true, apart := false, narrowed := true }
def MendSurelyUptoSaid : Prop := mendSurelyUptoRow.holds Tryz.pinned (OpenSpec.upto mendSurelySpec)

/-- 'pecialaw06.MendChecks', WHERE WHAT IT READS IS OF BULK AT MOST 1048576: true; the input reads as it did. -/
def mendChecksUptoRow : OpenClaim := { program := "ytnklbepeoicgpaagreat", sum := "03d7695b2291988e90748d18d2aded65b0e4096282d6312583da2ba7f8c982c3", func := "pecia/pecialaw06.MendChecks", spec := "mendChecks", inPlace := ["slices.overlaps[int]"], unfollowed := true, recurses := true, apart := false, narrowed := true }
def MendChecksUptoSaid : Prop := mendChecksUptoRow.holds Tryz.pinned (OpenSpec.upto mendChecksSpec)

/-- 'pecialaw06.MendBoth', WHERE WHAT IT READS IS OF BULK AT MOST 1048576: true; the input reads as it did. -/
def mendBothUptoRow : OpenClaim := { program := "ytnklbepeoicgpaagreat", sum := "03d7695b2291988e90748d18d2aded65b0e4096282d6312583da2ba7f8c982c3", func := "pecia/pecialaw06.MendBoth", spec := "mendBoth", inPlace := ["slices.overlaps[int]"], unfollowed := true, recurses := true, apart := false, narrowed := true }
def MendBothUptoSaid : Prop := mendBothUptoRow.holds Tryz.pinned (OpenSpec.upto mendBothSpec)

/-- 'pecialaw06.MendTwo', WHERE WHAT IT READS IS OF BULK AT MOST 1048576: true; the input reads as it did. -/
def mendTwoUptoRow : OpenClaim := { program := "ytnklbepeoicgpaagreat", sum := "03d7695b2291988e90748d18d2aded65b0e4096282d6312583da2ba7f8c982c3", func := "pecia/pecialaw06.MendTwo", spec := "mendTwo", inPlace := ["slices.overlaps[int]"], unfollowed := true, recurses := true, apart := false, narrowed := true }
def MendTwoUptoSaid : Prop := mendTwoUptoRow.holds Tryz.pinned (OpenSpec.upto mendTwoSpec)

/-- 'pecialaw06.MendLater', WHERE WHAT IT READS IS OF BULK AT MOST 1048576: true; the input reads as it did. -/
def mendLaterUptoRow : OpenClaim := { program := "ytnklbepeoicgpaagreat", sum := "03d7695b2291988e90748d18d2aded65b0e4096282d6312583da2ba7f8c982c3", func := "pecia/pecialaw06.MendLater", spec := "mendLater", inPlace := ["slices.overlaps[int]"], unfollowed := true, recurses := true, apart := false, narrowed := true }
def MendLaterUptoSaid : Prop := mendLaterUptoRow.holds Tryz.pinned (OpenSpec.upto mendLaterSpec)

/-- 'pecialaw06.MendProves', WHERE WHAT IT READS IS OF BULK AT MOST 1048576: true; the input reads as it did. -/
def mendProvesUptoRow : OpenClaim := { program := "ytnklbepeoicgpaagreat", sum := "03d7695b2291988e90748d18d2aded65b0e4096282d6312583da2ba7f8c982c3", func := "pecia/pecialaw06.MendProves", spec := "mendProves", inPlace := ["slices.overlaps[int]"], unfollowed := true, recurses := true, apart := false, narrowed := true }
def MendProvesUptoSaid : Prop := mendProvesUptoRow.holds Tryz.pinned (OpenSpec.upto mendProvesSpec)

end Rows
end Go.Proofs.YtnklbepeoicgpaaGreat
