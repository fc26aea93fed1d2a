/-
  No cell of these rows narrows 'for every input' (looked for: loops, veiled, ifaces, maps, wideKeys, modest, calm, conditions, laid).
  DERIVED. THE GIVEN ROWS OF THIS SEAT. 9 by the template 'for every input the law returns true; each argument reads behind the call as it read before'; 0 by the template 'total and deterministic' (their statements: YtbemejeejgpkaaaGreatTotals.lean).
  GIVEN WITH THE SEED: the statements are not yours to turn. If you find one false, say at which input.
  Laid BY PROGRAM, IN A SANDBOX (cutbox-rows.mjs): the forced cells as the released guide's own fill.sh prints them over the translation d2d31c0f8a2803ad… (all of the seat's roots in one cut). By AI agents, Wed Nov 11 2026. No macro, syntax, notation, axiom, sorry.
-/
import Derived.Test.YtbemejeejgpkaaaGreatChecked
import GoSem.Claim
import GoSem.ClaimJoined
import GoSem.ClaimMapViews
import Derived.JoinedTies
import Derived.KernelRfl
namespace Go.Proofs.YtbemejeejgpkaaaGreat
/- THE CELL 'sum', in the pinned program and in every row, IS THE sha256 OF THE DUMP (.gsa) THAT YtbemejeejgpkaaaGreatProg.lean LOADS. Nothing in Lean hashes anything: it is a label: what it is worth is what the hold of that sum in a sandbox is worth. -/
noncomputable def Tryz.pinned : Pinned := { name := "ytbemejeejgpkaaagreat", sum := "d2d31c0f8a2803adc0e308ca6e5d78690db428c96cc739f9f88f41477239a387", checked := Tryz.checked }
namespace Rows
def none {H : Type} : Left H := { results := [], args := [] }

/-- 'thronglaw24.MoveUnits': WHATEVER THE INPUT: true; the input reads as it did. -/
def moveUnitsSpec : ChangeSpec := { name := "moveUnits", fn := fun _ => fun
  | [d] => { results := [.lit (.bool true)], args := [d] }
  | _ => none }
def moveUnitsRow : OpenClaim := { program := "ytbemejeejgpkaaagreat", sum := "d2d31c0f8a2803adc0e308ca6e5d78690db428c96cc739f9f88f41477239a387", func := "throng/thronglaw24.MoveUnits", spec := "moveUnits", inPlace := ["slices.overlaps[int]", "math/bits.Add64"], unfollowed := true, recurses := true, named := ["math/bits.divideError", "math/bits.overflowError"], plainKeys := false, apart := false }
def MoveUnitsSaid : Prop := moveUnitsRow.holds Tryz.pinned (OpenSpec.ofChange moveUnitsSpec)

/-- ITS FALSE NEIGHBOUR: 'it returns false'. Refute it at one input. -/
def moveUnitsWrong : ChangeSpec := { name := "moveUnits", fn := fun _ => fun
  | [d] => { results := [.lit (.bool false)], args := [d] }
  | _ => none }
def MoveUnitsWrongFalsely : Prop := moveUnitsRow.holds Tryz.pinned (OpenSpec.ofChange moveUnitsWrong)

/-- 'thronglaw24.MoveKeeps': WHATEVER THE INPUT: true; the input reads as it did. -/
def moveKeepsSpec : ChangeSpec := { name := "moveKeeps", fn := fun _ => fun
  | [d] => { results := [.lit (.bool true)], args := [d] }
  | _ => none }
def moveKeepsRow : OpenClaim := { program := "ytbemejeejgpkaaagreat", sum := "d2d31c0f8a2803adc0e308ca6e5d78690db428c96cc739f9f88f41477239a387", func := "throng/thronglaw24.MoveKeeps", spec := "moveKeeps", inPlace := ["slices.overlaps[int]", "math/bits.Add64"], unfollowed := true, recurses := true, named := ["math/bits.divideError", "math/bits.overflowError"], plainKeys := false, apart := false }
def MoveKeepsSaid : Prop := moveKeepsRow.holds Tryz.pinned (OpenSpec.ofChange moveKeepsSpec)

/-- ITS FALSE NEIGHBOUR: 'it returns false'. Refute it at one input. -/
def moveKeepsWrong : ChangeSpec := { name := "moveKeeps", fn := fun _ => fun
  | [d] => { results := [.lit (.bool false)], args := [d] }
  | _ => none }
def MoveKeepsWrongFalsely : Prop := moveKeepsRow.holds Tryz.pinned (OpenSpec.ofChange moveKeepsWrong)

/-- 'thronglaw24.MoveArrives': WHATEVER THE INPUT: true; the input reads as it did. -/
def moveArrivesSpec : ChangeSpec := { name := "moveArrives", fn := fun _ => fun
  | [d] => { results := [.lit (.bool true)], args := [d] }
  | _ => none }
def moveArrivesRow : OpenClaim := { program := "ytbemejeejgpkaaagreat", sum := "d2d31c0f8a2803adc0e308ca6e5d78690db428c96cc739f9f88f41477239a387", func := "throng/thronglaw24.MoveArrives", spec := "moveArrives", inPlace := ["slices.overlaps[int]", "math/bits.Add64"], unfollowed := true, recurses := true, named := ["math/bits.divideError", "math/bits.overflowError"], plainKeys := false, apart := false }
def MoveArrivesSaid : Prop := moveArrivesRow.holds Tryz.pinned (OpenSpec.ofChange moveArrivesSpec)

/-- ITS FALSE NEIGHBOUR: 'it returns false'. Refute it at one input. -/
def moveArrivesWrong : ChangeSpec := { name := "moveArrives", fn := fun _ => fun
  | [d] => { results := [.lit (.bool false)], args := [d] }
  | _ => none }
def MoveArrivesWrongFalsely : Prop := moveArrivesRow.holds Tryz.pinned (OpenSpec.ofChange moveArrivesWrong)

/-- 'thronglaw24.MoveGives': WHATEVER THE INPUT: true; the input reads as it did. -/
def moveGivesSpec : ChangeSpec := { name := "moveGives", fn := fun _ => fun
  | [d] => { results := [.lit (.bool true)], args := [d] }
  | _ => none }
def moveGivesRow : OpenClaim := { program := "ytbemejeejgpkaaagreat", sum := "d2d31c0f8a2803adc0e308ca6e5d78690db428c96cc739f9f88f41477239a387", func := "throng/thronglaw24.MoveGives", spec := "moveGives", inPlace := ["slices.overlaps[int]", "math/bits.Add64"], unfollowed := true, recurses := true, named := ["math/bits.divideError", "math/bits.overflowError"], plainKeys := false, apart := false }
def MoveGivesSaid : Prop := moveGivesRow.holds Tryz.pinned (OpenSpec.ofChange moveGivesSpec)

/-- ITS FALSE NEIGHBOUR: 'it returns false'. Refute it at one input. -/
def moveGivesWrong : ChangeSpec := { name := "moveGives", fn := fun _ => fun
  | [d] => { results := [.lit (.bool false)], args := [d] }
  | _ => none }
def MoveGivesWrongFalsely : Prop := moveGivesRow.holds Tryz.pinned (OpenSpec.ofChange moveGivesWrong)

/-- 'thronglaw24.MoveDrifts': WHATEVER THE INPUT: true; the input reads as it did. -/
def moveDriftsSpec : ChangeSpec := { name := "moveDrifts", fn := fun _ => fun
  | [d] => { results := [.lit (.bool true)], args := [d] }
  | _ => none }
def moveDriftsRow : OpenClaim := { program := "ytbemejeejgpkaaagreat", sum := "d2d31c0f8a2803adc0e308ca6e5d78690db428c96cc739f9f88f41477239a387", func := "throng/thronglaw24.MoveDrifts", spec := "moveDrifts", inPlace := ["slices.overlaps[int]", "math/bits.Add64"], unfollowed := true, recurses := true, named := ["math/bits.divideError", "math/bits.overflowError"], plainKeys := false, apart := false }
def MoveDriftsSaid : Prop := moveDriftsRow.holds Tryz.pinned (OpenSpec.ofChange moveDriftsSpec)

/-- ITS FALSE NEIGHBOUR: 'it returns false'. Refute it at one input. -/
def moveDriftsWrong : ChangeSpec := { name := "moveDrifts", fn := fun _ => fun
  | [d] => { results := [.lit (.bool false)], args := [d] }
  | _ => none }
def MoveDriftsWrongFalsely : Prop := moveDriftsRow.holds Tryz.pinned (OpenSpec.ofChange moveDriftsWrong)

/-- 'thronglaw24.MoveTries': WHATEVER THE INPUT: true; the input reads as it did. -/
def moveTriesSpec : ChangeSpec := { name := "moveTries", fn := fun _ => fun
  | [d] => { results := [.lit (.bool true)], args := [d] }
  | _ => none }
def moveTriesRow : OpenClaim := { program := "ytbemejeejgpkaaagreat", sum := "d2d31c0f8a2803adc0e308ca6e5d78690db428c96cc739f9f88f41477239a387", func := "throng/thronglaw24.MoveTries", spec := "moveTries", inPlace := ["slices.overlaps[int]", "math/bits.Add64"], unfollowed := true, recurses := true, named := ["math/bits.divideError", "math/bits.overflowError"], plainKeys := false, apart := false }
def MoveTriesSaid : Prop := moveTriesRow.holds Tryz.pinned (OpenSpec.ofChange moveTriesSpec)

/-- ITS FALSE NEIGHBOUR: 'it returns false'. Refute it at one input. -/
def moveTriesWrong : ChangeSpec := { name := "moveTries", fn := fun _ => fun
  | [d] => { results := [.lit (.bool false)], args := [d] }
  | _ => none }
def MoveTriesWrongFalsely : Prop := moveTriesRow.holds Tryz.pinned (OpenSpec.ofChange moveTriesWrong)

/-- 'thronglaw24.MoveWhole': WHATEVER THE INPUT: true; the input reads as it did. -/
def moveWholeSpec : ChangeSpec := { name := "moveWhole", fn := fun _ => fun
  | [d] => { results := [.lit (.bool true)], args := [d] }
  | _ => none }
def moveWholeRow : OpenClaim := { program := "ytbemejeejgpkaaagreat", sum := "d2d31c0f8a2803adc0e308ca6e5d78690db428c96cc739f9f88f41477239a387", func := "throng/thronglaw24.MoveWhole", spec := "moveWhole", inPlace := ["slices.overlaps[int]", "math/bits.Add64"], unfollowed := true, recurses := true, named := ["math/bits.divideError", "math/bits.overflowError"], plainKeys := false, apart := false }
def MoveWholeSaid : Prop := moveWholeRow.holds Tryz.pinned (OpenSpec.ofChange moveWholeSpec)

/-- ITS FALSE NEIGHBOUR: 'it returns false'. Refute it at one input. -/
def moveWholeWrong : ChangeSpec := { name := "moveWhole", fn := fun _ => fun
  | [d] => { results := [.lit (.bool false)], args := [d] }
  | _ => none }
def MoveWholeWrongFalsely : Prop := moveWholeRow.holds Tryz.pinned (OpenSpec.ofChange moveWholeWrong)

/-- 'thronglaw24.MoveAll': WHATEVER THE INPUT: true; the input reads as it did. -/
def moveAllSpec : ChangeSpec := { name := "moveAll", fn := fun _ => fun
  | [d] => { results := [.lit (.bool true)], args := [d] }
  | _ => none }
def moveAllRow : OpenClaim := { program := "ytbemejeejgpkaaagreat", sum := "d2d31c0f8a2803adc0e308ca6e5d78690db428c96cc739f9f88f41477239a387", func := "throng/thronglaw24.MoveAll", spec := "moveAll", inPlace := ["slices.overlaps[int]", "math/bits.Add64"], unfollowed := true, recurses := true, named := ["math/bits.divideError", "math/bits.overflowError"], plainKeys := false, apart := false }
def MoveAllSaid : Prop := moveAllRow.holds Tryz.pinned (OpenSpec.ofChange moveAllSpec)

/-- ITS FALSE NEIGHBOUR: 'it returns false'. Refute it at one input. -/
def moveAllWrong : ChangeSpec := { name := "moveAll", fn := fun _ => fun
  | [d] => { results := [.lit (.bool false)], args := [d] }
  | _ => none }
def MoveAllWrongFalsely : Prop := moveAllRow.holds Tryz.pinned (OpenSpec.ofChange moveAllWrong)

/-- 'thronglaw24.MoveScripts': WHATEVER THE INPUT: true; the input reads as it did. -/
def moveScriptsSpec : ChangeSpec := { name := "moveScripts", fn := fun _ => fun
  | [d] => { results := [.lit (.bool true)], args := [d] }
  | _ => none }
def moveScriptsRow : OpenClaim := { program := "ytbemejeejgpkaaagreat", sum := "d2d31c0f8a2803adc0e308ca6e5d78690db428c96cc739f9f88f41477239a387", func := "throng/thronglaw24.MoveScripts", spec := "moveScripts", inPlace := ["slices.overlaps[int]", "math/bits.Add64"], unfollowed := true, recurses := true, named := ["math/bits.divideError", "math/bits.overflowError"], plainKeys := false, apart := false }
def MoveScriptsSaid : Prop := moveScriptsRow.holds Tryz.pinned (OpenSpec.ofChange moveScriptsSpec)

/-- ITS FALSE NEIGHBOUR: 'it returns false'. Refute it at one input. -/
def moveScriptsWrong : ChangeSpec := { name := "moveScripts", fn := fun _ => fun
  | [d] => { results := [.lit (.bool false)], args := [d] }
  | _ => none }
def MoveScriptsWrongFalsely : Prop := moveScriptsRow.holds Tryz.pinned (OpenSpec.ofChange moveScriptsWrong)

/- THE SECOND FORM. 'bulk': how many values and letters a reading holds, each counted each time it is reached (what is shared counts as often as it is met; a slice's spare places count too). A statement '..UptoSaid' is the law's where the arguments, and the package variables that the reading takes, are together of bulk at most 1048576: NARROWER than '..Said'. Prove '..Said' where nothing that the law and all that it calls make is longer than what came in: it says more and counts as full. Else prove '..UptoSaid'. A law counts once. -/
mutual
def uptoBulk {H : Type} : DataW H → Nat
  | .lit (.string bytes) => bytes.length + 1
  | .lit _ => 1
  | .nil => 1
  | .ptr d => uptoBulk d + 1
  | .slice elems spare => uptoBulkAll elems + uptoBulkAll spare + 1
  | .agg parts => uptoBulkAll parts + 1
  | .iface _ d => uptoBulk d + 1
  | .map entries => uptoBulkEntries entries + 1
  | .held _ => 1
def uptoBulkAll {H : Type} : List (DataW H) → Nat
  | [] => 0
  | d :: r => uptoBulk d + uptoBulkAll r
def uptoBulkEntries {H : Type} : List (Lit × DataW H) → Nat
  | [] => 0
  | x :: r => uptoBulkEntry x + uptoBulkEntries r
def uptoBulkEntry {H : Type} : Lit × DataW H → Nat
  | (.string bytes, d) => bytes.length + uptoBulk d + 1
  | (_, d) => uptoBulk d + 1
 end
def uptoSmall : (H : Type) → List (DataW H) → Bool := fun _ ds => decide (uptoBulkAll ds ≤ 1048576)
def OpenSpec.upto (s : _root_.Go.ChangeSpec) : _root_.Go.OpenSpec := { _root_.Go.OpenSpec.ofChange s with cond := some uptoSmall }

/-- 'thronglaw24.MoveUnits', WHERE WHAT IT READS IS OF BULK AT MOST 1048576: true; the input reads as it did. -/
def moveUnitsUptoRow : OpenClaim := { program := "ytbemejeejgpkaaagreat", sum := "d2d31c0f8a2803adc0e308ca6e5d78690db428c96cc739f9f88f41477239a387", func := "throng/thronglaw24.MoveUnits", spec := "moveUnits", inPlace := ["slices.overlaps[int]", "math/bits.Add64"], unfollowed := true, recurses := true, named := ["math/bits.divideError", "math/bits.overflowError"], plainKeys := false, apart := false, narrowed := true }
def MoveUnitsUptoSaid : Prop := moveUnitsUptoRow.holds Tryz.pinned (OpenSpec.upto moveUnitsSpec)

/-- 'thronglaw24.MoveKeeps', WHERE WHAT IT READS IS OF BULK AT MOST 1048576: true; the input reads as it did. -/
def moveKeepsUptoRow : OpenClaim := { program := "ytbemejeejgpkaaagreat", sum := "d2d31c0f8a2803adc0e308ca6e5d78690db428c96cc739f9f88f41477239a387", func := "throng/thronglaw24.MoveKeeps", spec := "moveKeeps", inPlace := ["slices.overlaps[int]", "math/bits.Add64"], unfollowed := true, recurses := true, named := ["math/bits.divideError", "math/bits.overflowError"], plainKeys := false, apart := false, narrowed := true }
def MoveKeepsUptoSaid : Prop := moveKeepsUptoRow.holds Tryz.pinned (OpenSpec.upto moveKeepsSpec)

/-- 'thronglaw24.MoveArrives', WHERE WHAT IT READS IS OF BULK AT MOST 1048576: true; the input reads as it did. -/
def moveArrivesUptoRow : OpenClaim := { program := "ytbemejeejgpkaaagreat", sum := "d2d31c0f8a2803adc0e308ca6e5d78690db428c96cc739f9f88f41477239a387", func := "throng/thronglaw24.MoveArrives", spec := "moveArrives", inPlace := ["slices.overlaps[int]", "math/bits.Add64"], unfollowed := true, recurses := true, named := ["math/bits.divideError", "math/bits.overflowError"], plainKeys := false, apart := false, narrowed := true }
def MoveArrivesUptoSaid : Prop := moveArrivesUptoRow.holds Tryz.pinned (OpenSpec.upto moveArrivesSpec)

/-- 'thronglaw24.MoveGives', WHERE WHAT IT READS IS OF BULK AT MOST 1048576: true; the input reads as it did. -/
def moveGivesUptoRow : OpenClaim := { program := "ytbemejeejgpkaaagreat", sum := "d2d31c0f8a2803adc0e308ca6e5d78690db428c96cc739f9f88f41477239a387", func := "throng/thronglaw24.MoveGives", spec := "moveGives", inPlace := ["slices.overlaps[int]", "math/bits.Add64"], unfollowed := true, recurses := true, named := ["math/bits.divideError", "math/bits.overflowError"], plainKeys := false, apart := false, narrowed := true }
def MoveGivesUptoSaid : Prop := moveGivesUptoRow.holds Tryz.pinned (OpenSpec.upto moveGivesSpec)

/-- 'thronglaw24.MoveDrifts', WHERE WHAT IT READS IS OF BULK AT MOST 1048576: true; the input reads as it did. -/
def moveDriftsUptoRow : OpenClaim := { program := "ytbemejeejgpkaaagreat", sum := "d2d31c0f8a2803adc0e308ca6e5d78690db428c96cc739f9f88f41477239a387", func := "throng/thronglaw24.MoveDrifts", spec := "moveDrifts", inPlace := ["slices.overlaps[int]", "math/bits.Add64"], unfollowed := true, recurses := true, named := ["math/bits.divideError", "math/bits.overflowError"], plainKeys := false, apart := false, narrowed := true }
def MoveDriftsUptoSaid : Prop := moveDriftsUptoRow.holds Tryz.pinned (OpenSpec.upto moveDriftsSpec)

/-- 'thronglaw24.MoveTries', WHERE WHAT IT READS IS OF BULK AT MOST 1048576: true; the input reads as it did. -/
def moveTriesUptoRow : OpenClaim := { program := "ytbemejeejgpkaaagreat", sum := "d2d31c0f8a2803adc0e308ca6e5d78690db428c96cc739f9f88f41477239a387", func := "throng/thronglaw24.MoveTries", spec := "moveTries", inPlace := ["slices.overlaps[int]", "math/bits.Add64"], unfollowed := true, recurses := true, named := ["math/bits.divideError", "math/bits.overflowError"], plainKeys := false, apart := false, narrowed := true }
def MoveTriesUptoSaid : Prop := moveTriesUptoRow.holds Tryz.pinned (OpenSpec.upto moveTriesSpec)

/-- 'thronglaw24.MoveWhole', WHERE WHAT IT READS IS OF BULK AT MOST 1048576: true; the input reads as it did. -/
def moveWholeUptoRow : OpenClaim := { program := "ytbemejeejgpkaaagreat", sum := "d2d31c0f8a2803adc0e308ca6e5d78690db428c96cc739f9f88f41477239a387", func := "throng/thronglaw24.MoveWhole", spec := "moveWhole", inPlace := ["slices.overlaps[int]", "math/bits.Add64"], unfollowed := true, recurses := true, named := ["math/bits.divideError", "math/bits.overflowError"], plainKeys := false, apart := false, narrowed := true }
def MoveWholeUptoSaid : Prop := moveWholeUptoRow.holds Tryz.pinned (OpenSpec.upto moveWholeSpec)

/-- 'thronglaw24.MoveAll', WHERE WHAT IT READS IS OF BULK AT MOST 1048576: true; the input reads as it did. -/
def moveAllUptoRow : OpenClaim := { program := "ytbemejeejgpkaaagreat", sum := "d2d31c0f8a2803adc0e308ca6e5d78690db428c96cc739f9f88f41477239a387", func := "throng/thronglaw24.MoveAll", spec := "moveAll", inPlace := ["slices.overlaps[int]", "math/bits.Add64"], unfollowed := true, recurses := true, named := ["math/bits.divideError", "math/bits.overflowError"], plainKeys := false, apart := false, narrowed := true }
def MoveAllUptoSaid : Prop := moveAllUptoRow.holds Tryz.pinned (OpenSpec.upto moveAllSpec)

/-- 'thronglaw24.MoveScripts', WHERE WHAT IT READS IS OF BULK AT MOST 1048576: true; the input reads as it did. -/
def moveScriptsUptoRow : OpenClaim := { program := "ytbemejeejgpkaaagreat", sum := "d2d31c0f8a2803adc0e308ca6e5d78690db428c96cc739f9f88f41477239a387", func := "throng/thronglaw24.MoveScripts", spec := "moveScripts", inPlace := ["slices.overlaps[int]", "math/bits.Add64"], unfollowed := true, recurses := true, named := ["math/bits.divideError", "math/bits.overflowError"], plainKeys := false, apart := false, narrowed := true }
def MoveScriptsUptoSaid : Prop := moveScriptsUptoRow.holds Tryz.pinned (OpenSpec.upto moveScriptsSpec)

end Rows
end Go.Proofs.YtbemejeejgpkaaaGreat
