/-
  No cell of these rows narrows 'for every input' (looked for: loops, veiled, ifaces, maps, wideKeys, modest, calm, conditions, laid).
  DERIVED. THE GIVEN ROWS OF THIS SEAT. 3 by the template 'for every input the law returns true; each argument reads behind the call as it read before'; 0 by the template 'total and deterministic' (their statements: YtlidamnkhidljaaGreatTotals.lean).
  GIVEN WITH THE SEED: the statements are not yours to turn. If you find one false, say at which input.
  Laid BY PROGRAM, IN A SANDBOX (cutbox-rows.mjs): the forced cells as the released guide's own fill.sh prints them over the translation 0d177e451bc1c740… (all of the seat's roots in one cut). By AI agents, Wed Nov 11 2026. No macro, syntax, notation, axiom, sorry.
-/
import Derived.Test.YtlidamnkhidljaaGreatChecked
import GoSem.Claim
import GoSem.ClaimJoined
import GoSem.ClaimMapViews
import Derived.JoinedTies
import Derived.KernelRfl
namespace Go.Proofs.YtlidamnkhidljaaGreat
/- THE CELL 'sum', in the pinned program and in every row, IS THE sha256 OF THE DUMP (.gsa) THAT YtlidamnkhidljaaGreatProg.lean LOADS. Nothing in Lean hashes anything: it is a label: what it is worth is what the hold of that sum in a sandbox is worth. -/
noncomputable def Tryz.pinned : Pinned := { name := "ytlidamnkhidljaagreat", sum := "0d177e451bc1c7407e2dc048ae77ee031939e683d68d4c7c0e2b3f71cfb1a559", checked := Tryz.checked }
namespace Rows
def none {H : Type} : Left H := { results := [], args := [] }

/-- 'thronglaw31.ViewDraws': WHATEVER THE INPUT: true; the input reads as it did. -/
def viewDrawsSpec : ChangeSpec := { name := "viewDraws", fn := fun _ => fun
  | [d] => { results := [.lit (.bool true)], args := [d] }
  | _ => none }
def viewDrawsRow : OpenClaim := { program := "ytlidamnkhidljaagreat", sum := "0d177e451bc1c7407e2dc048ae77ee031939e683d68d4c7c0e2b3f71cfb1a559", func := "throng/thronglaw31.ViewDraws", spec := "viewDraws", inPlace := ["slices.overlaps[int]", "math/bits.Add64"], unfollowed := true, recurses := true, plainKeys := false, apart := false }
def ViewDrawsSaid : Prop := viewDrawsRow.holds Tryz.pinned (OpenSpec.ofChange viewDrawsSpec)

/-- ITS FALSE NEIGHBOUR: 'it returns false'. Refute it at one input. -/
def viewDrawsWrong : ChangeSpec := { name := "viewDraws", fn := fun _ => fun
  | [d] => { results := [.lit (.bool false)], args := [d] }
  | _ => none }
def ViewDrawsWrongFalsely : Prop := viewDrawsRow.holds Tryz.pinned (OpenSpec.ofChange viewDrawsWrong)

/-- 'thronglaw31.ViewCounts': WHATEVER THE INPUT: true; the input reads as it did. -/
def viewCountsSpec : ChangeSpec := { name := "viewCounts", fn := fun _ => fun
  | [d] => { results := [.lit (.bool true)], args := [d] }
  | _ => none }
def viewCountsRow : OpenClaim := { program := "ytlidamnkhidljaagreat", sum := "0d177e451bc1c7407e2dc048ae77ee031939e683d68d4c7c0e2b3f71cfb1a559", func := "throng/thronglaw31.ViewCounts", spec := "viewCounts", inPlace := ["slices.overlaps[int]", "math/bits.Add64"], unfollowed := true, recurses := true, plainKeys := false, apart := false }
def ViewCountsSaid : Prop := viewCountsRow.holds Tryz.pinned (OpenSpec.ofChange viewCountsSpec)

/-- ITS FALSE NEIGHBOUR: 'it returns false'. Refute it at one input. -/
def viewCountsWrong : ChangeSpec := { name := "viewCounts", fn := fun _ => fun
  | [d] => { results := [.lit (.bool false)], args := [d] }
  | _ => none }
def ViewCountsWrongFalsely : Prop := viewCountsRow.holds Tryz.pinned (OpenSpec.ofChange viewCountsWrong)

/-- 'thronglaw31.ViewSigns': WHATEVER THE INPUT: true; the input reads as it did. -/
def viewSignsSpec : ChangeSpec := { name := "viewSigns", fn := fun _ => fun
  | [d] => { results := [.lit (.bool true)], args := [d] }
  | _ => none }
def viewSignsRow : OpenClaim := { program := "ytlidamnkhidljaagreat", sum := "0d177e451bc1c7407e2dc048ae77ee031939e683d68d4c7c0e2b3f71cfb1a559", func := "throng/thronglaw31.ViewSigns", spec := "viewSigns", inPlace := ["slices.overlaps[int]", "math/bits.Add64"], unfollowed := true, recurses := true, plainKeys := false, apart := false }
def ViewSignsSaid : Prop := viewSignsRow.holds Tryz.pinned (OpenSpec.ofChange viewSignsSpec)

/-- ITS FALSE NEIGHBOUR: 'it returns false'. Refute it at one input. -/
def viewSignsWrong : ChangeSpec := { name := "viewSigns", fn := fun _ => fun
  | [d] => { results := [.lit (.bool false)], args := [d] }
  | _ => none }
def ViewSignsWrongFalsely : Prop := viewSignsRow.holds Tryz.pinned (OpenSpec.ofChange viewSignsWrong)

/- THE SECOND FORM. 'bulk': how many values and letters a reading holds, each counted each time it is reached (what is shared counts as often as it is met; a slice's spare places count too). A statement '..UptoSaid' is the law's where the arguments, and the package variables that the reading takes, are together of bulk at most 1048576: NARROWER than '..Said'. Prove '..Said' where nothing that the law and all that it calls make is longer than what came in: it says more and counts as full. Else prove '..UptoSaid'. A law counts once. -/
mutual
def uptoBulk {H : Type} : DataW H → Nat
  | .lit (.string bytes) => bytes.length + 1
  | .lit _ => 1
  | .nil => 1
  | .ptr d => uptoBulk d + 1
  | .slice elems spare => uptoBulkAll elems + uptoBulkAll spare + 1
  | .agg parts => uptoBulkAll parts + 1
  | .iface _ d => uptoBulk d + 1
  | .map entries => uptoBulkEntries entries + 1
  | .held _ => 1
def uptoBulkAll {H : Type} : List (DataW H) → Nat
  | [] => 0
  | d :: r => uptoBulk d + uptoBulkAll r
def uptoBulkEntries {H : Type} : List (Lit × DataW H) → Nat
  | [] => 0
  | x :: r => uptoBulkEntry x + uptoBulkEntries r
def uptoBulkEntry {H : Type} : Lit × DataW H → Nat
  | (.string bytes, d) => bytes.length + uptoBulk d + 1
  | (_, d) => uptoBulk d + 1
 end
def uptoSmall : (H : Type) → List (DataW H) → Bool := fun _ ds => decide (uptoBulkAll ds ≤ 1048576)
def OpenSpec.upto (s : _root_.Go.ChangeSpec) : _root_.Go.OpenSpec := { _root_.Go.OpenSpec.ofChange s with cond := some uptoSmall }

/-- 'thronglaw31.ViewDraws', WHERE WHAT IT READS IS OF BULK AT MOST 1048576: true; the input reads as it did. -/
def viewDrawsUptoRow : OpenClaim := { program := "ytlidamnkhidljaagreat", sum := "0d177e451bc1c7407e2dc048ae77ee031939e683d68d4c7c0e2b3f71cfb1a559", func := "throng/thronglaw31.ViewDraws", spec := "viewDraws", inPlace := ["slices.overlaps[int]", "math/bits.Add64"], unfollowed := true, recurses := true, plainKeys := false, apart := false, narrowed := true }
def ViewDrawsUptoSaid : Prop := viewDrawsUptoRow.holds Tryz.pinned (OpenSpec.upto viewDrawsSpec)

/-- 'thronglaw31.ViewCounts', WHERE WHAT IT READS IS OF BULK AT MOST 1048576: true; the input reads as it did. -/
def viewCountsUptoRow : OpenClaim := { program := "ytlidamnkhidljaagreat", sum := "0d177e451bc1c7407e2dc048ae77ee031939e683d68d4c7c0e2b3f71cfb1a559", func := "throng/thronglaw31.ViewCounts", spec := "viewCounts", inPlace := ["slices.overlaps[int]", "math/bits.Add64"], unfollowed := true, recurses := true, plainKeys := false, apart := false, narrowed := true }
def ViewCountsUptoSaid : Prop := viewCountsUptoRow.holds Tryz.pinned (OpenSpec.upto viewCountsSpec)

/-- 'thronglaw31.ViewSigns', WHERE WHAT IT READS IS OF BULK AT MOST 1048576: true; the input reads as it did. -/
def viewSignsUptoRow : OpenClaim := { program := "ytlidamnkhidljaagreat", sum := "0d177e451bc1c7407e2dc048ae77ee031939e683d68d4c7c0e2b3f71cfb1a559", func := "throng/thronglaw31.ViewSigns", spec := "viewSigns", inPlace := ["slices.overlaps[int]", "math/bits.Add64"], unfollowed := true, recurses := true, plainKeys := false, apart := false, narrowed := true }
def ViewSignsUptoSaid : Prop := viewSignsUptoRow.holds Tryz.pinned (OpenSpec.upto viewSignsSpec)

end Rows
end Go.Proofs.YtlidamnkhidljaaGreat
