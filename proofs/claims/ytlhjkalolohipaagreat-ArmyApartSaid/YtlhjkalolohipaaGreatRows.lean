/-
  No cell of these rows narrows 'for every input' (looked for: loops, veiled, ifaces, maps, wideKeys, modest, calm, conditions, laid).
  DERIVED. THE GIVEN ROWS OF THIS SEAT. 9 by the template 'for every input the law returns true; each argument reads behind the call as it read before'; 0 by the template 'total and deterministic' (their statements: YtlhjkalolohipaaGreatTotals.lean).
  GIVEN WITH THE SEED: the statements are not yours to turn. If you find one false, say at which input.
  Laid BY PROGRAM, IN A SANDBOX (cutbox-rows.mjs): the forced cells as the released guide's own fill.sh prints them over the translation fda4839c8dc59051… (all of the seat's roots in one cut). By AI agents, Wed Nov 11 2026. No macro, syntax, notation, axiom, sorry.
-/
import Derived.Test.YtlhjkalolohipaaGreatChecked
import GoSem.Claim
import GoSem.ClaimJoined
import GoSem.ClaimMapViews
import Derived.JoinedTies
import Derived.KernelRfl
namespace Go.Proofs.YtlhjkalolohipaaGreat
/- THE CELL 'sum', in the pinned program and in every row, IS THE sha256 OF THE DUMP (.gsa) THAT YtlhjkalolohipaaGreatProg.lean LOADS. Nothing in Lean hashes anything: it is a label: what it is worth is what the hold of that sum in a sandbox is worth. -/
noncomputable def Tryz.pinned : Pinned := { name := "ytlhjkalolohipaagreat", sum := "fda4839c8dc59051513cd8bdce5928fa5843a187856a6b1f19b68a2940c50182", checked := Tryz.checked }
namespace Rows
def none {H : Type} : Left H := { results := [], args := [] }

/-- 'thronglaw21.ArmyChecks': WHATEVER THE INPUT: true; the input reads as it did. -/
def armyChecksSpec : ChangeSpec := { name := "armyChecks", fn := fun _ => fun
  | [d] => { results := [.lit (.bool true)], args := [d] }
  | _ => none }
def armyChecksRow : OpenClaim := { program := "ytlhjkalolohipaagreat", sum := "fda4839c8dc59051513cd8bdce5928fa5843a187856a6b1f19b68a2940c50182", func := "throng/thronglaw21.ArmyChecks", spec := "armyChecks", inPlace := ["slices.overlaps[int]", "math/bits.Add64"], unfollowed := true, recurses := true, plainKeys := false, apart := false }
def ArmyChecksSaid : Prop := armyChecksRow.holds Tryz.pinned (OpenSpec.ofChange armyChecksSpec)

/-- ITS FALSE NEIGHBOUR: 'it returns false'. Refute it at one input. -/
def armyChecksWrong : ChangeSpec := { name := "armyChecks", fn := fun _ => fun
  | [d] => { results := [.lit (.bool false)], args := [d] }
  | _ => none }
def ArmyChecksWrongFalsely : Prop := armyChecksRow.holds Tryz.pinned (OpenSpec.ofChange armyChecksWrong)

/-- 'thronglaw21.ArmySpoilt': WHATEVER THE INPUT: true; the input reads as it did. -/
def armySpoiltSpec : ChangeSpec := { name := "armySpoilt", fn := fun _ => fun
  | [d] => { results := [.lit (.bool true)], args := [d] }
  | _ => none }
def armySpoiltRow : OpenClaim := { program := "ytlhjkalolohipaagreat", sum := "fda4839c8dc59051513cd8bdce5928fa5843a187856a6b1f19b68a2940c50182", func := "throng/thronglaw21.ArmySpoilt", spec := "armySpoilt", inPlace := ["slices.overlaps[int]", "math/bits.Add64"], unfollowed := true, recurses := true, plainKeys := false, apart := false }
def ArmySpoiltSaid : Prop := armySpoiltRow.holds Tryz.pinned (OpenSpec.ofChange armySpoiltSpec)

/-- ITS FALSE NEIGHBOUR: 'it returns false'. Refute it at one input. -/
def armySpoiltWrong : ChangeSpec := { name := "armySpoilt", fn := fun _ => fun
  | [d] => { results := [.lit (.bool false)], args := [d] }
  | _ => none }
def ArmySpoiltWrongFalsely : Prop := armySpoiltRow.holds Tryz.pinned (OpenSpec.ofChange armySpoiltWrong)

/-- 'thronglaw21.ArmyPlaces': WHATEVER THE INPUT: true; the input reads as it did. -/
def armyPlacesSpec : ChangeSpec := { name := "armyPlaces", fn := fun _ => fun
  | [d] => { results := [.lit (.bool true)], args := [d] }
  | _ => none }
def armyPlacesRow : OpenClaim := { program := "ytlhjkalolohipaagreat", sum := "fda4839c8dc59051513cd8bdce5928fa5843a187856a6b1f19b68a2940c50182", func := "throng/thronglaw21.ArmyPlaces", spec := "armyPlaces", inPlace := ["slices.overlaps[int]", "math/bits.Add64"], unfollowed := true, recurses := true, plainKeys := false, apart := false }
def ArmyPlacesSaid : Prop := armyPlacesRow.holds Tryz.pinned (OpenSpec.ofChange armyPlacesSpec)

/-- ITS FALSE NEIGHBOUR: 'it returns false'. Refute it at one input. -/
def armyPlacesWrong : ChangeSpec := { name := "armyPlaces", fn := fun _ => fun
  | [d] => { results := [.lit (.bool false)], args := [d] }
  | _ => none }
def ArmyPlacesWrongFalsely : Prop := armyPlacesRow.holds Tryz.pinned (OpenSpec.ofChange armyPlacesWrong)

/-- 'thronglaw21.ArmyApart': WHATEVER THE INPUT: true; the input reads as it did. -/
def armyApartSpec : ChangeSpec := { name := "armyApart", fn := fun _ => fun
  | [d] => { results := [.lit (.bool true)], args := [d] }
  | _ => none }
def armyApartRow : OpenClaim := { program := "ytlhjkalolohipaagreat", sum := "fda4839c8dc59051513cd8bdce5928fa5843a187856a6b1f19b68a2940c50182", func := "throng/thronglaw21.ArmyApart", spec := "armyApart", inPlace := ["slices.overlaps[int]", "math/bits.Add64"], unfollowed := true, recurses := true, plainKeys := false, apart := false }
def ArmyApartSaid : Prop := armyApartRow.holds Tryz.pinned (OpenSpec.ofChange armyApartSpec)

/-- ITS FALSE NEIGHBOUR: 'it returns false'. Refute it at one input. -/
def armyApartWrong : ChangeSpec := { name := "armyApart", fn := fun _ => fun
  | [d] => { results := [.lit (.bool false)], args := [d] }
  | _ => none }
def ArmyApartWrongFalsely : Prop := armyApartRow.holds Tryz.pinned (OpenSpec.ofChange armyApartWrong)

/-- 'thronglaw21.ArmyRides': WHATEVER THE INPUT: true; the input reads as it did. -/
def armyRidesSpec : ChangeSpec := { name := "armyRides", fn := fun _ => fun
  | [d] => { results := [.lit (.bool true)], args := [d] }
  | _ => none }
def armyRidesRow : OpenClaim := { program := "ytlhjkalolohipaagreat", sum := "fda4839c8dc59051513cd8bdce5928fa5843a187856a6b1f19b68a2940c50182", func := "throng/thronglaw21.ArmyRides", spec := "armyRides", inPlace := ["slices.overlaps[int]", "math/bits.Add64"], unfollowed := true, recurses := true, plainKeys := false, apart := false }
def ArmyRidesSaid : Prop := armyRidesRow.holds Tryz.pinned (OpenSpec.ofChange armyRidesSpec)

/-- ITS FALSE NEIGHBOUR: 'it returns false'. Refute it at one input. -/
def armyRidesWrong : ChangeSpec := { name := "armyRides", fn := fun _ => fun
  | [d] => { results := [.lit (.bool false)], args := [d] }
  | _ => none }
def ArmyRidesWrongFalsely : Prop := armyRidesRow.holds Tryz.pinned (OpenSpec.ofChange armyRidesWrong)

/-- 'thronglaw21.ArmyFinds': WHATEVER THE INPUT: true; the input reads as it did. -/
def armyFindsSpec : ChangeSpec := { name := "armyFinds", fn := fun _ => fun
  | [d] => { results := [.lit (.bool true)], args := [d] }
  | _ => none }
def armyFindsRow : OpenClaim := { program := "ytlhjkalolohipaagreat", sum := "fda4839c8dc59051513cd8bdce5928fa5843a187856a6b1f19b68a2940c50182", func := "throng/thronglaw21.ArmyFinds", spec := "armyFinds", inPlace := ["slices.overlaps[int]", "math/bits.Add64"], unfollowed := true, recurses := true, plainKeys := false, apart := false }
def ArmyFindsSaid : Prop := armyFindsRow.holds Tryz.pinned (OpenSpec.ofChange armyFindsSpec)

/-- ITS FALSE NEIGHBOUR: 'it returns false'. Refute it at one input. -/
def armyFindsWrong : ChangeSpec := { name := "armyFinds", fn := fun _ => fun
  | [d] => { results := [.lit (.bool false)], args := [d] }
  | _ => none }
def ArmyFindsWrongFalsely : Prop := armyFindsRow.holds Tryz.pinned (OpenSpec.ofChange armyFindsWrong)

/-- 'thronglaw31.ViewDraws': WHATEVER THE INPUT: true; the input reads as it did. -/
def viewDrawsSpec : ChangeSpec := { name := "viewDraws", fn := fun _ => fun
  | [d] => { results := [.lit (.bool true)], args := [d] }
  | _ => none }
def viewDrawsRow : OpenClaim := { program := "ytlhjkalolohipaagreat", sum := "fda4839c8dc59051513cd8bdce5928fa5843a187856a6b1f19b68a2940c50182", func := "throng/thronglaw31.ViewDraws", spec := "viewDraws", inPlace := ["slices.overlaps[int]", "math/bits.Add64"], unfollowed := true, recurses := true, plainKeys := false, apart := false }
def ViewDrawsSaid : Prop := viewDrawsRow.holds Tryz.pinned (OpenSpec.ofChange viewDrawsSpec)

/-- ITS FALSE NEIGHBOUR: 'it returns false'. Refute it at one input. -/
def viewDrawsWrong : ChangeSpec := { name := "viewDraws", fn := fun _ => fun
  | [d] => { results := [.lit (.bool false)], args := [d] }
  | _ => none }
def ViewDrawsWrongFalsely : Prop := viewDrawsRow.holds Tryz.pinned (OpenSpec.ofChange viewDrawsWrong)

/-- 'thronglaw31.ViewCounts': WHATEVER THE INPUT: true; the input reads as it did. -/
def viewCountsSpec : ChangeSpec := { name := "viewCounts", fn := fun _ => fun
  | [d] => { results := [.lit (.bool true)], args := [d] }
  | _ => none }
def viewCountsRow : OpenClaim := { program := "ytlhjkalolohipaagreat", sum := "fda4839c8dc59051513cd8bdce5928fa5843a187856a6b1f19b68a2940c50182", func := "throng/thronglaw31.ViewCounts", spec := "viewCounts", inPlace := ["slices.overlaps[int]", "math/bits.Add64"], unfollowed := true, recurses := true, plainKeys := false, apart := false }
def ViewCountsSaid : Prop := viewCountsRow.holds Tryz.pinned (OpenSpec.ofChange viewCountsSpec)

/-- ITS FALSE NEIGHBOUR: 'it returns false'. Refute it at one input. -/
def viewCountsWrong : ChangeSpec := { name := "viewCounts", fn := fun _ => fun
  | [d] => { results := [.lit (.bool false)], args := [d] }
  | _ => none }
def ViewCountsWrongFalsely : Prop := viewCountsRow.holds Tryz.pinned (OpenSpec.ofChange viewCountsWrong)

/-- 'thronglaw31.ViewSigns': WHATEVER THE INPUT: true; the input reads as it did. -/
def viewSignsSpec : ChangeSpec := { name := "viewSigns", fn := fun _ => fun
  | [d] => { results := [.lit (.bool true)], args := [d] }
  | _ => none }
def viewSignsRow : OpenClaim := { program := "ytlhjkalolohipaagreat", sum := "fda4839c8dc59051513cd8bdce5928fa5843a187856a6b1f19b68a2940c50182", func := "throng/thronglaw31.ViewSigns", spec := "viewSigns", inPlace := ["slices.overlaps[int]", "math/bits.Add64"], unfollowed := true, recurses := true, plainKeys := false, apart := false }
def ViewSignsSaid : Prop := viewSignsRow.holds Tryz.pinned (OpenSpec.ofChange viewSignsSpec)

/-- ITS FALSE NEIGHBOUR: 'it returns false'. Refute it at one input. -/
def viewSignsWrong : ChangeSpec := { name := "viewSigns", fn := fun _ => fun
  | [d] => { results := [.lit (.bool false)], args := [d] }
  | _ => none }
def ViewSignsWrongFalsely : Prop := viewSignsRow.holds Tryz.pinned (OpenSpec.ofChange viewSignsWrong)

/- THE SECOND FORM. 'bulk': how many values and letters a reading holds, each counted each time it is reached (what is shared counts as often as it is met; a slice's spare places count too). A statement '..UptoSaid' is the law's where the arguments, and the package variables that the reading takes, are together of bulk at most 1048576: NARROWER than '..Said'. Prove '..Said' where nothing that the law and all that it calls make is longer than what came in: it says more and counts as full. Else prove '..UptoSaid'. A law counts once. -/
mutual
def uptoBulk {H : Type} : DataW H → Nat
  | .lit (.string bytes) => bytes.length + 1
  | .lit _ => 1
  | .nil => 1
  | .ptr d => uptoBulk d + 1
  | .slice elems spare => uptoBulkAll elems + uptoBulkAll spare + 1
  | .agg parts => uptoBulkAll parts + 1
  | .iface _ d => uptoBulk d + 1
  | .map entries => uptoBulkEntries entries + 1
  | .held _ => 1
def uptoBulkAll {H : Type} : List (DataW H) → Nat
  | [] => 0
  | d :: r => uptoBulk d + uptoBulkAll r
def uptoBulkEntries {H : Type} : List (Lit × DataW H) → Nat
  | [] => 0
  | x :: r => uptoBulkEntry x + uptoBulkEntries r
def uptoBulkEntry {H : Type} : Lit × DataW H → Nat
  | (.string bytes, d) => bytes.length + uptoBulk d + 1
  | (_, d) => uptoBulk d + 1
 end
def uptoSmall : (H : Type) → List (DataW H) → Bool := fun _ ds => decide (uptoBulkAll ds ≤ 1048576)
def OpenSpec.upto (s : _root_.Go.ChangeSpec) : _root_.Go.OpenSpec := { _root_.Go.OpenSpec.ofChange s with cond := some uptoSmall }

/-- 'thronglaw21.ArmyChecks', WHERE WHAT IT READS IS OF BULK AT MOST 1048576: true; the input reads as it did. -/
def armyChecksUptoRow : OpenClaim := { program := "ytlhjkalolohipaagreat", sum := "fda4839c8dc59051513cd8bdce5928fa5843a187856a6b1f19b68a2940c50182", func := "throng/thronglaw21.ArmyChecks", spec := "armyChecks", inPlace := ["slices.overlaps[int]", "math/bits.Add64"], unfollowed := true, recurses := true, plainKeys := false, apart := false, narrowed := true }
def ArmyChecksUptoSaid : Prop := armyChecksUptoRow.holds Tryz.pinned (OpenSpec.upto armyChecksSpec)

/-- 'thronglaw21.ArmySpoilt', WHERE WHAT IT READS IS OF BULK AT MOST 1048576: true; the input reads as it did. -/
def armySpoiltUptoRow : OpenClaim := { program := "ytlhjkalolohipaagreat", sum := "fda4839c8dc59051513cd8bdce5928fa5843a187856a6b1f19b68a2940c50182", func := "throng/thronglaw21.ArmySpoilt", spec := "armySpoilt", inPlace := ["slices.overlaps[int]", "math/bits.Add64"], unfollowed := true, recurses := true, plainKeys := false, apart := false, narrowed := true }
def ArmySpoiltUptoSaid : Prop := armySpoiltUptoRow.holds Tryz.pinned (OpenSpec.upto armySpoiltSpec)

/-- 'thronglaw21.ArmyPlaces', WHERE WHAT IT READS IS OF BULK AT MOST 1048576: true; the input reads as it did. -/
def armyPlacesUptoRow : OpenClaim := { program := "ytlhjkalolohipaagreat", sum := "fda4839c8dc59051513cd8bdce5928fa5843a187856a6b1f19b68a2940c50182", func := "throng/thronglaw21.ArmyPlaces", spec := "armyPlaces", inPlace := ["slices.overlaps[int]", "math/bits.Add64"], unfollowed := true, recurses := true, plainKeys := false, apart := false, narrowed := true }
def ArmyPlacesUptoSaid : Prop := armyPlacesUptoRow.holds Tryz.pinned (OpenSpec.upto armyPlacesSpec)

/-- 'thronglaw21.ArmyApart', WHERE WHAT IT READS IS OF BULK AT MOST 1048576: true; the input reads as it did. -/
def armyApartUptoRow : OpenClaim := { program := "ytlhjkalolohipaagreat", sum := "fda4839c8dc59051513cd8bdce5928fa5843a187856a6b1f19b68a2940c50182", func := "throng/thronglaw21.ArmyApart", spec := "armyApart", inPlace := ["slices.overlaps[int]", "math/bits.Add64"], unfollowed := true, recurses := true, plainKeys := false, apart := false, narrowed := true }
def ArmyApartUptoSaid : Prop := armyApartUptoRow.holds Tryz.pinned (OpenSpec.upto armyApartSpec)

/-- 'thronglaw21.ArmyRides', WHERE WHAT IT READS IS OF BULK AT MOST 1048576: true; the input reads as it did. -/
def armyRidesUptoRow : OpenClaim := { program := "ytlhjkalolohipaagreat", sum := "fda4839c8dc59051513cd8bdce5928fa5843a187856a6b1f19b68a2940c50182", func := "throng/thronglaw21.ArmyRides", spec := "armyRides", inPlace := ["slices.overlaps[int]", "math/bits.Add64"], unfollowed := true, recurses := true, plainKeys := false, apart := false, narrowed := true }
def ArmyRidesUptoSaid : Prop := armyRidesUptoRow.holds Tryz.pinned (OpenSpec.upto armyRidesSpec)

/-- 'thronglaw21.ArmyFinds', WHERE WHAT IT READS IS OF BULK AT MOST 1048576: true; the input reads as it did. -/
def armyFindsUptoRow : OpenClaim := { program := "ytlhjkalolohipaagreat", sum := "fda4839c8dc59051513cd8bdce5928fa5843a187856a6b1f19b68a2940c50182", func := "throng/thronglaw21.ArmyFinds", spec := "armyFinds", inPlace := ["slices.overlaps[int]", "math/bits.Add64"], unfollowed := true, recurses := true, plainKeys := false, apart := false, narrowed := true }
def ArmyFindsUptoSaid : Prop := armyFindsUptoRow.holds Tryz.pinned (OpenSpec.upto armyFindsSpec)

/-- 'thronglaw31.ViewDraws', WHERE WHAT IT READS IS OF BULK AT MOST 1048576: true; the input reads as it did. -/
def viewDrawsUptoRow : OpenClaim := { program := "ytlhjkalolohipaagreat", sum := "fda4839c8dc59051513cd8bdce5928fa5843a187856a6b1f19b68a2940c50182", func := "throng/thronglaw31.ViewDraws", spec := "viewDraws", inPlace := ["slices.overlaps[int]", "math/bits.Add64"], unfollowed := true, recurses := true, plainKeys := false, apart := false, narrowed := true }
def ViewDrawsUptoSaid : Prop := viewDrawsUptoRow.holds Tryz.pinned (OpenSpec.upto viewDrawsSpec)

/-- 'thronglaw31.ViewCounts', WHERE WHAT IT READS IS OF BULK AT MOST 1048576: true; the input reads as it did. -/
def viewCountsUptoRow : OpenClaim := { program := "ytlhjkalolohipaagreat", sum := "fda4839c8dc59051513cd8bdce5928fa5843a187856a6b1f19b68a2940c50182", func := "throng/thronglaw31.ViewCounts", spec := "viewCounts", inPlace := ["slices.overlaps[int]", "math/bits.Add64"], unfollowed := true, recurses := true, plainKeys := false, apart := false, narrowed := true }
def ViewCountsUptoSaid : Prop := viewCountsUptoRow.holds Tryz.pinned (OpenSpec.upto viewCountsSpec)

/-- 'thronglaw31.ViewSigns', WHERE WHAT IT READS IS OF BULK AT MOST 1048576: true; the input reads as it did. -/
def viewSignsUptoRow : OpenClaim := { program := "ytlhjkalolohipaagreat", sum := "fda4839c8dc59051513cd8bdce5928fa5843a187856a6b1f19b68a2940c50182", func := "throng/thronglaw31.ViewSigns", spec := "viewSigns", inPlace := ["slices.overlaps[int]", "math/bits.Add64"], unfollowed := true, recurses := true, plainKeys := false, apart := false, narrowed := true }
def ViewSignsUptoSaid : Prop := viewSignsUptoRow.holds Tryz.pinned (OpenSpec.upto viewSignsSpec)

end Rows
end Go.Proofs.YtlhjkalolohipaaGreat
