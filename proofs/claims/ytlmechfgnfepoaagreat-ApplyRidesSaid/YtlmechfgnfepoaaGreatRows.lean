/-
  No cell of these rows narrows 'for every input' (looked for: loops, veiled, ifaces, maps, wideKeys, modest, calm, conditions, laid).
  DERIVED. THE GIVEN ROWS OF THIS SEAT. 12 by the template 'for every input the law returns true; each argument reads behind the call as it read before'; 0 by the template 'total and deterministic' (their statements: YtlmechfgnfepoaaGreatTotals.lean).
  GIVEN WITH THE SEED: the statements are not yours to turn. If you find one false, say at which input.
  Laid BY PROGRAM, IN A SANDBOX (cutbox-rows.mjs): the forced cells as the released guide's own fill.sh prints them over the translation 4982370b69a9e1a1… (all of the seat's roots in one cut). By AI agents, Wed Nov 11 2026. No macro, syntax, notation, axiom, sorry.
-/
import Derived.Test.YtlmechfgnfepoaaGreatChecked
import GoSem.Claim
import GoSem.ClaimJoined
import GoSem.ClaimMapViews
import Derived.JoinedTies
import Derived.KernelRfl
namespace Go.Proofs.YtlmechfgnfepoaaGreat
/- THE CELL 'sum', in the pinned program and in every row, IS THE sha256 OF THE DUMP (.gsa) THAT YtlmechfgnfepoaaGreatProg.lean LOADS. Nothing in Lean hashes anything: it is a label: what it is worth is what the hold of that sum in a sandbox is worth. -/
noncomputable def Tryz.pinned : Pinned := { name := "ytlmechfgnfepoaagreat", sum := "4982370b69a9e1a18b75bd14e17c8123f6db94986a37772e83f1621092a1aafb", checked := Tryz.checked }
namespace Rows
def none {H : Type} : Left H := { results := [], args := [] }

/-- 'thronglaw23.ApplyExact': WHATEVER THE INPUT: true; the input reads as it did. -/
def applyExactSpec : ChangeSpec := { name := "applyExact", fn := fun _ => fun
  | [d] => { results := [.lit (.bool true)], args := [d] }
  | _ => none }
def applyExactRow : OpenClaim := { program := "ytlmechfgnfepoaagreat", sum := "4982370b69a9e1a18b75bd14e17c8123f6db94986a37772e83f1621092a1aafb", func := "throng/thronglaw23.ApplyExact", spec := "applyExact", inPlace := ["slices.overlaps[int]", "math/bits.Add64", "slices.overlaps[throng/api.Building]"], unfollowed := true, recurses := true, plainKeys := false, apart := false }
def ApplyExactSaid : Prop := applyExactRow.holds Tryz.pinned (OpenSpec.ofChange applyExactSpec)

/-- ITS FALSE NEIGHBOUR: 'it returns false'. Refute it at one input. -/
def applyExactWrong : ChangeSpec := { name := "applyExact", fn := fun _ => fun
  | [d] => { results := [.lit (.bool false)], args := [d] }
  | _ => none }
def ApplyExactWrongFalsely : Prop := applyExactRow.holds Tryz.pinned (OpenSpec.ofChange applyExactWrong)

/-- 'thronglaw23.ApplySpawns': WHATEVER THE INPUT: true; the input reads as it did. -/
def applySpawnsSpec : ChangeSpec := { name := "applySpawns", fn := fun _ => fun
  | [d] => { results := [.lit (.bool true)], args := [d] }
  | _ => none }
def applySpawnsRow : OpenClaim := { program := "ytlmechfgnfepoaagreat", sum := "4982370b69a9e1a18b75bd14e17c8123f6db94986a37772e83f1621092a1aafb", func := "throng/thronglaw23.ApplySpawns", spec := "applySpawns", inPlace := ["slices.overlaps[int]", "math/bits.Add64", "slices.overlaps[throng/api.Building]"], unfollowed := true, recurses := true, plainKeys := false, apart := false }
def ApplySpawnsSaid : Prop := applySpawnsRow.holds Tryz.pinned (OpenSpec.ofChange applySpawnsSpec)

/-- ITS FALSE NEIGHBOUR: 'it returns false'. Refute it at one input. -/
def applySpawnsWrong : ChangeSpec := { name := "applySpawns", fn := fun _ => fun
  | [d] => { results := [.lit (.bool false)], args := [d] }
  | _ => none }
def ApplySpawnsWrongFalsely : Prop := applySpawnsRow.holds Tryz.pinned (OpenSpec.ofChange applySpawnsWrong)

/-- 'thronglaw23.ApplyMoves': WHATEVER THE INPUT: true; the input reads as it did. -/
def applyMovesSpec : ChangeSpec := { name := "applyMoves", fn := fun _ => fun
  | [d] => { results := [.lit (.bool true)], args := [d] }
  | _ => none }
def applyMovesRow : OpenClaim := { program := "ytlmechfgnfepoaagreat", sum := "4982370b69a9e1a18b75bd14e17c8123f6db94986a37772e83f1621092a1aafb", func := "throng/thronglaw23.ApplyMoves", spec := "applyMoves", inPlace := ["slices.overlaps[int]", "math/bits.Add64", "slices.overlaps[throng/api.Building]"], unfollowed := true, recurses := true, plainKeys := false, apart := false }
def ApplyMovesSaid : Prop := applyMovesRow.holds Tryz.pinned (OpenSpec.ofChange applyMovesSpec)

/-- ITS FALSE NEIGHBOUR: 'it returns false'. Refute it at one input. -/
def applyMovesWrong : ChangeSpec := { name := "applyMoves", fn := fun _ => fun
  | [d] => { results := [.lit (.bool false)], args := [d] }
  | _ => none }
def ApplyMovesWrongFalsely : Prop := applyMovesRow.holds Tryz.pinned (OpenSpec.ofChange applyMovesWrong)

/-- 'thronglaw23.ApplyStops': WHATEVER THE INPUT: true; the input reads as it did. -/
def applyStopsSpec : ChangeSpec := { name := "applyStops", fn := fun _ => fun
  | [d] => { results := [.lit (.bool true)], args := [d] }
  | _ => none }
def applyStopsRow : OpenClaim := { program := "ytlmechfgnfepoaagreat", sum := "4982370b69a9e1a18b75bd14e17c8123f6db94986a37772e83f1621092a1aafb", func := "throng/thronglaw23.ApplyStops", spec := "applyStops", inPlace := ["slices.overlaps[int]", "math/bits.Add64", "slices.overlaps[throng/api.Building]"], unfollowed := true, recurses := true, plainKeys := false, apart := false }
def ApplyStopsSaid : Prop := applyStopsRow.holds Tryz.pinned (OpenSpec.ofChange applyStopsSpec)

/-- ITS FALSE NEIGHBOUR: 'it returns false'. Refute it at one input. -/
def applyStopsWrong : ChangeSpec := { name := "applyStops", fn := fun _ => fun
  | [d] => { results := [.lit (.bool false)], args := [d] }
  | _ => none }
def ApplyStopsWrongFalsely : Prop := applyStopsRow.holds Tryz.pinned (OpenSpec.ofChange applyStopsWrong)

/-- 'thronglaw23.ApplyBuilds': WHATEVER THE INPUT: true; the input reads as it did. -/
def applyBuildsSpec : ChangeSpec := { name := "applyBuilds", fn := fun _ => fun
  | [d] => { results := [.lit (.bool true)], args := [d] }
  | _ => none }
def applyBuildsRow : OpenClaim := { program := "ytlmechfgnfepoaagreat", sum := "4982370b69a9e1a18b75bd14e17c8123f6db94986a37772e83f1621092a1aafb", func := "throng/thronglaw23.ApplyBuilds", spec := "applyBuilds", inPlace := ["slices.overlaps[int]", "math/bits.Add64", "slices.overlaps[throng/api.Building]"], unfollowed := true, recurses := true, plainKeys := false, apart := false }
def ApplyBuildsSaid : Prop := applyBuildsRow.holds Tryz.pinned (OpenSpec.ofChange applyBuildsSpec)

/-- ITS FALSE NEIGHBOUR: 'it returns false'. Refute it at one input. -/
def applyBuildsWrong : ChangeSpec := { name := "applyBuilds", fn := fun _ => fun
  | [d] => { results := [.lit (.bool false)], args := [d] }
  | _ => none }
def ApplyBuildsWrongFalsely : Prop := applyBuildsRow.holds Tryz.pinned (OpenSpec.ofChange applyBuildsWrong)

/-- 'thronglaw23.ApplyDrops': WHATEVER THE INPUT: true; the input reads as it did. -/
def applyDropsSpec : ChangeSpec := { name := "applyDrops", fn := fun _ => fun
  | [d] => { results := [.lit (.bool true)], args := [d] }
  | _ => none }
def applyDropsRow : OpenClaim := { program := "ytlmechfgnfepoaagreat", sum := "4982370b69a9e1a18b75bd14e17c8123f6db94986a37772e83f1621092a1aafb", func := "throng/thronglaw23.ApplyDrops", spec := "applyDrops", inPlace := ["slices.overlaps[int]", "math/bits.Add64", "slices.overlaps[throng/api.Building]"], unfollowed := true, recurses := true, plainKeys := false, apart := false }
def ApplyDropsSaid : Prop := applyDropsRow.holds Tryz.pinned (OpenSpec.ofChange applyDropsSpec)

/-- ITS FALSE NEIGHBOUR: 'it returns false'. Refute it at one input. -/
def applyDropsWrong : ChangeSpec := { name := "applyDrops", fn := fun _ => fun
  | [d] => { results := [.lit (.bool false)], args := [d] }
  | _ => none }
def ApplyDropsWrongFalsely : Prop := applyDropsRow.holds Tryz.pinned (OpenSpec.ofChange applyDropsWrong)

/-- 'thronglaw23.ApplyLoads': WHATEVER THE INPUT: true; the input reads as it did. -/
def applyLoadsSpec : ChangeSpec := { name := "applyLoads", fn := fun _ => fun
  | [d] => { results := [.lit (.bool true)], args := [d] }
  | _ => none }
def applyLoadsRow : OpenClaim := { program := "ytlmechfgnfepoaagreat", sum := "4982370b69a9e1a18b75bd14e17c8123f6db94986a37772e83f1621092a1aafb", func := "throng/thronglaw23.ApplyLoads", spec := "applyLoads", inPlace := ["slices.overlaps[int]", "math/bits.Add64", "slices.overlaps[throng/api.Building]"], unfollowed := true, recurses := true, plainKeys := false, apart := false }
def ApplyLoadsSaid : Prop := applyLoadsRow.holds Tryz.pinned (OpenSpec.ofChange applyLoadsSpec)

/-- ITS FALSE NEIGHBOUR: 'it returns false'. Refute it at one input. -/
def applyLoadsWrong : ChangeSpec := { name := "applyLoads", fn := fun _ => fun
  | [d] => { results := [.lit (.bool false)], args := [d] }
  | _ => none }
def ApplyLoadsWrongFalsely : Prop := applyLoadsRow.holds Tryz.pinned (OpenSpec.ofChange applyLoadsWrong)

/-- 'thronglaw23.ApplyUnloads': WHATEVER THE INPUT: true; the input reads as it did. -/
def applyUnloadsSpec : ChangeSpec := { name := "applyUnloads", fn := fun _ => fun
  | [d] => { results := [.lit (.bool true)], args := [d] }
  | _ => none }
def applyUnloadsRow : OpenClaim := { program := "ytlmechfgnfepoaagreat", sum := "4982370b69a9e1a18b75bd14e17c8123f6db94986a37772e83f1621092a1aafb", func := "throng/thronglaw23.ApplyUnloads", spec := "applyUnloads", inPlace := ["slices.overlaps[int]", "math/bits.Add64", "slices.overlaps[throng/api.Building]"], unfollowed := true, recurses := true, plainKeys := false, apart := false }
def ApplyUnloadsSaid : Prop := applyUnloadsRow.holds Tryz.pinned (OpenSpec.ofChange applyUnloadsSpec)

/-- ITS FALSE NEIGHBOUR: 'it returns false'. Refute it at one input. -/
def applyUnloadsWrong : ChangeSpec := { name := "applyUnloads", fn := fun _ => fun
  | [d] => { results := [.lit (.bool false)], args := [d] }
  | _ => none }
def ApplyUnloadsWrongFalsely : Prop := applyUnloadsRow.holds Tryz.pinned (OpenSpec.ofChange applyUnloadsWrong)

/-- 'thronglaw23.ApplyKeeps': WHATEVER THE INPUT: true; the input reads as it did. -/
def applyKeepsSpec : ChangeSpec := { name := "applyKeeps", fn := fun _ => fun
  | [d] => { results := [.lit (.bool true)], args := [d] }
  | _ => none }
def applyKeepsRow : OpenClaim := { program := "ytlmechfgnfepoaagreat", sum := "4982370b69a9e1a18b75bd14e17c8123f6db94986a37772e83f1621092a1aafb", func := "throng/thronglaw23.ApplyKeeps", spec := "applyKeeps", inPlace := ["slices.overlaps[int]", "math/bits.Add64", "slices.overlaps[throng/api.Building]"], unfollowed := true, recurses := true, plainKeys := false, apart := false }
def ApplyKeepsSaid : Prop := applyKeepsRow.holds Tryz.pinned (OpenSpec.ofChange applyKeepsSpec)

/-- ITS FALSE NEIGHBOUR: 'it returns false'. Refute it at one input. -/
def applyKeepsWrong : ChangeSpec := { name := "applyKeeps", fn := fun _ => fun
  | [d] => { results := [.lit (.bool false)], args := [d] }
  | _ => none }
def ApplyKeepsWrongFalsely : Prop := applyKeepsRow.holds Tryz.pinned (OpenSpec.ofChange applyKeepsWrong)

/-- 'thronglaw23.ApplyRides': WHATEVER THE INPUT: true; the input reads as it did. -/
def applyRidesSpec : ChangeSpec := { name := "applyRides", fn := fun _ => fun
  | [d] => { results := [.lit (.bool true)], args := [d] }
  | _ => none }
def applyRidesRow : OpenClaim := { program := "ytlmechfgnfepoaagreat", sum := "4982370b69a9e1a18b75bd14e17c8123f6db94986a37772e83f1621092a1aafb", func := "throng/thronglaw23.ApplyRides", spec := "applyRides", inPlace := ["slices.overlaps[int]", "math/bits.Add64", "slices.overlaps[throng/api.Building]"], unfollowed := true, recurses := true, plainKeys := false, apart := false }
def ApplyRidesSaid : Prop := applyRidesRow.holds Tryz.pinned (OpenSpec.ofChange applyRidesSpec)

/-- ITS FALSE NEIGHBOUR: 'it returns false'. Refute it at one input. -/
def applyRidesWrong : ChangeSpec := { name := "applyRides", fn := fun _ => fun
  | [d] => { results := [.lit (.bool false)], args := [d] }
  | _ => none }
def ApplyRidesWrongFalsely : Prop := applyRidesRow.holds Tryz.pinned (OpenSpec.ofChange applyRidesWrong)

/-- 'thronglaw23.ApplyOwners': WHATEVER THE INPUT: true; the input reads as it did. -/
def applyOwnersSpec : ChangeSpec := { name := "applyOwners", fn := fun _ => fun
  | [d] => { results := [.lit (.bool true)], args := [d] }
  | _ => none }
def applyOwnersRow : OpenClaim := { program := "ytlmechfgnfepoaagreat", sum := "4982370b69a9e1a18b75bd14e17c8123f6db94986a37772e83f1621092a1aafb", func := "throng/thronglaw23.ApplyOwners", spec := "applyOwners", inPlace := ["slices.overlaps[int]", "math/bits.Add64", "slices.overlaps[throng/api.Building]"], unfollowed := true, recurses := true, plainKeys := false, apart := false }
def ApplyOwnersSaid : Prop := applyOwnersRow.holds Tryz.pinned (OpenSpec.ofChange applyOwnersSpec)

/-- ITS FALSE NEIGHBOUR: 'it returns false'. Refute it at one input. -/
def applyOwnersWrong : ChangeSpec := { name := "applyOwners", fn := fun _ => fun
  | [d] => { results := [.lit (.bool false)], args := [d] }
  | _ => none }
def ApplyOwnersWrongFalsely : Prop := applyOwnersRow.holds Tryz.pinned (OpenSpec.ofChange applyOwnersWrong)

/-- 'thronglaw23.ApplyBlocks': WHATEVER THE INPUT: true; the input reads as it did. -/
def applyBlocksSpec : ChangeSpec := { name := "applyBlocks", fn := fun _ => fun
  | [d] => { results := [.lit (.bool true)], args := [d] }
  | _ => none }
def applyBlocksRow : OpenClaim := { program := "ytlmechfgnfepoaagreat", sum := "4982370b69a9e1a18b75bd14e17c8123f6db94986a37772e83f1621092a1aafb", func := "throng/thronglaw23.ApplyBlocks", spec := "applyBlocks", inPlace := ["slices.overlaps[int]", "math/bits.Add64", "slices.overlaps[throng/api.Building]"], unfollowed := true, recurses := true, plainKeys := false, apart := false }
def ApplyBlocksSaid : Prop := applyBlocksRow.holds Tryz.pinned (OpenSpec.ofChange applyBlocksSpec)

/-- ITS FALSE NEIGHBOUR: 'it returns false'. Refute it at one input. -/
def applyBlocksWrong : ChangeSpec := { name := "applyBlocks", fn := fun _ => fun
  | [d] => { results := [.lit (.bool false)], args := [d] }
  | _ => none }
def ApplyBlocksWrongFalsely : Prop := applyBlocksRow.holds Tryz.pinned (OpenSpec.ofChange applyBlocksWrong)

/- THE SECOND FORM. 'bulk': how many values and letters a reading holds, each counted each time it is reached (what is shared counts as often as it is met; a slice's spare places count too). A statement '..UptoSaid' is the law's where the arguments, and the package variables that the reading takes, are together of bulk at most 1048576: NARROWER than '..Said'. Prove '..Said' where nothing that the law and all that it calls make is longer than what came in: it says more and counts as full. Else prove '..UptoSaid'. A law counts once. -/
mutual
def uptoBulk {H : Type} : DataW H → Nat
  | .lit (.string bytes) => bytes.length + 1
  | .lit _ => 1
  | .nil => 1
  | .ptr d => uptoBulk d + 1
  | .slice elems spare => uptoBulkAll elems + uptoBulkAll spare + 1
  | .agg parts => uptoBulkAll parts + 1
  | .iface _ d => uptoBulk d + 1
  | .map entries => uptoBulkEntries entries + 1
  | .held _ => 1
def uptoBulkAll {H : Type} : List (DataW H) → Nat
  | [] => 0
  | d :: r => uptoBulk d + uptoBulkAll r
def uptoBulkEntries {H : Type} : List (Lit × DataW H) → Nat
  | [] => 0
  | x :: r => uptoBulkEntry x + uptoBulkEntries r
def uptoBulkEntry {H : Type} : Lit × DataW H → Nat
  | (.string bytes, d) => bytes.length + uptoBulk d + 1
  | (_, d) => uptoBulk d + 1
 end
def uptoSmall : (H : Type) → List (DataW H) → Bool := fun _ ds => decide (uptoBulkAll ds ≤ 1048576)
def OpenSpec.upto (s : _root_.Go.ChangeSpec) : _root_.Go.OpenSpec := { _root_.Go.OpenSpec.ofChange s with cond := some uptoSmall }

/-- 'thronglaw23.ApplyExact', WHERE WHAT IT READS IS OF BULK AT MOST 1048576: true; the input reads as it did. -/
def applyExactUptoRow : OpenClaim := { program := "ytlmechfgnfepoaagreat", sum := "4982370b69a9e1a18b75bd14e17c8123f6db94986a37772e83f1621092a1aafb", func := "throng/thronglaw23.ApplyExact", spec := "applyExact", inPlace := ["slices.overlaps[int]", "math/bits.Add64", "slices.overlaps[throng/api.Building]"], unfollowed := true, recurses := true, plainKeys := false, apart := false, narrowed := true }
def ApplyExactUptoSaid : Prop := applyExactUptoRow.holds Tryz.pinned (OpenSpec.upto applyExactSpec)

/-- 'thronglaw23.ApplySpawns', WHERE WHAT IT READS IS OF BULK AT MOST 1048576: true; the input reads as it did. -/
def applySpawnsUptoRow : OpenClaim := { program := "ytlmechfgnfepoaagreat", sum := "4982370b69a9e1a18b75bd14e17c8123f6db94986a37772e83f1621092a1aafb", func := "throng/thronglaw23.ApplySpawns", spec := "applySpawns", inPlace := ["slices.overlaps[int]", "math/bits.Add64", "slices.overlaps[throng/api.Building]"], unfollowed := true, recurses := true, plainKeys := false, apart := false, narrowed := true }
def ApplySpawnsUptoSaid : Prop := applySpawnsUptoRow.holds Tryz.pinned (OpenSpec.upto applySpawnsSpec)

/-- 'thronglaw23.ApplyMoves', WHERE WHAT IT READS IS OF BULK AT MOST 1048576: true; the input reads as it did. -/
def applyMovesUptoRow : OpenClaim := { program := "ytlmechfgnfepoaagreat", sum := "4982370b69a9e1a18b75bd14e17c8123f6db94986a37772e83f1621092a1aafb", func := "throng/thronglaw23.ApplyMoves", spec := "applyMoves", inPlace := ["slices.overlaps[int]", "math/bits.Add64", "slices.overlaps[throng/api.Building]"], unfollowed := true, recurses := true, plainKeys := false, apart := false, narrowed := true }
def ApplyMovesUptoSaid : Prop := applyMovesUptoRow.holds Tryz.pinned (OpenSpec.upto applyMovesSpec)

/-- 'thronglaw23.ApplyStops', WHERE WHAT IT READS IS OF BULK AT MOST 1048576: true; the input reads as it did. -/
def applyStopsUptoRow : OpenClaim := { program := "ytlmechfgnfepoaagreat", sum := "4982370b69a9e1a18b75bd14e17c8123f6db94986a37772e83f1621092a1aafb", func := "throng/thronglaw23.ApplyStops", spec := "applyStops", inPlace := ["slices.overlaps[int]", "math/bits.Add64", "slices.overlaps[throng/api.Building]"], unfollowed := true, recurses := true, plainKeys := false, apart := false, narrowed := true }
def ApplyStopsUptoSaid : Prop := applyStopsUptoRow.holds Tryz.pinned (OpenSpec.upto applyStopsSpec)

/-- 'thronglaw23.ApplyBuilds', WHERE WHAT IT READS IS OF BULK AT MOST 1048576: true; the input reads as it did. -/
def applyBuildsUptoRow : OpenClaim := { program := "ytlmechfgnfepoaagreat", sum := "4982370b69a9e1a18b75bd14e17c8123f6db94986a37772e83f1621092a1aafb", func := "throng/thronglaw23.ApplyBuilds", spec := "applyBuilds", inPlace := ["slices.overlaps[int]", "math/bits.Add64", "slices.overlaps[throng/api.Building]"], unfollowed := true, recurses := true, plainKeys := false, apart := false, narrowed := true }
def ApplyBuildsUptoSaid : Prop := applyBuildsUptoRow.holds Tryz.pinned (OpenSpec.upto applyBuildsSpec)

/-- 'thronglaw23.ApplyDrops', WHERE WHAT IT READS IS OF BULK AT MOST 1048576: true; the input reads as it did. -/
def applyDropsUptoRow : OpenClaim := { program := "ytlmechfgnfepoaagreat", sum := "4982370b69a9e1a18b75bd14e17c8123f6db94986a37772e83f1621092a1aafb", func := "throng/thronglaw23.ApplyDrops", spec := "applyDrops", inPlace := ["slices.overlaps[int]", "math/bits.Add64", "slices.overlaps[throng/api.Building]"], unfollowed := true, recurses := true, plainKeys := false, apart := false, narrowed := true }
def ApplyDropsUptoSaid : Prop := applyDropsUptoRow.holds Tryz.pinned (OpenSpec.upto applyDropsSpec)

/-- 'thronglaw23.ApplyLoads', WHERE WHAT IT READS IS OF BULK AT MOST 1048576: true; the input reads as it did. -/
def applyLoadsUptoRow : OpenClaim := { program := "ytlmechfgnfepoaagreat", sum := "4982370b69a9e1a18b75bd14e17c8123f6db94986a37772e83f1621092a1aafb", func := "throng/thronglaw23.ApplyLoads", spec := "applyLoads", inPlace := ["slices.overlaps[int]", "math/bits.Add64", "slices.overlaps[throng/api.Building]"], unfollowed := true, recurses := true, plainKeys := false, apart := false, narrowed := true }
def ApplyLoadsUptoSaid : Prop := applyLoadsUptoRow.holds Tryz.pinned (OpenSpec.upto applyLoadsSpec)

/-- 'thronglaw23.ApplyUnloads', WHERE WHAT IT READS IS OF BULK AT MOST 1048576: true; the input reads as it did. -/
def applyUnloadsUptoRow : OpenClaim := { program := "ytlmechfgnfepoaagreat", sum := "4982370b69a9e1a18b75bd14e17c8123f6db94986a37772e83f1621092a1aafb", func := "throng/thronglaw23.ApplyUnloads", spec := "applyUnloads", inPlace := ["slices.overlaps[int]", "math/bits.Add64", "slices.overlaps[throng/api.Building]"], unfollowed := true, recurses := true, plainKeys := false, apart := false, narrowed := true }
def ApplyUnloadsUptoSaid : Prop := applyUnloadsUptoRow.holds Tryz.pinned (OpenSpec.upto applyUnloadsSpec)

/-- 'thronglaw23.ApplyKeeps', WHERE WHAT IT READS IS OF BULK AT MOST 1048576: true; the input reads as it did. -/
def applyKeepsUptoRow : OpenClaim := { program := "ytlmechfgnfepoaagreat", sum := "4982370b69a9e1a18b75bd14e17c8123f6db94986a37772e83f1621092a1aafb", func := "throng/thronglaw23.ApplyKeeps", spec := "applyKeeps", inPlace := ["slices.overlaps[int]", "math/bits.Add64", "slices.overlaps[throng/api.Building]"], unfollowed := true, recurses := true, plainKeys := false, apart := false, narrowed := true }
def ApplyKeepsUptoSaid : Prop := applyKeepsUptoRow.holds Tryz.pinned (OpenSpec.upto applyKeepsSpec)

/-- 'thronglaw23.ApplyRides', WHERE WHAT IT READS IS OF BULK AT MOST 1048576: true; the input reads as it did. -/
def applyRidesUptoRow : OpenClaim := { program := "ytlmechfgnfepoaagreat", sum := "4982370b69a9e1a18b75bd14e17c8123f6db94986a37772e83f1621092a1aafb", func := "throng/thronglaw23.ApplyRides", spec := "applyRides", inPlace := ["slices.overlaps[int]", "math/bits.Add64", "slices.overlaps[throng/api.Building]"], unfollowed := true, recurses := true, plainKeys := false, apart := false, narrowed := true }
def ApplyRidesUptoSaid : Prop := applyRidesUptoRow.holds Tryz.pinned (OpenSpec.upto applyRidesSpec)

/-- 'thronglaw23.ApplyOwners', WHERE WHAT IT READS IS OF BULK AT MOST 1048576: true; the input reads as it did. -/
def applyOwnersUptoRow : OpenClaim := { program := "ytlmechfgnfepoaagreat", sum := "4982370b69a9e1a18b75bd14e17c8123f6db94986a37772e83f1621092a1aafb", func := "throng/thronglaw23.ApplyOwners", spec := "applyOwners", inPlace := ["slices.overlaps[int]", "math/bits.Add64", "slices.overlaps[throng/api.Building]"], unfollowed := true, recurses := true, plainKeys := false, apart := false, narrowed := true }
def ApplyOwnersUptoSaid : Prop := applyOwnersUptoRow.holds Tryz.pinned (OpenSpec.upto applyOwnersSpec)

/-- 'thronglaw23.ApplyBlocks', WHERE WHAT IT READS IS OF BULK AT MOST 1048576: true; the input reads as it did. -/
def applyBlocksUptoRow : OpenClaim := { program := "ytlmechfgnfepoaagreat", sum := "4982370b69a9e1a18b75bd14e17c8123f6db94986a37772e83f1621092a1aafb", func := "throng/thronglaw23.ApplyBlocks", spec := "applyBlocks", inPlace := ["slices.overlaps[int]", "math/bits.Add64", "slices.overlaps[throng/api.Building]"], unfollowed := true, recurses := true, plainKeys := false, apart := false, narrowed := true }
def ApplyBlocksUptoSaid : Prop := applyBlocksUptoRow.holds Tryz.pinned (OpenSpec.upto applyBlocksSpec)

end Rows
end Go.Proofs.YtlmechfgnfepoaaGreat
