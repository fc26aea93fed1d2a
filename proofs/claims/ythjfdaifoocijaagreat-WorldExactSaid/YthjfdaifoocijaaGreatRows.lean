/-
  No cell of these rows narrows 'for every input' (looked for: loops, veiled, ifaces, maps, wideKeys, modest, calm, conditions, laid).
  DERIVED. THE GIVEN ROWS OF THIS SEAT. 4 by the template 'for every input the law returns true; each argument reads behind the call as it read before'; 0 by the template 'total and deterministic' (their statements: YthjfdaifoocijaaGreatTotals.lean).
  GIVEN WITH THE SEED: the statements are not yours to turn. If you find one false, say at which input.
  Laid BY PROGRAM, IN A SANDBOX (cutbox-rows.mjs): the forced cells as the released guide's own fill.sh prints them over the translation b761cf1f3ef8db28… (all of the seat's roots in one cut). By AI agents, Wed Nov 11 2026. No macro, syntax, notation, axiom, sorry.
-/
import Derived.Test.YthjfdaifoocijaaGreatChecked
import GoSem.Claim
import GoSem.ClaimJoined
import GoSem.ClaimMapViews
import Derived.JoinedTies
import Derived.KernelRfl
namespace Go.Proofs.YthjfdaifoocijaaGreat
/- THE CELL 'sum', in the pinned program and in every row, IS THE sha256 OF THE DUMP (.gsa) THAT YthjfdaifoocijaaGreatProg.lean LOADS. Nothing in Lean hashes anything: it is a label: what it is worth is what the hold of that sum in a sandbox is worth. -/
noncomputable def Tryz.pinned : Pinned := { name := "ythjfdaifoocijaagreat", sum := "b761cf1f3ef8db28c2dc91bee2b86570f4ae32b04f5b6272113751f7383bffb4", checked := Tryz.checked }
namespace Rows
def none {H : Type} : Left H := { results := [], args := [] }

/-- 'thronglaw21.ArmyRides': WHATEVER THE INPUT: true; the input reads as it did. -/
def armyRidesSpec : ChangeSpec := { name := "armyRides", fn := fun _ => fun
  | [d] => { results := [.lit (.bool true)], args := [d] }
  | _ => none }
def armyRidesRow : OpenClaim := { program := "ythjfdaifoocijaagreat", sum := "b761cf1f3ef8db28c2dc91bee2b86570f4ae32b04f5b6272113751f7383bffb4", func := "throng/thronglaw21.ArmyRides", spec := "armyRides", inPlace := ["slices.overlaps[int]", "math/bits.Add64"], unfollowed := true, recurses := true, plainKeys := false, apart := false }
def ArmyRidesSaid : Prop := armyRidesRow.holds Tryz.pinned (OpenSpec.ofChange armyRidesSpec)

/-- ITS FALSE NEIGHBOUR: 'it returns false'. Refute it at one input. -/
def armyRidesWrong : ChangeSpec := { name := "armyRides", fn := fun _ => fun
  | [d] => { results := [.lit (.bool false)], args := [d] }
  | _ => none }
def ArmyRidesWrongFalsely : Prop := armyRidesRow.holds Tryz.pinned (OpenSpec.ofChange armyRidesWrong)

/-- 'thronglaw24.MoveTries': WHATEVER THE INPUT: true; the input reads as it did. -/
def moveTriesSpec : ChangeSpec := { name := "moveTries", fn := fun _ => fun
  | [d] => { results := [.lit (.bool true)], args := [d] }
  | _ => none }
def moveTriesRow : OpenClaim := { program := "ythjfdaifoocijaagreat", sum := "b761cf1f3ef8db28c2dc91bee2b86570f4ae32b04f5b6272113751f7383bffb4", func := "throng/thronglaw24.MoveTries", spec := "moveTries", inPlace := ["slices.overlaps[int]", "math/bits.Add64"], unfollowed := true, recurses := true, named := ["math/bits.divideError", "math/bits.overflowError"], plainKeys := false, apart := false }
def MoveTriesSaid : Prop := moveTriesRow.holds Tryz.pinned (OpenSpec.ofChange moveTriesSpec)

/-- ITS FALSE NEIGHBOUR: 'it returns false'. Refute it at one input. -/
def moveTriesWrong : ChangeSpec := { name := "moveTries", fn := fun _ => fun
  | [d] => { results := [.lit (.bool false)], args := [d] }
  | _ => none }
def MoveTriesWrongFalsely : Prop := moveTriesRow.holds Tryz.pinned (OpenSpec.ofChange moveTriesWrong)

/-- 'thronglaw25.WorldExact': WHATEVER THE INPUT: true; the input reads as it did. -/
def worldExactSpec : ChangeSpec := { name := "worldExact", fn := fun _ => fun
  | [d] => { results := [.lit (.bool true)], args := [d] }
  | _ => none }
def worldExactRow : OpenClaim := { program := "ythjfdaifoocijaagreat", sum := "b761cf1f3ef8db28c2dc91bee2b86570f4ae32b04f5b6272113751f7383bffb4", func := "throng/thronglaw25.WorldExact", spec := "worldExact", inPlace := ["slices.overlaps[int]", "math/bits.Add64", "sync/atomic.LoadUint32", "(*internal/sync.Mutex).Lock", "internal/race.Disable", "sync/atomic.CompareAndSwapInt32", "internal/race.Enable", "internal/race.Acquire", "(*internal/sync.Mutex).lockSlow", "internal/sync.runtime_canSpin", "internal/sync.runtime_doSpin", "internal/sync.throw", "internal/sync.runtime_nanotime", "internal/sync.runtime_SemacquireMutex", "sync/atomic.AddInt32", "(*internal/sync.Mutex).Unlock", "internal/race.ReleaseMerge", "(*internal/sync.Mutex).unlockSlow", "internal/sync.fatal", "internal/sync.runtime_Semrelease", "sync/atomic.StoreUint32", "slices.overlaps[throng/api.Building]"], unfollowed := true, recurses := true, named := ["math/bits.divideError", "math/bits.overflowError"], plainKeys := false, apart := false }
def WorldExactSaid : Prop := worldExactRow.holds Tryz.pinned (OpenSpec.ofChange worldExactSpec)

/-- ITS FALSE NEIGHBOUR: 'it returns false'. Refute it at one input. -/
def worldExactWrong : ChangeSpec := { name := "worldExact", fn := fun _ => fun
  | [d] => { results := [.lit (.bool false)], args := [d] }
  | _ => none }
def WorldExactWrongFalsely : Prop := worldExactRow.holds Tryz.pinned (OpenSpec.ofChange worldExactWrong)

/-- 'thronglaw30.SessionForms': WHATEVER THE INPUT: true; the input reads as it did. -/
def sessionFormsSpec : ChangeSpec := { name := "sessionForms", fn := fun _ => fun
  | [d] => { results := [.lit (.bool true)], args := [d] }
  | _ => none }
def sessionFormsRow : OpenClaim := { program := "ythjfdaifoocijaagreat", sum := "b761cf1f3ef8db28c2dc91bee2b86570f4ae32b04f5b6272113751f7383bffb4", func := "throng/thronglaw30.SessionForms", spec := "sessionForms", inPlace := ["slices.overlaps[int]", "math/bits.Add64", "slices.overlaps[throng/api.Input]", "sync/atomic.LoadUint32", "(*internal/sync.Mutex).Lock", "internal/race.Disable", "sync/atomic.CompareAndSwapInt32", "internal/race.Enable", "internal/race.Acquire", "(*internal/sync.Mutex).lockSlow", "internal/sync.runtime_canSpin", "internal/sync.runtime_doSpin", "internal/sync.throw", "internal/sync.runtime_nanotime", "internal/sync.runtime_SemacquireMutex", "sync/atomic.AddInt32", "(*internal/sync.Mutex).Unlock", "internal/race.ReleaseMerge", "(*internal/sync.Mutex).unlockSlow", "internal/sync.fatal", "internal/sync.runtime_Semrelease", "sync/atomic.StoreUint32", "slices.overlaps[throng/api.Building]"], unfollowed := true, recurses := true, named := ["math/bits.divideError", "math/bits.overflowError"], plainKeys := false, apart := false }
def SessionFormsSaid : Prop := sessionFormsRow.holds Tryz.pinned (OpenSpec.ofChange sessionFormsSpec)

/-- ITS FALSE NEIGHBOUR: 'it returns false'. Refute it at one input. -/
def sessionFormsWrong : ChangeSpec := { name := "sessionForms", fn := fun _ => fun
  | [d] => { results := [.lit (.bool false)], args := [d] }
  | _ => none }
def SessionFormsWrongFalsely : Prop := sessionFormsRow.holds Tryz.pinned (OpenSpec.ofChange sessionFormsWrong)

/- THE SECOND FORM. 'bulk': how many values and letters a reading holds, each counted each time it is reached (what is shared counts as often as it is met; a slice's spare places count too). A statement '..UptoSaid' is the law's where the arguments, and the package variables that the reading takes, are together of bulk at most 1048576: NARROWER than '..Said'. Prove '..Said' where nothing that the law and all that it calls make is longer than what came in: it says more and counts as full. Else prove '..UptoSaid'. A law counts once. -/
mutual
def uptoBulk {H : Type} : DataW H → Nat
  | .lit (.string bytes) => bytes.length + 1
  | .lit _ => 1
  | .nil => 1
  | .ptr d => uptoBulk d + 1
  | .slice elems spare => uptoBulkAll elems + uptoBulkAll spare + 1
  | .agg parts => uptoBulkAll parts + 1
  | .iface _ d => uptoBulk d + 1
  | .map entries => uptoBulkEntries entries + 1
  | .held _ => 1
def uptoBulkAll {H : Type} : List (DataW H) → Nat
  | [] => 0
  | d :: r => uptoBulk d + uptoBulkAll r
def uptoBulkEntries {H : Type} : List (Lit × DataW H) → Nat
  | [] => 0
  | x :: r => uptoBulkEntry x + uptoBulkEntries r
def uptoBulkEntry {H : Type} : Lit × DataW H → Nat
  | (.string bytes, d) => bytes.length + uptoBulk d + 1
  | (_, d) => uptoBulk d + 1
 end
def uptoSmall : (H : Type) → List (DataW H) → Bool := fun _ ds => decide (uptoBulkAll ds ≤ 1048576)
def OpenSpec.upto (s : _root_.Go.ChangeSpec) : _root_.Go.OpenSpec := { _root_.Go.OpenSpec.ofChange s with cond := some uptoSmall }

/-- 'thronglaw21.ArmyRides', WHERE WHAT IT READS IS OF BULK AT MOST 1048576: true; the input reads as it did. -/
def armyRidesUptoRow : OpenClaim := { program := "ythjfdaifoocijaagreat", sum := "b761cf1f3ef8db28c2dc91bee2b86570f4ae32b04f5b6272113751f7383bffb4", func := "throng/thronglaw21.ArmyRides", spec := "armyRides", inPlace := ["slices.overlaps[int]", "math/bits.Add64"], unfollowed := true, recurses := true, plainKeys := false, apart := false, narrowed := true }
def ArmyRidesUptoSaid : Prop := armyRidesUptoRow.holds Tryz.pinned (OpenSpec.upto armyRidesSpec)

/-- 'thronglaw24.MoveTries', WHERE WHAT IT READS IS OF BULK AT MOST 1048576: true; the input reads as it did. -/
def moveTriesUptoRow : OpenClaim := { program := "ythjfdaifoocijaagreat", sum := "b761cf1f3ef8db28c2dc91bee2b86570f4ae32b04f5b6272113751f7383bffb4", func := "throng/thronglaw24.MoveTries", spec := "moveTries", inPlace := ["slices.overlaps[int]", "math/bits.Add64"], unfollowed := true, recurses := true, named := ["math/bits.divideError", "math/bits.overflowError"], plainKeys := false, apart := false, narrowed := true }
def MoveTriesUptoSaid : Prop := moveTriesUptoRow.holds Tryz.pinned (OpenSpec.upto moveTriesSpec)

/-- 'thronglaw25.WorldExact', WHERE WHAT IT READS IS OF BULK AT MOST 1048576: true; the input reads as it did. -/
def worldExactUptoRow : OpenClaim := { program := "ythjfdaifoocijaagreat", sum := "b761cf1f3ef8db28c2dc91bee2b86570f4ae32b04f5b6272113751f7383bffb4", func := "throng/thronglaw25.WorldExact", spec := "worldExact", inPlace := ["slices.overlaps[int]", "math/bits.Add64", "sync/atomic.LoadUint32", "(*internal/sync.Mutex).Lock", "internal/race.Disable", "sync/atomic.CompareAndSwapInt32", "internal/race.Enable", "internal/race.Acquire", "(*internal/sync.Mutex).lockSlow", "internal/sync.runtime_canSpin", "internal/sync.runtime_doSpin", "internal/sync.throw", "internal/sync.runtime_nanotime", "internal/sync.runtime_SemacquireMutex", "sync/atomic.AddInt32", "(*internal/sync.Mutex).Unlock", "internal/race.ReleaseMerge", "(*internal/sync.Mutex).unlockSlow", "internal/sync.fatal", "internal/sync.runtime_Semrelease", "sync/atomic.StoreUint32", "slices.overlaps[throng/api.Building]"], unfollowed := true, recurses := true, named := ["math/bits.divideError", "math/bits.overflowError"], plainKeys := false, apart := false, narrowed := true }
def WorldExactUptoSaid : Prop := worldExactUptoRow.holds Tryz.pinned (OpenSpec.upto worldExactSpec)

/-- 'thronglaw30.SessionForms', WHERE WHAT IT READS IS OF BULK AT MOST 1048576: true; the input reads as it did. -/
def sessionFormsUptoRow : OpenClaim := { program := "ythjfdaifoocijaagreat", sum := "b761cf1f3ef8db28c2dc91bee2b86570f4ae32b04f5b6272113751f7383bffb4", func := "throng/thronglaw30.SessionForms", spec := "sessionForms", inPlace := ["slices.overlaps[int]", "math/bits.Add64", "slices.overlaps[throng/api.Input]", "sync/atomic.LoadUint32", "(*internal/sync.Mutex).Lock", "internal/race.Disable", "sync/atomic.CompareAndSwapInt32", "internal/race.Enable", "internal/race.Acquire", "(*internal/sync.Mutex).lockSlow", "internal/sync.runtime_canSpin", "internal/sync.runtime_doSpin", "internal/sync.throw", "internal/sync.runtime_nanotime", "internal/sync.runtime_SemacquireMutex", "sync/atomic.AddInt32", "(*internal/sync.Mutex).Unlock", "internal/race.ReleaseMerge", "(*internal/sync.Mutex).unlockSlow", "internal/sync.fatal", "internal/sync.runtime_Semrelease", "sync/atomic.StoreUint32", "slices.overlaps[throng/api.Building]"], unfollowed := true, recurses := true, named := ["math/bits.divideError", "math/bits.overflowError"], plainKeys := false, apart := false, narrowed := true }
def SessionFormsUptoSaid : Prop := sessionFormsUptoRow.holds Tryz.pinned (OpenSpec.upto sessionFormsSpec)

end Rows
end Go.Proofs.YthjfdaifoocijaaGreat
