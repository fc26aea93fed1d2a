/-
  No cell of these rows narrows 'for every input' (looked for: loops, veiled, ifaces, maps, wideKeys, modest, calm, conditions, laid).
  DERIVED. THE GIVEN ROWS OF THIS SEAT. 4 by the template 'for every input the law returns true; each argument reads behind the call as it read before'; 0 by the template 'total and deterministic' (their statements: YtkahacegdhllcaaGreatTotals.lean).
  GIVEN WITH THE SEED: the statements are not yours to turn. If you find one false, say at which input.
  Laid BY PROGRAM, IN A SANDBOX (cutbox-rows.mjs): the forced cells as the released guide's own fill.sh prints them over the translation df5067f30029ae1e… (all of the seat's roots in one cut). By AI agents, Wed Nov 11 2026. No macro, syntax, notation, axiom, sorry.
-/
import Derived.Test.YtkahacegdhllcaaGreatChecked
import GoSem.Claim
import GoSem.ClaimJoined
import GoSem.ClaimMapViews
import Derived.JoinedTies
import Derived.KernelRfl
namespace Go.Proofs.YtkahacegdhllcaaGreat
/- THE CELL 'sum', in the pinned program and in every row, IS THE sha256 OF THE DUMP (.gsa) THAT YtkahacegdhllcaaGreatProg.lean LOADS. Nothing in Lean hashes anything: it is a label: what it is worth is what the hold of that sum in a sandbox is worth. -/
noncomputable def Tryz.pinned : Pinned := { name := "ytkahacegdhllcaagreat", sum := "df5067f30029ae1ebb2fd852ddfae5f5ae77f876dd53fb3681a8d8777781f930", checked := Tryz.checked }
namespace Rows
def none {H : Type} : Left H := { results := [], args := [] }

/-- 'throngtop.TopSeen': WHATEVER THE INPUT: true; the input reads as it did. -/
def topSeenSpec : ChangeSpec := { name := "topSeen", fn := fun _ => fun
  | [d] => { results := [.lit (.bool true)], args := [d] }
  | _ => none }
def topSeenRow : OpenClaim := { program := "ytkahacegdhllcaagreat", sum := "df5067f30029ae1ebb2fd852ddfae5f5ae77f876dd53fb3681a8d8777781f930", func := "throng/throngtop.TopSeen", spec := "topSeen", inPlace := ["slices.overlaps[int]", "math/bits.Add64", "slices.overlaps[throng/api.Input]", "sync/atomic.LoadUint32", "(*internal/sync.Mutex).Lock", "internal/race.Disable", "sync/atomic.CompareAndSwapInt32", "internal/race.Enable", "internal/race.Acquire", "(*internal/sync.Mutex).lockSlow", "internal/sync.runtime_canSpin", "internal/sync.runtime_doSpin", "internal/sync.throw", "internal/sync.runtime_nanotime", "internal/sync.runtime_SemacquireMutex", "sync/atomic.AddInt32", "(*internal/sync.Mutex).Unlock", "internal/race.ReleaseMerge", "(*internal/sync.Mutex).unlockSlow", "internal/sync.fatal", "internal/sync.runtime_Semrelease", "sync/atomic.StoreUint32", "slices.overlaps[throng/api.Building]"], unfollowed := true, recurses := true, named := ["math/bits.divideError", "math/bits.overflowError"], plainKeys := false, apart := false }
def TopSeenSaid : Prop := topSeenRow.holds Tryz.pinned (OpenSpec.ofChange topSeenSpec)

/-- ITS FALSE NEIGHBOUR: 'it returns false'. Refute it at one input. -/
def topSeenWrong : ChangeSpec := { name := "topSeen", fn := fun _ => fun
  | [d] => { results := [.lit (.bool false)], args := [d] }
  | _ => none }
def TopSeenWrongFalsely : Prop := topSeenRow.holds Tryz.pinned (OpenSpec.ofChange topSeenWrong)

/-- 'throngtop.TopMaps': WHATEVER THE INPUT: true; the input reads as it did. -/
def topMapsSpec : ChangeSpec := { name := "topMaps", fn := fun _ => fun
  | [d] => { results := [.lit (.bool true)], args := [d] }
  | _ => none }
def topMapsRow : OpenClaim := { program := "ytkahacegdhllcaagreat", sum := "df5067f30029ae1ebb2fd852ddfae5f5ae77f876dd53fb3681a8d8777781f930", func := "throng/throngtop.TopMaps", spec := "topMaps", inPlace := ["slices.overlaps[int]", "math/bits.Add64", "slices.overlaps[throng/api.Input]", "sync/atomic.LoadUint32", "(*internal/sync.Mutex).Lock", "internal/race.Disable", "sync/atomic.CompareAndSwapInt32", "internal/race.Enable", "internal/race.Acquire", "(*internal/sync.Mutex).lockSlow", "internal/sync.runtime_canSpin", "internal/sync.runtime_doSpin", "internal/sync.throw", "internal/sync.runtime_nanotime", "internal/sync.runtime_SemacquireMutex", "sync/atomic.AddInt32", "(*internal/sync.Mutex).Unlock", "internal/race.ReleaseMerge", "(*internal/sync.Mutex).unlockSlow", "internal/sync.fatal", "internal/sync.runtime_Semrelease", "sync/atomic.StoreUint32", "slices.overlaps[throng/api.Building]"], unfollowed := true, recurses := true, named := ["math/bits.divideError", "math/bits.overflowError"], plainKeys := false, apart := false }
def TopMapsSaid : Prop := topMapsRow.holds Tryz.pinned (OpenSpec.ofChange topMapsSpec)

/-- ITS FALSE NEIGHBOUR: 'it returns false'. Refute it at one input. -/
def topMapsWrong : ChangeSpec := { name := "topMaps", fn := fun _ => fun
  | [d] => { results := [.lit (.bool false)], args := [d] }
  | _ => none }
def TopMapsWrongFalsely : Prop := topMapsRow.holds Tryz.pinned (OpenSpec.ofChange topMapsWrong)

/-- 'thronglaw30.SessionAgree': WHATEVER THE INPUT: true; the input reads as it did. -/
def sessionAgreeSpec : ChangeSpec := { name := "sessionAgree", fn := fun _ => fun
  | [d] => { results := [.lit (.bool true)], args := [d] }
  | _ => none }
def sessionAgreeRow : OpenClaim := { program := "ytkahacegdhllcaagreat", sum := "df5067f30029ae1ebb2fd852ddfae5f5ae77f876dd53fb3681a8d8777781f930", func := "throng/thronglaw30.SessionAgree", spec := "sessionAgree", inPlace := ["slices.overlaps[int]", "math/bits.Add64", "slices.overlaps[throng/api.Input]", "sync/atomic.LoadUint32", "(*internal/sync.Mutex).Lock", "internal/race.Disable", "sync/atomic.CompareAndSwapInt32", "internal/race.Enable", "internal/race.Acquire", "(*internal/sync.Mutex).lockSlow", "internal/sync.runtime_canSpin", "internal/sync.runtime_doSpin", "internal/sync.throw", "internal/sync.runtime_nanotime", "internal/sync.runtime_SemacquireMutex", "sync/atomic.AddInt32", "(*internal/sync.Mutex).Unlock", "internal/race.ReleaseMerge", "(*internal/sync.Mutex).unlockSlow", "internal/sync.fatal", "internal/sync.runtime_Semrelease", "sync/atomic.StoreUint32", "slices.overlaps[throng/api.Building]"], unfollowed := true, recurses := true, named := ["math/bits.divideError", "math/bits.overflowError"], plainKeys := false, apart := false }
def SessionAgreeSaid : Prop := sessionAgreeRow.holds Tryz.pinned (OpenSpec.ofChange sessionAgreeSpec)

/-- ITS FALSE NEIGHBOUR: 'it returns false'. Refute it at one input. -/
def sessionAgreeWrong : ChangeSpec := { name := "sessionAgree", fn := fun _ => fun
  | [d] => { results := [.lit (.bool false)], args := [d] }
  | _ => none }
def SessionAgreeWrongFalsely : Prop := sessionAgreeRow.holds Tryz.pinned (OpenSpec.ofChange sessionAgreeWrong)

/-- 'thronglaw30.SessionGoes': WHATEVER THE INPUT: true; the input reads as it did. -/
def sessionGoesSpec : ChangeSpec := { name := "sessionGoes", fn := fun _ => fun
  | [d] => { results := [.lit (.bool true)], args := [d] }
  | _ => none }
def sessionGoesRow : OpenClaim := { program := "ytkahacegdhllcaagreat", sum := "df5067f30029ae1ebb2fd852ddfae5f5ae77f876dd53fb3681a8d8777781f930", func := "throng/thronglaw30.SessionGoes", spec := "sessionGoes", inPlace := ["slices.overlaps[int]", "math/bits.Add64", "slices.overlaps[throng/api.Input]", "sync/atomic.LoadUint32", "(*internal/sync.Mutex).Lock", "internal/race.Disable", "sync/atomic.CompareAndSwapInt32", "internal/race.Enable", "internal/race.Acquire", "(*internal/sync.Mutex).lockSlow", "internal/sync.runtime_canSpin", "internal/sync.runtime_doSpin", "internal/sync.throw", "internal/sync.runtime_nanotime", "internal/sync.runtime_SemacquireMutex", "sync/atomic.AddInt32", "(*internal/sync.Mutex).Unlock", "internal/race.ReleaseMerge", "(*internal/sync.Mutex).unlockSlow", "internal/sync.fatal", "internal/sync.runtime_Semrelease", "sync/atomic.StoreUint32", "slices.overlaps[throng/api.Building]"], unfollowed := true, recurses := true, named := ["math/bits.divideError", "math/bits.overflowError"], plainKeys := false, apart := false }
def SessionGoesSaid : Prop := sessionGoesRow.holds Tryz.pinned (OpenSpec.ofChange sessionGoesSpec)

/-- ITS FALSE NEIGHBOUR: 'it returns false'. Refute it at one input. -/
def sessionGoesWrong : ChangeSpec := { name := "sessionGoes", fn := fun _ => fun
  | [d] => { results := [.lit (.bool false)], args := [d] }
  | _ => none }
def SessionGoesWrongFalsely : Prop := sessionGoesRow.holds Tryz.pinned (OpenSpec.ofChange sessionGoesWrong)

/- THE SECOND FORM. 'bulk': how many values and letters a reading holds, each counted each time it is reached (what is shared counts as often as it is met; a slice's spare places count too). A statement '..UptoSaid' is the law's where the arguments, and the package variables that the reading takes, are together of bulk at most 1048576: NARROWER than '..Said'. Prove '..Said' where nothing that the law and all that it calls make is longer than what came in: it says more and counts as full. Else prove '..UptoSaid'. A law counts once. -/
mutual
def uptoBulk {H : Type} : DataW H → Nat
  | .lit (.string bytes) => bytes.length + 1
  | .lit _ => 1
  | .nil => 1
  | .ptr d => uptoBulk d + 1
  | .slice elems spare => uptoBulkAll elems + uptoBulkAll spare + 1
  | .agg parts => uptoBulkAll parts + 1
  | .iface _ d => uptoBulk d + 1
  | .map entries => uptoBulkEntries entries + 1
  | .held _ => 1
def uptoBulkAll {H : Type} : List (DataW H) → Nat
  | [] => 0
  | d :: r => uptoBulk d + uptoBulkAll r
def uptoBulkEntries {H : Type} : List (Lit × DataW H) → Nat
  | [] => 0
  | x :: r => uptoBulkEntry x + uptoBulkEntries r
def uptoBulkEntry {H : Type} : Lit × DataW H → Nat
  | (.string bytes, d) => bytes.length + uptoBulk d + 1
  | (_, d) => uptoBulk d + 1
 end
def uptoSmall : (H : Type) → List (DataW H) → Bool := fun _ ds => decide (uptoBulkAll ds ≤ 1048576)
def OpenSpec.upto (s : _root_.Go.ChangeSpec) : _root_.Go.OpenSpec := { _root_.Go.OpenSpec.ofChange s with cond := some uptoSmall }

/-- 'throngtop.TopSeen', WHERE WHAT IT READS IS OF BULK AT MOST 1048576: true; the input reads as it did. -/
def topSeenUptoRow : OpenClaim := { program := "ytkahacegdhllcaagreat", sum := "df5067f30029ae1ebb2fd852ddfae5f5ae77f876dd53fb3681a8d8777781f930", func := "throng/throngtop.TopSeen", spec := "topSeen", inPlace := ["slices.overlaps[int]", "math/bits.Add64", "slices.overlaps[throng/api.Input]", "sync/atomic.LoadUint32", "(*internal/sync.Mutex).Lock", "internal/race.Disable", "sync/atomic.CompareAndSwapInt32", "internal/race.Enable", "internal/race.Acquire", "(*internal/sync.Mutex).lockSlow", "internal/sync.runtime_canSpin", "internal/sync.runtime_doSpin", "internal/sync.throw", "internal/sync.runtime_nanotime", "internal/sync.runtime_SemacquireMutex", "sync/atomic.AddInt32", "(*internal/sync.Mutex).Unlock", "internal/race.ReleaseMerge", "(*internal/sync.Mutex).unlockSlow", "internal/sync.fatal", "internal/sync.runtime_Semrelease", "sync/atomic.StoreUint32", "slices.overlaps[throng/api.Building]"], unfollowed := true, recurses := true, named := ["math/bits.divideError", "math/bits.overflowError"], plainKeys := false, apart := false, narrowed := true }
def TopSeenUptoSaid : Prop := topSeenUptoRow.holds Tryz.pinned (OpenSpec.upto topSeenSpec)

/-- 'throngtop.TopMaps', WHERE WHAT IT READS IS OF BULK AT MOST 1048576: true; the input reads as it did. -/
def topMapsUptoRow : OpenClaim := { program := "ytkahacegdhllcaagreat", sum := "df5067f30029ae1ebb2fd852ddfae5f5ae77f876dd53fb3681a8d8777781f930", func := "throng/throngtop.TopMaps", spec := "topMaps", inPlace := ["slices.overlaps[int]", "math/bits.Add64", "slices.overlaps[throng/api.Input]", "sync/atomic.LoadUint32", "(*internal/sync.Mutex).Lock", "internal/race.Disable", "sync/atomic.CompareAndSwapInt32", "internal/race.Enable", "internal/race.Acquire", "(*internal/sync.Mutex).lockSlow", "internal/sync.runtime_canSpin", "internal/sync.runtime_doSpin", "internal/sync.throw", "internal/sync.runtime_nanotime", "internal/sync.runtime_SemacquireMutex", "sync/atomic.AddInt32", "(*internal/sync.Mutex).Unlock", "internal/race.ReleaseMerge", "(*internal/sync.Mutex).unlockSlow", "internal/sync.fatal", "internal/sync.runtime_Semrelease", "sync/atomic.StoreUint32", "slices.overlaps[throng/api.Building]"], unfollowed := true, recurses := true, named := ["math/bits.divideError", "math/bits.overflowError"], plainKeys := false, apart := false, narrowed := true }
def TopMapsUptoSaid : Prop := topMapsUptoRow.holds Tryz.pinned (OpenSpec.upto topMapsSpec)

/-- 'thronglaw30.SessionAgree', WHERE WHAT IT READS IS OF BULK AT MOST 1048576: true; the input reads as it did. -/
def sessionAgreeUptoRow : OpenClaim := { program := "ytkahacegdhllcaagreat", sum := "df5067f30029ae1ebb2fd852ddfae5f5ae77f876dd53fb3681a8d8777781f930", func := "throng/thronglaw30.SessionAgree", spec := "sessionAgree", inPlace := ["slices.overlaps[int]", "math/bits.Add64", "slices.overlaps[throng/api.Input]", "sync/atomic.LoadUint32", "(*internal/sync.Mutex).Lock", "internal/race.Disable", "sync/atomic.CompareAndSwapInt32", "internal/race.Enable", "internal/race.Acquire", "(*internal/sync.Mutex).lockSlow", "internal/sync.runtime_canSpin", "internal/sync.runtime_doSpin", "internal/sync.throw", "internal/sync.runtime_nanotime", "internal/sync.runtime_SemacquireMutex", "sync/atomic.AddInt32", "(*internal/sync.Mutex).Unlock", "internal/race.ReleaseMerge", "(*internal/sync.Mutex).unlockSlow", "internal/sync.fatal", "internal/sync.runtime_Semrelease", "sync/atomic.StoreUint32", "slices.overlaps[throng/api.Building]"], unfollowed := true, recurses := true, named := ["math/bits.divideError", "math/bits.overflowError"], plainKeys := false, apart := false, narrowed := true }
def SessionAgreeUptoSaid : Prop := sessionAgreeUptoRow.holds Tryz.pinned (OpenSpec.upto sessionAgreeSpec)

/-- 'thronglaw30.SessionGoes', WHERE WHAT IT READS IS OF BULK AT MOST 1048576: true; the input reads as it did. -/
def sessionGoesUptoRow : OpenClaim := { program := "ytkahacegdhllcaagreat", sum := "df5067f30029ae1ebb2fd852ddfae5f5ae77f876dd53fb3681a8d8777781f930", func := "throng/thronglaw30.SessionGoes", spec := "sessionGoes", inPlace := ["slices.overlaps[int]", "math/bits.Add64", "slices.overlaps[throng/api.Input]", "sync/atomic.LoadUint32", "(*internal/sync.Mutex).Lock", "internal/race.Disable", "sync/atomic.CompareAndSwapInt32", "internal/race.Enable", "internal/race.Acquire", "(*internal/sync.Mutex).lockSlow", "internal/sync.runtime_canSpin", "internal/sync.runtime_doSpin", "internal/sync.throw", "internal/sync.runtime_nanotime", "internal/sync.runtime_SemacquireMutex", "sync/atomic.AddInt32", "(*internal/sync.Mutex).Unlock", "internal/race.ReleaseMerge", "(*internal/sync.Mutex).unlockSlow", "internal/sync.fatal", "internal/sync.runtime_Semrelease", "sync/atomic.StoreUint32", "slices.overlaps[throng/api.Building]"], unfollowed := true, recurses := true, named := ["math/bits.divideError", "math/bits.overflowError"], plainKeys := false, apart := false, narrowed := true }
def SessionGoesUptoSaid : Prop := sessionGoesUptoRow.holds Tryz.pinned (OpenSpec.upto sessionGoesSpec)

end Rows
end Go.Proofs.YtkahacegdhllcaaGreat
