/- The ground on which laws of thronglaw23 are proved: contracts of functions and plain lemmas; no condition beyond the row's own. -/
import Derived.Test.YtlmechfgnfepoaaGreatSF
set_option linter.unusedSimpArgs false
set_option linter.unusedVariables false
namespace Go.Proofs
open Go Go.V
theorem zoh {l : List Unt} {i : Nat} (hi : i < l.length) (id : Int) : inOf (l.take (i + 1)) id = inOf (l.take i) id ++ (if l[i].inn = id then [l[i].id] else []) := by
 unfold inOf
 rw [List.take_succ_eq_append_getElem hi, List.filter_append, List.map_append]
 by_cases h : l[i].inn = id <;> simp [h]
end Go.Proofs
namespace Go.Proofs
open Go Go.V
end Go.Proofs
namespace Go.Proofs
open Go Go.V
end Go.Proofs
namespace Go.Proofs
open Go Go.V
end Go.Proofs
