/- Ground of laws of throngtop: contracts and plain lemmas; no condition beyond the row's own. -/
import Derived.Test.YtphhbmaalpdnoaaGreatKX
import Derived.Test.YtphhbmaalpdnoaaGreatKW
set_option linter.unusedSimpArgs false
set_option linter.unusedVariables false
set_option linter.defProp false
namespace Go.Proofs
open Go Go.V
set_option maxRecDepth 20000
set_option maxHeartbeats 4000000
theorem zcr{a b c d:AV}(h:AV.le a c)(h':AV.le b d):AV.le (.tup [a,b]) (.tup [c,d]):=by
 intro w T v hv;cases hv with
 |tup _ cs hl hc=>
  refine .tup _ cs hl λi x y hx hy=>?_
  match i,hx with
  |0,hx=>cases hx;exact h w T y (hc 0 _ _ rfl hy)
  |1,hx=>cases hx;exact h' w T y (hc 1 _ _ rfl hy)
  |i+2,hx=>cases hx
end Go.Proofs
namespace Go.Proofs
open Go Go.V
set_option maxRecDepth 20000
set_option maxHeartbeats 4000000
end Go.Proofs
