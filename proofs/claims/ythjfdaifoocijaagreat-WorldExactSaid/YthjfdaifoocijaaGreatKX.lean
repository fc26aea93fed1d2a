/- Ground of laws of thronglaw25: contracts and plain lemmas; no condition beyond the row's own. -/
import Derived.Test.YthjfdaifoocijaaGreatKW
import Derived.Test.YthjfdaifoocijaaGreatKV
set_option linter.unusedSimpArgs false
set_option linter.unusedVariables false
set_option linter.defProp false
namespace Go.Proofs
open Go Go.V
set_option maxRecDepth 20000
set_option maxHeartbeats 4000000
end Go.Proofs
namespace Go.Proofs
open Go Go.V
set_option maxRecDepth 20000
set_option maxHeartbeats 4000000
def ya0(w:Wld)(hw:playW w)(id k:Int)(hk:kr k)(q:Vc)(hq:q.ok)(st:Store)(R:Ja)
  (h:∀z:Bool,(z=true↔qh w id k q)->R (V.bool z) st):Jb 58 [.agg (zp w),int id,int k,.agg (zu q)] st R:=by
 have f:=xh hw.1;have hB:=f.hB;have hU:=f.hU;refine Qy 14 Tryz.func58 ?_;exact dc w f.hg θ f.hb θ hw.2 f.hk id k hk q hq _ _ λz hz=>ret (h z hz)
def yb6(w:Wld)(hU:w.U.length<=1000000)(id:Int)(st:Store)(R:Ja)(h:R (int (Bz (qa w.U id))) st):Jb 48 [.agg (zp w),int id] st R:=ct w hU id st R h
def yb5(w:Wld)(hw:playW w){i:Nat}(hi:i<w.U.length)(id:Int)(hid:w.U[i].id=id)(st:Store)(R:Ja)(h:R (int (i:Nat)) st):Jb 48 [.agg (zp w),int id] st R:=
 yb6 w hw.sizes.2.2 id st R (by rw[Lc hw.1.1.2.1 hi hid];exact h)
end Go.Proofs
