/- Lemmas of thronglaw29; no conditions. -/
import Derived.Test.YtphhbmaalpdnoaaGreatKT
import Derived.Test.YtphhbmaalpdnoaaGreatKS
set_option linter.unusedSimpArgs false
set_option linter.unusedVariables false
set_option linter.defProp false
open List renaming length→Γ
open Option renaming some→Δ,none→Θ
namespace Go.Proofs
open Go Go.V
set_option maxRecDepth 20000
set_option maxHeartbeats 4000000
end Go.Proofs
namespace Go.Proofs
open Go Go.V
set_option maxRecDepth 20000
set_option maxHeartbeats 4000000
end Go.Proofs
namespace Go.Proofs
open Go Go.V Tryz
set_option maxRecDepth 20000
set_option maxHeartbeats 4000000
def yg3(w:Wld)(a:playW w)(id k:Int)(b:vd k)(q:Vc)(d:q.ok)(st:Store)(R:Ja)
  (h:∀z:Bool,(z=true↔qi w id k q)->R (V.bool z) st):Jb 402 [.agg (zo w),int id,int k,.agg (zr q)] st R:=by
 have f:=xr a.1;have g:=f.hB;have e:=f.hU;refine Qy 14 func402 ?_;exact iv w f.hg Z f.hb Z a.2 f.hk id k b q d _ _ λz c=>ret (h z c)
def yid(w:Wld)(b:Γ w.U<=1000000)(id:Int)(a:Store)(R:Ja)(h:R (int (Dp (qc w.U id))) a):Jb 33 [.agg (zo w),int id] a R:=Pw w b id a R h
def yic(w:Wld)(c:playW w){i:Nat}(d:i<Γ w.U)(id:Int)(b:w.U[i].id=id)(a:Store)(R:Ja)(h:R (int (i:Nat)) a):Jb 33 [.agg (zo w),int id] a R:=
 yid w c.sizes.2.2 id a R (by rw[Mg c.1.1.2.1 d b];exact h)
end Go.Proofs
