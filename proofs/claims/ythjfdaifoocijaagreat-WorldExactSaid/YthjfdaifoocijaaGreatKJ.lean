/- Ground of laws of thronglaw25: contracts and plain lemmas; no condition beyond the row's own. -/
import Derived.Test.YthjfdaifoocijaaGreatKH
set_option linter.unusedSimpArgs false
set_option linter.unusedVariables false
set_option linter.defProp false
namespace Go.Proofs
open Go Go.V
set_option maxRecDepth 20000
set_option maxHeartbeats 4000000
def bg{t:UInt8}(h:t.toNat<=5):t=0\/t=1\/t=2\/t=3\/t=4\/t=5:=by have:t.toNat=(0:UInt8).toNat\/t.toNat=(1:UInt8).toNat\/t.toNat=(2:UInt8).toNat\/t.toNat=(3:UInt8).toNat\/t.toNat=(4:UInt8).toNat\/t.toNat=(5:UInt8).toNat:=δ;simpa only[UInt8.toNat_inj]using this
def kj(k:Int)(st:Store)(R:Ja)(h:R (.agg (C7 k)) st):Jb 134 [int k] st R:=by
 refine Qy 14 Tryz.func134 ?_;unfold C7 z6 xa yl qm j2 at h;refine zt (λh1=>?_) λh1=>?_
 ·simp only[h1]at h;exact ret h
 refine zt (λh2=>?_) λh2=>?_
 ·simp only[h2]at h;exact ret h
 refine zt (λh3=>?_) λh3=>?_
 ·simp only[h3]at h;exact ret h
 simp only[h1,h2,h3,if_false]at h;exact ret h
def zaw(k:Int)(st:Store)(R:Ja)(h:kr k->R (.tup [.agg (C7 k),bool true]) st)(h':¬kr k->R (.tup [.agg [int 0,int 0,int 0,int 0,int 0],bool false]) st):Jb 43 [int k] st R:=by
 refine Qy 18 Tryz.func43 ?_;unfold C7 z6 xa yl qm j2 kr at h;refine zt (λh1=>?_) λh1=>?_
 ·simp only[h1]at h;exact ret (h ψ)
 refine zt (λh2=>?_) λh2=>?_
 ·simp only[h2]at h;exact ret (h ψ)
 refine zt (λh3=>?_) λh3=>?_
 ·simp only[h3]at h;exact ret (h ψ)
 refine zt (λh4=>?_) λh4=>?_
 ·simp only[h4]at h;exact ret (h ψ)
 exact ret (h' (by unfold kr;omega))
def Cn(k:Int)(hk:kr k)(st:Store)(R:Ja)(h:R (.agg (C7 k)) st):Jb 11 [int k] st R:=by refine Qy 11 Tryz.func11 ?_;refine zaw k _ _ (λ_=>ret h) λh1=>absurd hk h1
def dq(c:Int)(t:UInt8)(ht:t.toNat<=5)(st:Store)(R:Ja)(h:R (int (At c t.toNat)) st):Jb 285 [int c,u8 t] st R:=by
 refine Qy 17 Tryz.func285 ?_;unfold At at h;have hn:=bg ht;refine zt (λh1=>?_) λh1=>?_
 ·rw[if_pos h1]at h;rcases hn with rfl|rfl|rfl|rfl|rfl|rfl<;>exact⟨_,rfl,ψ,optR (ret h)⟩
 refine zt (λh2=>?_) λh2=>?_
 ·rw[if_neg h1,if_pos h2]at h;rcases hn with rfl|rfl|rfl|rfl|rfl|rfl<;>exact⟨_,rfl,ψ,optR (ret h)⟩
 rw[if_neg h1,if_neg h2]at h;rcases hn with rfl|rfl|rfl|rfl|rfl|rfl<;>exact⟨_,rfl,ψ,optR (ret h)⟩
def im(c:Int)(hc:c=0\/c=1\/c=2)(t:UInt8)(ht:t.toNat<=5)(st:Store)(R:Ja)(h:R (int (At c t.toNat)) st):Jb 220 [int c,u8 t] st R:=by refine Qy 15 Tryz.func220 ?_;unfold At at h;have hn:=bg ht;rcases hc with rfl|rfl|rfl<;>rcases hn with rfl|rfl|rfl|rfl|rfl|rfl<;>exact⟨_,rfl,ψ,_,rfl,ψ,optR (ret h)⟩
end Go.Proofs
