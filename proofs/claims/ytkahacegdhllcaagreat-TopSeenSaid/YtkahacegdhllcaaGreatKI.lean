/- Ground of laws of throngtop: contracts and plain lemmas; no condition beyond the row's own. -/
import Derived.Test.YtkahacegdhllcaaGreatKG
set_option linter.unusedSimpArgs false
set_option linter.unusedVariables false
set_option linter.defProp false
namespace Go.Proofs
open Go Go.V
set_option maxRecDepth 20000
set_option maxHeartbeats 4000000
def zb9{t:UInt8}(h:t.toNat<=5):t=0\/t=1\/t=2\/t=3\/t=4\/t=5:=by have:t.toNat=(0:UInt8).toNat\/t.toNat=(1:UInt8).toNat\/t.toNat=(2:UInt8).toNat\/t.toNat=(3:UInt8).toNat\/t.toNat=(4:UInt8).toNat\/t.toNat=(5:UInt8).toNat:=δ;simpa only[UInt8.toNat_inj]using this
def j9(k:Int)(st:Store)(R:Ja)(h:R (.agg (Mf k)) st):Jb 115 [int k] st R:=by
 refine Qy 14 Tryz.func115 ?_;unfold Mf z6 Aj qp vn ko at h;refine zu (λh1=>?_) (λh1=>?_)
 ·simp only[h1]at h;exact ret h
 refine zu (λh2=>?_) (λh2=>?_)
 ·simp only[h2]at h;exact ret h
 refine zu (λh3=>?_) (λh3=>?_)
 ·simp only[h3]at h;exact ret h
 simp only[h1,h2,h3,if_false]at h;exact ret h
def nr(c:Int)(t:UInt8)(ht:t.toNat<=5)(st:Store)(R:Ja)(h:R (int (Fw c t.toNat)) st):Jb 190 [int c,u8 t] st R:=by
 refine Qy 17 Tryz.func190 ?_;unfold Fw at h;have hn:=zb9 ht;refine zu (λh1=>?_) (λh1=>?_)
 ·rw[if_pos h1]at h;rcases hn with rfl|rfl|rfl|rfl|rfl|rfl<;>exact⟨_,rfl,ψ,optR (ret h)⟩
 refine zu (λh2=>?_) (λh2=>?_)
 ·rw[if_neg h1,if_pos h2]at h;rcases hn with rfl|rfl|rfl|rfl|rfl|rfl<;>exact⟨_,rfl,ψ,optR (ret h)⟩
 rw[if_neg h1,if_neg h2]at h;rcases hn with rfl|rfl|rfl|rfl|rfl|rfl<;>exact⟨_,rfl,ψ,optR (ret h)⟩
end Go.Proofs
