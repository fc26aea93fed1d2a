/- Ground of laws of thronglaw30: contracts and plain lemmas; no condition beyond the row's own. -/
import Derived.Test.YtieceacpbjcddaaGreatKG
set_option linter.unusedSimpArgs false
set_option linter.unusedVariables false
set_option linter.defProp false
namespace Go.Proofs
open Go Go.V
set_option maxRecDepth 20000
set_option maxHeartbeats 4000000
theorem ew{t:UInt8}(h:t.toNat<=5):t=0\/t=1\/t=2\/t=3\/t=4\/t=5:=by
 have:t.toNat=(0:UInt8).toNat\/t.toNat=(1:UInt8).toNat\/t.toNat=(2:UInt8).toNat\/t.toNat=(3:UInt8).toNat\/t.toNat=(4:UInt8).toNat\/t.toNat=(5:UInt8).toNat:=by grind
 simpa only[UInt8.toNat_inj]using this
theorem je(k:Int)(st:Store)(R:Ja)(h:R (.agg (G9 k)) st):Jb 139 [int k] st R:=by
 refine Qa (c:=cfg 14) zb Tryz.func139 ?_
 unfold G9 zq jy qa jz xz at h
 refine qf (λh1=>?_) (λh1=>?_)
 ·simp only[h1]at h
  exact ret h
 refine qf (λh2=>?_) (λh2=>?_)
 ·simp only[h2]at h
  exact ret h
 refine qf (λh3=>?_) (λh3=>?_)
 ·simp only[h3]at h
  exact ret h
 simp only[h1,h2,h3,if_false]at h
 exact ret h
theorem S9(c:Int)(t:UInt8)(ht:t.toNat<=5)(st:Store)(R:Ja)(h:R (int (Bb c t.toNat)) st):Jb 363 [int c,u8 t] st R:=by
 refine Qa (c:=cfg 17) zb Tryz.func363 ?_
 unfold Bb at h
 have hn:=ew ht
 refine qf (λh1=>?_) (λh1=>?_)
 ·rw[if_pos h1]at h
  rcases hn with rfl|rfl|rfl|rfl|rfl|rfl<;>exact⟨_,rfl,by decide,optR (ret h)⟩
 refine qf (λh2=>?_) (λh2=>?_)
 ·rw[if_neg h1,if_pos h2]at h
  rcases hn with rfl|rfl|rfl|rfl|rfl|rfl<;>exact⟨_,rfl,by decide,optR (ret h)⟩
 rw[if_neg h1,if_neg h2]at h
 rcases hn with rfl|rfl|rfl|rfl|rfl|rfl<;>exact⟨_,rfl,by decide,optR (ret h)⟩
end Go.Proofs
