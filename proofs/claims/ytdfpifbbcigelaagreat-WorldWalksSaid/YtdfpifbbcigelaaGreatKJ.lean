/- Ground of laws of thronglaw25: contracts and plain lemmas; no condition beyond the row's own. -/
import Derived.Test.YtdfpifbbcigelaaGreatKH
set_option linter.unusedSimpArgs false
set_option linter.unusedVariables false
namespace Go.Proofs
open Go Go.V
set_option maxRecDepth 20000
set_option maxHeartbeats 4000000
theorem R9{t:UInt8}(h:t.toNat<=5):t=0\/t=1\/t=2\/t=3\/t=4\/t=5:=by
 have:t.toNat=(0:UInt8).toNat\/t.toNat=(1:UInt8).toNat\/t.toNat=(2:UInt8).toNat\/t.toNat=(3:UInt8).toNat\/t.toNat=(4:UInt8).toNat\/t.toNat=(5:UInt8).toNat:=by
  show t.toNat=0\/t.toNat=1\/t.toNat=2\/t.toNat=3\/t.toNat=4\/t.toNat=5
  omega
 simpa only[UInt8.toNat_inj]using this
theorem xq(k:Int)(st:Store)(R:Ja)(h:R (.agg (Cw k)) st):Jb 195 [int k] st R:=by
 refine Qa (c:=cfg 14) zb Tryz.func195 ?_
 unfold Cw zp j5 yu xx xi at h
 refine z6 (λh1=>?_) (λh1=>?_)
 ·simp only[h1]at h
  exact ret h
 refine z6 (λh2=>?_) (λh2=>?_)
 ·simp only[h2]at h
  exact ret h
 refine z6 (λh3=>?_) (λh3=>?_)
 ·simp only[h3]at h
  exact ret h
 simp only[h1,h2,h3,if_false]at h
 exact ret h
theorem nw(k:Int)(st:Store)(R:Ja)(h:vy k->R (.tup [.agg (Cw k),bool true]) st)(h':¬vy k->R (.tup [.agg [int 0,int 0,int 0,int 0,int 0],bool false]) st):Jb 67 [int k] st R:=by
 refine Qa (c:=cfg 18) zb Tryz.func67 ?_
 unfold Cw zp j5 yu xx xi vy at h
 refine z6 (λh1=>?_) (λh1=>?_)
 ·simp only[h1]at h
  exact ret (h (by decide))
 refine z6 (λh2=>?_) (λh2=>?_)
 ·simp only[h2]at h
  exact ret (h (by decide))
 refine z6 (λh3=>?_) (λh3=>?_)
 ·simp only[h3]at h
  exact ret (h (by decide))
 refine z6 (λh4=>?_) (λh4=>?_)
 ·simp only[h4]at h
  exact ret (h (by decide))
 exact ret (h' (by unfold vy;omega))
theorem Ns(k:Int)(hk:vy k)(st:Store)(R:Ja)(h:R (.agg (Cw k)) st):Jb 17 [int k] st R:=by
 refine Qa (c:=cfg 11) zb Tryz.func17 ?_
 refine nw k _ _ (λ_=>ret h) (λh1=>absurd hk h1)
theorem S5(c:Int)(t:UInt8)(ht:t.toNat<=5)(st:Store)(R:Ja)(h:R (int (wv c t.toNat)) st):Jb 360 [int c,u8 t] st R:=by
 refine Qa (c:=cfg 17) zb Tryz.func360 ?_
 unfold wv at h
 have hn:=R9 ht
 refine z6 (λh1=>?_) (λh1=>?_)
 ·rw[if_pos h1]at h
  rcases hn with rfl|rfl|rfl|rfl|rfl|rfl<;>exact⟨_,rfl,by decide,optR (ret h)⟩
 refine z6 (λh2=>?_) (λh2=>?_)
 ·rw[if_neg h1,if_pos h2]at h
  rcases hn with rfl|rfl|rfl|rfl|rfl|rfl<;>exact⟨_,rfl,by decide,optR (ret h)⟩
 rw[if_neg h1,if_neg h2]at h
 rcases hn with rfl|rfl|rfl|rfl|rfl|rfl<;>exact⟨_,rfl,by decide,optR (ret h)⟩
theorem ye0(c:Int)(hc:c=0\/c=1\/c=2)(t:UInt8)(ht:t.toNat<=5)(st:Store)(R:Ja)(h:R (int (wv c t.toNat)) st):Jb 209 [int c,u8 t] st R:=by
 refine Qa (c:=cfg 15) zb Tryz.func209 ?_
 unfold wv at h
 have hn:=R9 ht
 rcases hc with rfl|rfl|rfl<;>rcases hn with rfl|rfl|rfl|rfl|rfl|rfl<;>exact⟨_,rfl,by decide,_,rfl,by decide,optR (ret h)⟩
end Go.Proofs
