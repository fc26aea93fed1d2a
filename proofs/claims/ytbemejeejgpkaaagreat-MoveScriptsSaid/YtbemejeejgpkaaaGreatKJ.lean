/- Ground of laws of thronglaw24: contracts and plain lemmas; no condition beyond the row's own. -/
import Derived.Test.YtbemejeejgpkaaaGreatKH
set_option linter.unusedSimpArgs false
set_option linter.unusedVariables false
namespace Go.Proofs
open Go Go.V
set_option maxRecDepth 20000
set_option maxHeartbeats 4000000
theorem Vh{t:UInt8}(h:t.toNat<=5):t=0\/t=1\/t=2\/t=3\/t=4\/t=5:=by
 have:t.toNat=(0:UInt8).toNat\/t.toNat=(1:UInt8).toNat\/t.toNat=(2:UInt8).toNat\/t.toNat=(3:UInt8).toNat\/t.toNat=(4:UInt8).toNat\/t.toNat=(5:UInt8).toNat:=by
  show t.toNat=0\/t.toNat=1\/t.toNat=2\/t.toNat=3\/t.toNat=4\/t.toNat=5
  omega
 simpa only[UInt8.toNat_inj]using this
theorem vm(k:Int)(st:Store)(R:Ja)(h:R (.agg (Cb k)) st):Jb 137 [int k] st R:=by
 refine Qa (c:=cfg 14) zb Tryz.func137 ?_
 unfold Cb zv qs yf qg jg at h
 refine zy (λh1=>?_) (λh1=>?_)
 ·simp only[h1]at h
  exact ret h
 refine zy (λh2=>?_) (λh2=>?_)
 ·simp only[h2]at h
  exact ret h
 refine zy (λh3=>?_) (λh3=>?_)
 ·simp only[h3]at h
  exact ret h
 simp only[h1,h2,h3,if_false]at h
 exact ret h
theorem r9(k:Int)(st:Store)(R:Ja)(h:jv k->R (.tup [.agg (Cb k),bool true]) st)(h':¬jv k->R (.tup [.agg [int 0,int 0,int 0,int 0,int 0],bool false]) st):Jb 61 [int k] st R:=by
 refine Qa (c:=cfg 18) zb Tryz.func61 ?_
 unfold Cb zv qs yf qg jg jv at h
 refine zy (λh1=>?_) (λh1=>?_)
 ·simp only[h1]at h
  exact ret (h (by decide))
 refine zy (λh2=>?_) (λh2=>?_)
 ·simp only[h2]at h
  exact ret (h (by decide))
 refine zy (λh3=>?_) (λh3=>?_)
 ·simp only[h3]at h
  exact ret (h (by decide))
 refine zy (λh4=>?_) (λh4=>?_)
 ·simp only[h4]at h
  exact ret (h (by decide))
 exact ret (h' (by unfold jv;omega))
theorem Bj(k:Int)(hk:jv k)(st:Store)(R:Ja)(h:R (.agg (Cb k)) st):Jb 23 [int k] st R:=by
 refine Qa (c:=cfg 11) zb Tryz.func23 ?_
 refine r9 k _ _ (λ_=>ret h) (λh1=>absurd hk h1)
theorem Wg(c:Int)(t:UInt8)(ht:t.toNat<=5)(st:Store)(R:Ja)(h:R (int (wz c t.toNat)) st):Jb 222 [int c,u8 t] st R:=by
 refine Qa (c:=cfg 17) zb Tryz.func222 ?_
 unfold wz at h
 have hn:=Vh ht
 refine zy (λh1=>?_) (λh1=>?_)
 ·rw[if_pos h1]at h
  rcases hn with rfl|rfl|rfl|rfl|rfl|rfl<;>exact⟨_,rfl,by decide,optR (ret h)⟩
 refine zy (λh2=>?_) (λh2=>?_)
 ·rw[if_neg h1,if_pos h2]at h
  rcases hn with rfl|rfl|rfl|rfl|rfl|rfl<;>exact⟨_,rfl,by decide,optR (ret h)⟩
 rw[if_neg h1,if_neg h2]at h
 rcases hn with rfl|rfl|rfl|rfl|rfl|rfl<;>exact⟨_,rfl,by decide,optR (ret h)⟩
theorem ct(c:Int)(hc:c=0\/c=1\/c=2)(t:UInt8)(ht:t.toNat<=5)(st:Store)(R:Ja)(h:R (int (wz c t.toNat)) st):Jb 157 [int c,u8 t] st R:=by
 refine Qa (c:=cfg 15) zb Tryz.func157 ?_
 unfold wz at h
 have hn:=Vh ht
 rcases hc with rfl|rfl|rfl<;>rcases hn with rfl|rfl|rfl|rfl|rfl|rfl<;>exact⟨_,rfl,by decide,_,rfl,by decide,optR (ret h)⟩
end Go.Proofs
