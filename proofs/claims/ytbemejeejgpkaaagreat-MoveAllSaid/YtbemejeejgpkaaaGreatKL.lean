/- The ground on which laws of thronglaw24 are proved: contracts of functions and plain lemmas; no condition beyond the row's own. -/
import Derived.Test.YtbemejeejgpkaaaGreatKJ
set_option linter.unusedSimpArgs false
set_option linter.unusedVariables false
namespace Go.Proofs
open Go Go.V
set_option maxRecDepth 4000
theorem zqt{t:UInt8}(h:t.toNat<=5):t=0\/t=1\/t=2\/t=3\/t=4\/t=5:=by
 have:t.toNat=(0:UInt8).toNat\/t.toNat=(1:UInt8).toNat\/t.toNat=(2:UInt8).toNat\/t.toNat=(3:UInt8).toNat\/t.toNat=(4:UInt8).toNat\/t.toNat=(5:UInt8).toNat:=by
  show t.toNat=0\/t.toNat=1\/t.toNat=2\/t.toNat=3\/t.toNat=4\/t.toNat=5
  omega
 simpa only[UInt8.toNat_inj]using this
theorem zq(k:Int)(st:Store)(R:AV->Store->Prop)(h:R (.agg (zd0 k)) st):ACalls Tryz.prog 137 [int k] st R:=by
 refine Qa (c:=cfg 14) zc Tryz.func137 ?_
 unfold zd0 kRad yp kCls yy zbj at h
 refine bceq (fun h1=>?_) (fun h1=>?_)
 ·simp only[h1]at h
  exact ret h
 refine bceq (fun h2=>?_) (fun h2=>?_)
 ·simp only[h2]at h
  exact ret h
 refine bceq (fun h3=>?_) (fun h3=>?_)
 ·simp only[h3]at h
  exact ret h
 simp only[h1,h2,h3,if_false]at h
 exact ret h
theorem zua(k:Int)(st:Store)(R:AV->Store->Prop)(h:zca k->R (.tup [.agg (zd0 k),bool true]) st)(h':¬zca k->R (.tup [.agg [int 0,int 0,int 0,int 0,int 0],bool false]) st):ACalls Tryz.prog 61 [int k] st R:=by
 refine Qa (c:=cfg 18) zc Tryz.func61 ?_
 unfold zd0 kRad yp kCls yy zbj zca at h
 refine bceq (fun h1=>?_) (fun h1=>?_)
 ·simp only[h1]at h
  exact ret (h (by decide))
 refine bceq (fun h2=>?_) (fun h2=>?_)
 ·simp only[h2]at h
  exact ret (h (by decide))
 refine bceq (fun h3=>?_) (fun h3=>?_)
 ·simp only[h3]at h
  exact ret (h (by decide))
 refine bceq (fun h4=>?_) (fun h4=>?_)
 ·simp only[h4]at h
  exact ret (h (by decide))
 exact ret (h' (by unfold zca;omega))
theorem ve(k:Int)(hk:zca k)(st:Store)(R:AV->Store->Prop)(h:R (.agg (zd0 k)) st):ACalls Tryz.prog 23 [int k] st R:=by
 refine Qa (c:=cfg 11) zc Tryz.func23 ?_
 refine zua k _ _ (fun _=>ret h) (fun h1=>absurd hk h1)
theorem zfq(c:Int)(t:UInt8)(ht:t.toNat<=5)(st:Store)(R:AV->Store->Prop)(h:R (int (zb8 c t.toNat)) st):ACalls Tryz.prog 222 [int c,u8 t] st R:=by
 refine Qa (c:=cfg 17) zc Tryz.func222 ?_
 unfold zb8 at h
 have hn:=zqt ht
 refine bceq (fun h1=>?_) (fun h1=>?_)
 ·rw[if_pos h1]at h
  rcases hn with rfl|rfl|rfl|rfl|rfl|rfl<;>exact⟨_,rfl,by decide,optR (ret h)⟩
 refine bceq (fun h2=>?_) (fun h2=>?_)
 ·rw[if_neg h1,if_pos h2]at h
  rcases hn with rfl|rfl|rfl|rfl|rfl|rfl<;>exact⟨_,rfl,by decide,optR (ret h)⟩
 rw[if_neg h1,if_neg h2]at h
 rcases hn with rfl|rfl|rfl|rfl|rfl|rfl<;>exact⟨_,rfl,by decide,optR (ret h)⟩
theorem zi8(c:Int)(hc:c=0\/c=1\/c=2)(t:UInt8)(ht:t.toNat<=5)(st:Store)(R:AV->Store->Prop)(h:R (int (zb8 c t.toNat)) st):ACalls Tryz.prog 157 [int c,u8 t] st R:=by
 refine Qa (c:=cfg 15) zc Tryz.func157 ?_
 unfold zb8 at h
 have hn:=zqt ht
 rcases hc with rfl|rfl|rfl<;>rcases hn with rfl|rfl|rfl|rfl|rfl|rfl<;>exact⟨_,rfl,by decide,_,rfl,by decide,optR (ret h)⟩
end Go.Proofs
