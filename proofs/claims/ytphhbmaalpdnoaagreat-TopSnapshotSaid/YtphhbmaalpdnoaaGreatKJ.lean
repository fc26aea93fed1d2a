/- Ground of laws of throngtop: contracts and plain lemmas; no condition beyond the row's own. -/
import Derived.Test.YtphhbmaalpdnoaaGreatKH
set_option linter.unusedSimpArgs false
set_option linter.unusedVariables false
set_option linter.defProp false
namespace Go.Proofs
open Go Go.V
set_option maxRecDepth 20000
set_option maxHeartbeats 4000000
theorem ee{t:UInt8}(h:t.toNat<=5):t=0\/t=1\/t=2\/t=3\/t=4\/t=5:=by have:t.toNat=(0:UInt8).toNat\/t.toNat=(1:UInt8).toNat\/t.toNat=(2:UInt8).toNat\/t.toNat=(3:UInt8).toNat\/t.toNat=(4:UInt8).toNat\/t.toNat=(5:UInt8).toNat:=δ;simpa only[UInt8.toNat_inj]using this
theorem ju(k:Int)(st:Store)(R:Ja)(h:R (.agg (Fw k)) st):Jb 185 [int k] st R:=by
 refine Qa (c:=cfg 14) zb Tryz.func185 ?_;unfold Fw zx wq qi kj jh at h;refine zw (λh1=>?_) (λh1=>?_)
 ·simp only[h1]at h;exact ret h
 refine zw (λh2=>?_) (λh2=>?_)
 ·simp only[h2]at h;exact ret h
 refine zw (λh3=>?_) (λh3=>?_)
 ·simp only[h3]at h;exact ret h
 simp only[h1,h2,h3,if_false]at h;exact ret h
theorem zct(k:Int)(st:Store)(R:Ja)(h:Av k->R (.tup [.agg (Fw k),bool true]) st)(h':¬Av k->R (.tup [.agg [int 0,int 0,int 0,int 0,int 0],bool false]) st):Jb 67 [int k] st R:=by
 refine Qa (c:=cfg 18) zb Tryz.func67 ?_;unfold Fw zx wq qi kj jh Av at h;refine zw (λh1=>?_) (λh1=>?_)
 ·simp only[h1]at h;exact ret (h ψ)
 refine zw (λh2=>?_) (λh2=>?_)
 ·simp only[h2]at h;exact ret (h ψ)
 refine zw (λh3=>?_) (λh3=>?_)
 ·simp only[h3]at h;exact ret (h ψ)
 refine zw (λh4=>?_) (λh4=>?_)
 ·simp only[h4]at h;exact ret (h ψ)
 exact ret (h' (by unfold Av;omega))
theorem Sw(k:Int)(hk:Av k)(st:Store)(R:Ja)(h:R (.agg (Fw k)) st):Jb 20 [int k] st R:=by refine Qa (c:=cfg 11) zb Tryz.func20 ?_;refine zct k _ _ (λ_=>ret h) (λh1=>absurd hk h1)
theorem gg(c:Int)(t:UInt8)(ht:t.toNat<=5)(st:Store)(R:Ja)(h:R (int (Bt c t.toNat)) st):Jb 314 [int c,u8 t] st R:=by
 refine Qa (c:=cfg 17) zb Tryz.func314 ?_;unfold Bt at h;have hn:=ee ht;refine zw (λh1=>?_) (λh1=>?_)
 ·rw[if_pos h1]at h;rcases hn with rfl|rfl|rfl|rfl|rfl|rfl<;>exact⟨_,rfl,ψ,optR (ret h)⟩
 refine zw (λh2=>?_) (λh2=>?_)
 ·rw[if_neg h1,if_pos h2]at h;rcases hn with rfl|rfl|rfl|rfl|rfl|rfl<;>exact⟨_,rfl,ψ,optR (ret h)⟩
 rw[if_neg h1,if_neg h2]at h;rcases hn with rfl|rfl|rfl|rfl|rfl|rfl<;>exact⟨_,rfl,ψ,optR (ret h)⟩
theorem yqj(c:Int)(hc:c=0\/c=1\/c=2)(t:UInt8)(ht:t.toNat<=5)(st:Store)(R:Ja)(h:R (int (Bt c t.toNat)) st):Jb 258 [int c,u8 t] st R:=by refine Qa (c:=cfg 15) zb Tryz.func258 ?_;unfold Bt at h;have hn:=ee ht;rcases hc with rfl|rfl|rfl<;>rcases hn with rfl|rfl|rfl|rfl|rfl|rfl<;>exact⟨_,rfl,ψ,_,rfl,ψ,optR (ret h)⟩
end Go.Proofs
