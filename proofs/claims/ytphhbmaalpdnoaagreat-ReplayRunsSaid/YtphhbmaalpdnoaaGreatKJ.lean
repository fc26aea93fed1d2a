/- Lemmas of thronglaw29; no conditions. -/
import Derived.Test.YtphhbmaalpdnoaaGreatKH
set_option linter.unusedSimpArgs false
set_option linter.unusedVariables false
set_option linter.defProp false
open List renaming length→Γ
open Option renaming some→Δ,none→Θ
namespace Go.Proofs
open Go Go.V Tryz
set_option maxRecDepth 20000
set_option maxHeartbeats 4000000
def f8{t:UInt8}(h:t.toNat<=5):t=0\/t=1\/t=2\/t=3\/t=4\/t=5:=by have:t.toNat=(0:UInt8).toNat\/t.toNat=(1:UInt8).toNat\/t.toNat=(2:UInt8).toNat\/t.toNat=(3:UInt8).toNat\/t.toNat=(4:UInt8).toNat\/t.toNat=(5:UInt8).toNat:=δ;simpa only[UInt8.toNat_inj]using this
def ky(k:Int)(st:Store)(R:Ja)(h:R (.agg (D6 k)) st):Jb 185 [int k] st R:=by
 refine Qy 14 func185 ?_;unfold D6 zw xa yk qn j6 at h;refine zp (λc=>?_) (λc=>?_)
 .simp only[c]at h;exact ret h
 refine zp (λb=>?_) (λb=>?_)
 .simp only[b]at h;exact ret h
 refine zp (λa=>?_) (λa=>?_)
 .simp only[a]at h;exact ret h
 simp only[c,b,a,if_false]at h;exact ret h
def zd9(k:Int)(st:Store)(R:Ja)(h:vd k->R (.tup [.agg (D6 k),bool true]) st)(e:¬vd k->R (.tup [.agg [int 0,int 0,int 0,int 0,int 0],bool false]) st):Jb 67 [int k] st R:=by
 refine Qy 18 func67 ?_;unfold D6 zw xa yk qn j6 vd at h;refine zp (λd=>?_) (λd=>?_)
 .simp only[d]at h;exact ret (h ψ)
 refine zp (λc=>?_) (λc=>?_)
 .simp only[c]at h;exact ret (h ψ)
 refine zp (λb=>?_) (λb=>?_)
 .simp only[b]at h;exact ret (h ψ)
 refine zp (λa=>?_) (λa=>?_)
 .simp only[a]at h;exact ret (h ψ)
 exact ret (e (by unfold vd;omega))
def Df(k:Int)(a:vd k)(st:Store)(R:Ja)(h:R (.agg (D6 k)) st):Jb 20 [int k] st R:=by refine Qy 11 func20 ?_;refine zd9 k _ _ (λ_=>ret h) (λb=>absurd a b)
def lc(c:Int)(t:UInt8)(d:t.toNat<=5)(st:Store)(R:Ja)(h:R (int (Bo c t.toNat)) st):Jb 314 [int c,u8 t] st R:=by
 refine Qy 17 func314 ?_;unfold Bo at h;have hn:=f8 d;refine zp (λa=>?_) (λa=>?_)
 .rw[if_pos a]at h;rcases hn with rfl|rfl|rfl|rfl|rfl|rfl<;>exact⟨_,rfl,ψ,optR (ret h)⟩
 refine zp (λb=>?_) (λb=>?_)
 .rw[if_neg a,if_pos b]at h;rcases hn with rfl|rfl|rfl|rfl|rfl|rfl<;>exact⟨_,rfl,ψ,optR (ret h)⟩
 rw[if_neg a,if_neg b]at h;rcases hn with rfl|rfl|rfl|rfl|rfl|rfl<;>exact⟨_,rfl,ψ,optR (ret h)⟩
def o9(c:Int)(b:c=0\/c=1\/c=2)(t:UInt8)(a:t.toNat<=5)(st:Store)(R:Ja)(h:R (int (Bo c t.toNat)) st):Jb 258 [int c,u8 t] st R:=by refine Qy 15 func258 ?_;unfold Bo at h;have hn:=f8 a;rcases b with rfl|rfl|rfl<;>rcases hn with rfl|rfl|rfl|rfl|rfl|rfl<;>exact⟨_,rfl,ψ,_,rfl,ψ,optR (ret h)⟩
end Go.Proofs
