/- Ground of laws of throngtop: contracts and plain lemmas; no condition beyond the row's own. -/
import Derived.Test.YtkahacegdhllcaaGreatKO
import Derived.Test.YtkahacegdhllcaaGreatKL
set_option linter.unusedSimpArgs false
set_option linter.unusedVariables false
set_option linter.defProp false
namespace Go.Proofs
open Go Go.V
set_option maxRecDepth 20000
set_option maxHeartbeats 4000000
def yi0(l:List Int)(hl:l.length<=1000000)(st:Store)(R:Ja)(h:R (int (orZ l)) st):Jb 164 [yc l] st R:=by
 refine Qy 18 Tryz.func164 ?_;refine AWp.loop (σ:=Nat) ⟨λi=>[(3,.av (int 0)),(6,.av (yc l)),(7,.av (int l.length)),(8,.av (int i))],λ_=>[],λi st'=>i<=l.length/\st'=st/\orZ (l.drop i)=orZ l,λi=>l.length-i⟩ zb ?_ ?_
 ·refine⟨0,Tv,⟨Fae _,rfl,rfl⟩,⟨Tq,Tq,?_,Tq,Tv⟩,Tv⟩;rw[<-zi (f:=zn) l];exact Tq
 ·rintro i st' ⟨hi,rfl,hor⟩;refine zk (λh1=>?_) (λh1=>?_)
  ·have hlt:i<l.length:=by simpa using h1
   have hdrop:l.drop i=l[i]::l.drop (i+1):=by rw[Fcl hlt]
   refine⟨i,rfl,za _ (zp hlt) (zk (λh2=>⟨_,st',Tt,Store.Has.refl st',?_⟩) (λh2=>?_))⟩
   ·have h2:l[i]≠0:=by simpa using h2
    rw[<-hor,hdrop]at h;unfold orZ at h;rw[List.find?_cons_of_pos θs]at h;exact h
   ·have h2:l[i]=0:=by simpa using h2
    refine⟨⟨θ,θ⟩,⟨i+1,?_,⟨hlt,rfl,?_⟩,Qax,Tv⟩⟩
    ·show l.length-(i+1)<l.length-i;omega
    ·rw[<-hor,hdrop];unfold orZ;rw[List.find?_cons_of_neg (by simp[h2])]
  ·have hge:i=l.length:=by
    have:¬i<l.length:=θj;omega
   subst hge;refine⟨_,st',Tt,Store.Has.refl st',?_⟩;rw[<-hor,Fdy]at h;exact h
def p8(a b:Inp)(st:Store)(R:Ja)(h:R (int (Oa a b)) st):Jb 126 [.agg (zh a),.agg (zh b)] st R:=by refine Qy 17 Tryz.func126 ?_;refine Qc zb yfc ?_;exact⟨fo _ _ _ _ ⟨Qe,⟨fo _ _ _ _ ⟨Tv,⟨ψ,⟨yi0 [Ac a.t b.t,Ac a.p b.p] φ _ _ ⟨Tv,Qbb (ret h)⟩,Tv⟩⟩⟩,Tv⟩⟩,Tv⟩
def zbv(p:Int)(l:List Cmd)(hl:l.length<=1000000000)(hf:∀c∈l,c.fits)(st:Store)(R:Ja)(h:∀b:Bool,(b=true↔Nw p l)->R (V.bool b) st):Jb 129 [int p,lst 10 zz l] st R:=by
 refine Qy 42 Tryz.func129 ?_;have no:¬Nw p l->R (V.bool false) st:=λhn=>h false θg
 refine AWp.loop (σ:=Nat) ⟨λi=>[(0,.av (int p)),(1,.av (lst 10 zz l)),(7,.av (lst 10 zz l)),(8,.av (int (l.length:Nat))),(9,.av (int (i:Nat)))],λ_=>[],
  λi st'=>st'=st/\i<=l.length/\∀j,(hj:j<l.length)->j<i->vq l[j]/\l[j].P=p/\(0<j->(l[j-1]'θ).S<l[j].S),λi=>l.length-i⟩ zb ?_ ?_
 ·refine⟨0,Tv,⟨rfl,Fae _,λj _ hj=>absurd hj (Fa3 j)⟩,⟨Tq,Tq,Tq,?_,Tq,Tv⟩,Tv⟩;rw[<-zi (f:=zz) l];exact Tq
 rintro i st' ⟨rfl,hi,hall⟩;refine bcd (λc1=>?_) (λc1=>?_);rotate_left
 ·have:i=l.length:=θ;subst this;refine ret (h _ ?_);rw[decide_eq_true_eq,zi];exact⟨λhh=>⟨λj hj=>hall j hj hj,θ⟩,λhh=>by have:=hh.2;omega⟩
 have hlt:i<l.length:=θ;refine⟨i,rfl,za _ (zp hlt) (Qc zb yfb ⟨zjm l[i] (hf _ (Faa hlt)) _ _ (λz hz=>⟨Tv,?_⟩),Tv⟩)⟩;have go:(vq l[i]/\l[i].P=p/\(0<i->(l[i-1]'θ).S<l[i].S))->∀j,(hj:j<l.length)->j<i+1->vq l[j]/\l[j].P=p/\(0<j->(l[j-1]'θ).S<l[j].S):=λhh j hj hji=>by
  by_cases e:j=i
  ·subst e;exact hh
  ·exact hall j hj θ
 refine yj (zk (λc2=>?_) (λc2=>?_));rotate_left
 ·exact ret (no λhh=>by have:=hz.2 (hh.1 i hlt).1;rw[this]at c2;cases c2)
 have hcp:=hz.1 c2;refine qi (λc3=>?_) (λc3=>?_)
 ·exact ret (no λhh=>c3 (hh.1 i hlt).2.1)
 refine bcd (λc4=>?_) (λc4=>?_)
 ·refine Qd ?_;have hi1:i-1<l.length:=θ;refine⟨i-1,θ,za _ (zp hi1) (bcd (λc5=>?_) (λc5=>?_))⟩
  ·exact ret (no λhh=>by have:=(hh.1 i hlt).2.2 θ;omega)
  ·exact Qd ⟨i+1,ϑ,⟨rfl,θ,go ⟨hcp,c3,λ_=>θ⟩⟩,Qax,Tv⟩
 ·exact Qd ⟨i+1,ϑ,⟨rfl,θ,go ⟨hcp,c3,λ_=>θ⟩⟩,Qax,Tv⟩
def lj(i:Inp)(hf:i.fits)(st:Store)(R:Ja)(h:∀b:Bool,(b=true↔Bd i)->R (V.bool b) st):Jb 125 [.agg (zh i)] st R:=by refine Qy 28 Tryz.func125 ?_;have no:¬Bd i->R (V.bool false) st:=λhn=>h false θg;exact bcd (λc1=>bcd (λc2=>bcd (λc3=>bcd (λc4=>zbv i.p i.C hf.1 hf.2 _ _ (λz hz=>ret (h z ⟨λhh=>⟨⟨c1,c2⟩,⟨c3,c4⟩,hz.1 hh⟩,λhh=>hz.2 hh.2.2⟩))) (λc4=>ret (no λhh=>c4 hh.2.1.2))) (λc3=>ret (no λhh=>c3 hh.2.1.1))) (λc2=>ret (no λhh=>c2 hh.1.2))) (λc1=>ret (no λhh=>c1 hh.1.1))
end Go.Proofs
