/- Ground of laws of throngtop: contracts and plain lemmas; no condition beyond the row's own. -/
import Derived.Test.YtphhbmaalpdnoaaGreatKP
import Derived.Test.YtphhbmaalpdnoaaGreatKM
set_option linter.unusedSimpArgs false
set_option linter.unusedVariables false
set_option linter.defProp false
namespace Go.Proofs
open Go Go.V
set_option maxRecDepth 20000
set_option maxHeartbeats 4000000
theorem yht(l:List Int)(hl:l.length<=1000000)(st:Store)(R:Ja)(h:R (int (orZ l)) st):Jb 213 [yh l] st R:=by
 refine Qa (c:=cfg 18) zb Tryz.func213 ?_;refine AWp.loop (σ:=Nat) ⟨λi=>[(3,.av (int 0)),(6,.av (yh l)),(7,.av (int l.length)),(8,.av (int i))],λ_=>[],λi st'=>i<=l.length/\st'=st/\orZ (l.drop i)=orZ l,λi=>l.length-i⟩ zb ?_ ?_
 ·refine⟨0,Tv,⟨Fae _,rfl,rfl⟩,⟨Tq,Tq,?_,Tq,Tv⟩,Tv⟩;rw[<-zj (f:=zv) l];exact Tq
 ·rintro i st' ⟨hi,rfl,hor⟩;refine zk (λh1=>?_) (λh1=>?_)
  ·have hlt:i<l.length:=by simpa using h1
   have hdrop:l.drop i=l[i]::l.drop (i+1):=by rw[Fcx hlt]
   refine⟨i,rfl,za _ (zq hlt) ?_⟩;refine zk (λh2=>⟨_,st',Tt,Store.Has.refl st',?_⟩) (λh2=>?_)
   ·have h2:l[i]≠0:=by simpa using h2
    rw[<-hor,hdrop]at h;unfold orZ at h;rw[List.find?_cons_of_pos θn]at h;exact h
   ·have h2:l[i]=0:=by simpa using h2
    refine⟨⟨θ,θ⟩,?_⟩;refine⟨i+1,?_,⟨hlt,rfl,?_⟩,Qaq,Tv⟩
    ·show l.length-(i+1)<l.length-i;omega
    ·rw[<-hor,hdrop];unfold orZ;rw[List.find?_cons_of_neg (by simp[h2])]
  ·have hge:i=l.length:=by
    have:¬i<l.length:=θg;omega
   subst hge;refine⟨_,st',Tt,Store.Has.refl st',?_⟩;rw[<-hor,List.drop_length]at h;exact h
theorem ykh(a b:Inp)(st:Store)(R:Ja)(h:R (int (Vt a b)) st):Jb 343 [.agg (qp a),.agg (qp b)] st R:=by refine Qa (c:=cfg 17) zb Tryz.func343 ?_;refine Qc zb yaz ?_;refine⟨bg _ _ _ _ ⟨Qe,?_⟩,Tv⟩;refine⟨bg _ _ _ _ ⟨Tv,?_⟩,Tv⟩;refine⟨ψ,?_⟩;refine⟨yht [Ah a.t b.t,Ah a.p b.p] φ _ _ ⟨Tv,?_⟩,Tv⟩;refine Qau ?_;exact ret h
theorem zjc(p:Int)(l:List Cmd)(hl:l.length<=1000000000)(hf:∀c∈l,c.fits)(st:Store)(R:Ja)(h:∀b:Bool,(b=true↔fi p l)->R (V.bool b) st):Jb 345 [int p,lst 10 yz l] st R:=by
 refine Qa (c:=cfg 42) zb Tryz.func345 ?_;have no:¬fi p l->R (V.bool false) st:=λhn=>h false (by simp[hn])
 refine AWp.loop (σ:=Nat) ⟨λi=>[(0,.av (int p)),(1,.av (lst 10 yz l)),(7,.av (lst 10 yz l)),(8,.av (int (l.length:Nat))),(9,.av (int (i:Nat)))],λ_=>[],
  λi st'=>st'=st/\i<=l.length/\∀j,(hj:j<l.length)->j<i->Ai l[j]/\l[j].P=p/\(0<j->(l[j-1]'θ).S<l[j].S),λi=>l.length-i⟩ zb ?_ ?_
 ·refine⟨0,Tv,⟨rfl,Fae _,λj _ hj=>absurd hj (Fa3 j)⟩,⟨Tq,Tq,Tq,?_,Tq,Tv⟩,Tv⟩;rw[<-zj (f:=yz) l];exact Tq
 rintro i st' ⟨rfl,hi,hall⟩;refine bcd (λc1=>?_) (λc1=>?_);rotate_left
 ·have:i=l.length:=θ;subst this;refine ret (h _ ?_);rw[decide_eq_true_eq,zj];exact⟨λhh=>⟨λj hj=>hall j hj hj,θ⟩,λhh=>by have:=hh.2;omega⟩
 have hlt:i<l.length:=θ;refine⟨i,rfl,za _ (zq hlt) ?_⟩;refine Qc zb yay ?_;refine⟨zff l[i] (hf _ (Faa hlt)) _ _ (λz hz=>⟨Tv,?_⟩),Tv⟩;have go:(Ai l[i]/\l[i].P=p/\(0<i->(l[i-1]'θ).S<l[i].S))->∀j,(hj:j<l.length)->j<i+1->Ai l[j]/\l[j].P=p/\(0<j->(l[j-1]'θ).S<l[j].S):=λhh j hj hji=>by
  by_cases e:j=i
  ·subst e;exact hh
  ·exact hall j hj θ
 refine yi ?_;refine zk (λc2=>?_) (λc2=>?_);rotate_left
 ·exact ret (no λhh=>by have:=hz.2 (hh.1 i hlt).1;rw[this]at c2;cases c2)
 have hcp:=hz.1 c2;refine qf (λc3=>?_) (λc3=>?_)
 ·exact ret (no λhh=>c3 (hh.1 i hlt).2.1)
 refine bcd (λc4=>?_) (λc4=>?_)
 ·refine Qd ?_;have hi1:i-1<l.length:=θ;refine⟨i-1,θ,za _ (zq hi1) ?_⟩;refine bcd (λc5=>?_) (λc5=>?_)
  ·exact ret (no λhh=>by have:=(hh.1 i hlt).2.2 θ;omega)
  ·refine Qd ?_;exact⟨i+1,(show l.length-(i+1)<l.length-i by omega),⟨rfl,θ,go ⟨hcp,c3,λ_=>θ⟩⟩,Qaq,Tv⟩
 ·refine Qd ?_;exact⟨i+1,(show l.length-(i+1)<l.length-i by omega),⟨rfl,θ,go ⟨hcp,c3,λ_=>θ⟩⟩,Qaq,Tv⟩
theorem sc(i:Inp)(hf:i.fits)(st:Store)(R:Ja)(h:∀b:Bool,(b=true↔Iq i)->R (V.bool b) st):Jb 342 [.agg (qp i)] st R:=by refine Qa (c:=cfg 28) zb Tryz.func342 ?_;have no:¬Iq i->R (V.bool false) st:=λhn=>h false (by simp[hn]);refine bcd (λc1=>?_) (λc1=>ret (no λhh=>c1 hh.1.1));refine bcd (λc2=>?_) (λc2=>ret (no λhh=>c2 hh.1.2));refine bcd (λc3=>?_) (λc3=>ret (no λhh=>c3 hh.2.1.1));refine bcd (λc4=>?_) (λc4=>ret (no λhh=>c4 hh.2.1.2));refine zjc i.p i.C hf.1 hf.2 _ _ (λz hz=>?_);exact ret (h z ⟨λhh=>⟨⟨c1,c2⟩,⟨c3,c4⟩,hz.1 hh⟩,λhh=>hz.2 hh.2.2⟩)
end Go.Proofs
