/- Ground of laws of thronglaw25: contracts and plain lemmas; no condition beyond the row's own. -/
import Derived.Test.YtdfpifbbcigelaaGreatKL
import Derived.Test.YtdfpifbbcigelaaGreatKF
set_option linter.unusedSimpArgs false
set_option linter.unusedVariables false
namespace Go.Proofs
open Go Go.V
set_option maxRecDepth 20000
set_option maxHeartbeats 4000000
def Ht(cs:List (Int×Int))(bs:List Nat)(clk:Nat):AObj:=.map (cs.map (z8 int)) bs clk
def Nd(m:Nat):AV:=.s (.map (some m))
theorem zpw(w:Wld)(hU:w.U.length<=1000000)(hr:yh w.U)(st:Store)(R:Ja)(h:∀z:Bool,(z=true↔∀u∈w.U,u.inn≠0->Bk w u)->R (V.bool z) st):Jb 116 [.agg (zu w)] st R:=by
 refine Qa (c:=cfg 85) zb Tryz.func116 ?_
 refine Dy rfl (λm hm=>?_)
 have hhas:∀x,(st.sO m x).Has st:=λx=>Cn hm.1
 have nof:∀x,¬(∀u∈w.U,u.inn≠0->Bk w u)->∃r st',AV.le (V.bool false) r/\(st.sO m x).Has st'/\R r st':=λx hn=>k6 (Tt) (hhas x) (h false (by simp only[Fag,false_iff];exact hn))
 refine AWp.loop (σ:=Nat×List (Int×Int)×List Nat×Nat) ⟨λx=>[(1,.bx 1 0),(3,.av (Nd m)),(11,.av (lst 10 zj w.U)),(12,.av (int (w.U.length:Nat))),(13,.av (int (x.1:Nat)))],λ_=>[(1,zu w)],
  λx st'=>x.1<=w.U.length/\st'=st.sO m (Ht x.2.1 x.2.2.1 x.2.2.2)/\(∀id,id≠0->(yc x.2.1 id).getD 0=((z7 (w.U.take x.1) id).length:Int))/\Pf w x.1,λx=>w.U.length-x.1⟩ zb ?_ ?_
 ·refine⟨(0,[],[],0),Tv,⟨Faq _,rfl,λid _=>rfl,λj _ hj=>by omega,λx _ _=>(Rn _).1⟩,⟨Tq,Tq,Tq,?_,Tq,Tv⟩,⟨rfl,Tv⟩⟩
  rw[<-zr (f:=zj) w.U];exact Tq
 rintro⟨i,cs,bs,clk⟩ st' ⟨hi,rfl,hcnt,hup⟩
 dsimp only at hi hcnt hup⊢
 refine bcd (λh1=>?_) (λh1=>?_)
 rotate_left
 ·have:i=w.U.length:=by omega
  subst this
  exact k6 (Tt) (hhas _) (h true (by simp only[true_iff];exact zpx hup))
 have hlt:i<w.U.length:=by omega
 have hui:=Fab hlt
 refine⟨i,rfl,za _ (yd hlt) ?_⟩
 refine qs (λc1=>?_) (λc1=>?_)
 ·refine Qd ?_
  refine⟨(i+1,cs,bs,clk),?_,⟨by dsimp only;omega,rfl,λid hid=>?_,λj hj hji hne=>?_,λx hx hx0=>?_⟩,Qaf,⟨rfl,Tv⟩⟩
  ·show w.U.length-(i+1)<w.U.length-i
   omega
  ·dsimp only
   rw[hcnt id hid,I7 hlt,if_neg (by rw[c1];omega)];omega
  ·by_cases e:j=i
   ·subst e;exact absurd c1 hne
   ·exact hup.1 j hj (by dsimp only at hji;omega) hne
  ·dsimp only
   rw[I7 hlt,if_neg (by rw[c1];omega)]
   have:=hup.2 x hx hx0
   omega
 refine Sz w.U (by omega) hr w.U[i].inn _ _ (λk hk z hz=>?_)
 have nou:∀x,¬Bk w w.U[i]->∃r st',AV.le (V.bool false) r/\(st.sO m x).Has st'/\R r st':=λx hn=>nof x λhh=>hn (hh _ hui c1)
 have found:Bk w w.U[i]->z=true:=λ⟨x,hx,e,_⟩=>by
  obtain⟨j,hj,rfl⟩:=Fan hx
  refine hz.2 ?_
  have h5:j>=k:=Decidable.byContradiction λhn2=>by
   have:=hk.2.1 j hj (by omega)
   omega
  have h7:k<w.U.length:=by omega
  refine⟨h7,?_⟩
  have h8:=hk.2.2 k h7 (Fak _)
  by_cases e2:k=j
  ·subst e2;exact e
  ·have:=Bj hr (show k<j by omega) hj
   omega
 refine qd ?_
 refine zk (λc2=>?_) (λc2=>nou _ λhh=>by rw[found hh]at c2;cases c2)
 obtain⟨hkl,hkid⟩:=hz.1 c2
 have uniq:Bk w w.U[i]->(w.U[k].inn=0/\w.U[k].owner=w.U[i].owner)/\((z7 w.U w.U[i].inn).length:Int)<=xn w.U[k].kind:=λ⟨x,hx,e,e2,e3,_⟩=>by
  have:=Fe hr hx (Fab hkl) (by rw[e,hkid])
  subst this
  exact⟨e2,e3⟩
 refine xt w.U[i].kind _ _ ?_
 refine bcd (λc3=>nou _ λ⟨x,_,_,_,_,e,_⟩=>by omega) (λc3=>?_)
 have hroom:xn w.U[i].kind=0:=by have:=Rn w.U[i].kind;omega
 refine qd ?_
 refine zk (λc4=>?_) (λc4=>nou _ λ⟨x,_,_,_,_,_,e,_⟩=>by rw[e]at c4;cases c4)
 have hpos:w.U[i].pos=(0,0):=by
  have:(w.U[i].pos.1==0&&(w.U[i].pos.2==0&&true))=true:=c4
  simp at this
  exact Prod.ext this.1 this.2
 refine Dw (λc5=>nou _ λ⟨x,_,_,_,_,_,_,e,_⟩=>c5 e) (λc5=>?_)
 refine Dw (λc6=>nou _ λ⟨x,_,_,_,_,_,_,_,e⟩=>c6 e) (λc6=>?_)
 refine⟨k,rfl,za _ (yd hkl) ?_⟩
 have hmo:(st.sO m (Ht cs bs clk)).obj m=some (Ht cs bs clk):=zc _ _ _
 refine kc rfl (it:=ti295) (ie:=ti2) (ik:=ti2) rfl rfl rfl rfl hmo rfl (qA w.U[k].id) (λe he=>?_) ?_
 ·obtain⟨e,_,rfl⟩:=Fad.1 he
  rfl
 rw[Dg]
 have hz0:w.U[k].id≠0:=by rw[hkid];exact c1
 have hcv:(Option.map int (yc cs w.U[k].id)).getD (wn ti2)=int ((z7 (w.U.take i) w.U[k].id).length:Int):=by
  rw[<-hcnt _ hz0]
  cases yc cs w.U[k].id<;>rfl
 rw[hcv]
 have hcl:(z7 (w.U.take i) w.U[k].id).length<=1000000:=by
  have h1:=fk (l:=w.U) i w.U[k].id
  have h2:(z7 w.U w.U[k].id).length<=w.U.length:=by unfold z7;rw[Fa5];exact Fdt _ _
  omega
 refine Qd ?_
 refine Be (.inl rfl) rfl (it:=ti295) (ik:=ti2) rfl rfl rfl (es:=cs.map (z8 int)) (bs:=bs) (clk:=clk) (k:=int w.U[k].id) (v:=int (((z7 (w.U.take i) w.U[k].id).length:Int)+1)) hmo rfl rfl (qA w.U[k].id) (λe he=>?_) (λe1 he hq=>?_) ?_
 ·obtain⟨e,_,rfl⟩:=Fad.1 he
  rfl
 ·obtain⟨g1,_,rfl⟩:=Fad.1 he
  have:w.U[k].id=g1.1:=by simpa [qA,z8,int]using hq
  show int g1.1=_
  rw[this]
 obtain⟨bs',clk',hput⟩:=Hd int cs bs clk w.U[k].id (((z7 (w.U.take i) w.U[k].id).length:Int)+1)
 have hput:jc (cs.map (z8 int)) bs clk (qA w.U[k].id) (int w.U[k].id) (int (((z7 (w.U.take i) w.U[k].id).length:Int)+1))=Ht (z6 cs w.U[k].id (((z7 (w.U.take i) w.U[k].id).length:Int)+1)) bs' clk':=hput
 rw[hput,yk]
 have hmo2:(st.sO m (Ht (z6 cs w.U[k].id (((z7 (w.U.take i) w.U[k].id).length:Int)+1)) bs' clk')).obj m=some (Ht (z6 cs w.U[k].id (((z7 (w.U.take i) w.U[k].id).length:Int)+1)) bs' clk'):=zc _ _ _
 have hlook:Br false (wn ti2) (((z6 cs w.U[k].id (((z7 (w.U.take i) w.U[k].id).length:Int)+1)).map (z8 int)).find? (qA w.U[k].id))=int (((z7 (w.U.take i) w.U[k].id).length:Int)+1):=by
  rw[Dg,Af,if_pos rfl];rfl
 have hsucc:=I7 hlt w.U[k].id
 rw[if_pos hkid.symm]at hsucc
 have hcnt2:∀id,id≠0->(yc (z6 cs w.U[k].id (((z7 (w.U.take i) w.U[k].id).length:Int)+1)) id).getD 0=((z7 (w.U.take (i+1)) id).length:Int):=λid hid=>by
  rw[Af]
  by_cases e:id=w.U[k].id
  ·rw[if_pos e,e,hsucc];rfl
  ·rw[if_neg e,hcnt id hid,I7 hlt,if_neg (by rw[<-hkid];exact Ne.symm e)];omega
 generalize z6 cs w.U[k].id (((z7 (w.U.take i) w.U[k].id).length:Int)+1)=cs2 at*
 have over:xn w.U[k].kind<((z7 (w.U.take i) w.U[k].id).length:Int)+1->¬Bk w w.U[i]:=λhh hp=>by
  have h2:=(uniq hp).2
  have h3:=fk (l:=w.U) (i+1) w.U[k].id
  rw[<-hkid]at h2
  omega
 have good:w.U[k].inn=0->w.U[k].owner=w.U[i].owner->((z7 (w.U.take i) w.U[k].id).length:Int)+1<=xn w.U[k].kind->Pf w (i+1):=λe1 e2 e3=>by
  refine⟨λj hj hji hne=>?_,λx hx hx0=>?_⟩
  ·by_cases e:j=i
   ·subst e
    exact⟨w.U[k],Fab hkl,hkid,⟨e1,e2⟩,hroom,hpos,c5,c6⟩
   ·exact hup.1 j hj (by omega) hne
  ·by_cases e:x.id=w.U[k].id
   ·have:=Fe hr hx (Fab hkl) e
    subst this
    omega
   ·rw[I7 hlt,if_neg (by rw[<-hkid];exact Ne.symm e)]
    have:=hup.2 x hx hx0
    omega
 refine Qc zb zo1 ?_
 refine Dw (λc7=>?_) (λc7=>?_)
 ·refine⟨⟨Qe,⟨⟨Qe,nou _ (λhh=>c7 (uniq hh).1.1)⟩,Tv⟩⟩,⟨⟨Qe,⟨⟨Qe,nou _ (λhh=>c7 (uniq hh).1.1)⟩,Tv⟩⟩,Tv⟩⟩
 refine Dw (λc8=>?_) (λc8=>?_)
 ·refine⟨⟨Qe,⟨⟨Qe,nou _ (λhh=>c8 (uniq hh).1.2)⟩,Tv⟩⟩,⟨⟨Qe,⟨⟨Qe,nou _ (λhh=>c8 (uniq hh).1.2)⟩,Tv⟩⟩,Tv⟩⟩
 refine⟨?_,?_,Tv⟩
 ·refine kc rfl (it:=ti295) (ie:=ti2) (ik:=ti2) rfl rfl rfl rfl hmo2 rfl (qA w.U[k].id) (λe he=>by obtain⟨e,_,rfl⟩:=Fad.1 he;rfl) ?_
  rw[hlook]
  refine⟨Qe,?_⟩
  refine⟨xt w.U[k].kind _ _ ⟨Qe,?_⟩,Tv⟩
  refine bcd (λc9=>nou _ (over (by omega))) (λc9=>?_)
  refine Qd ?_
  refine⟨(i+1,cs2,bs',clk'),?_,⟨by dsimp only;omega,rfl,hcnt2,good c7 c8 (by omega)⟩,Qaf,⟨rfl,Tv⟩⟩
  show w.U.length-(i+1)<w.U.length-i
  omega
 ·refine xt w.U[k].kind _ _ ⟨Qe,?_⟩
  refine⟨?_,Tv⟩
  refine kc rfl (it:=ti295) (ie:=ti2) (ik:=ti2) rfl rfl rfl rfl hmo2 rfl (qA w.U[k].id) (λe he=>by obtain⟨e,_,rfl⟩:=Fad.1 he;rfl) ?_
  rw[hlook]
  refine⟨Qe,?_⟩
  refine bcd (λc9=>nou _ (over (by omega))) (λc9=>?_)
  refine Qd ?_
  refine⟨(i+1,cs2,bs',clk'),?_,⟨by dsimp only;omega,rfl,hcnt2,good c7 c8 (by omega)⟩,Qaf,⟨rfl,Tv⟩⟩
  show w.U.length-(i+1)<w.U.length-i
  omega
def tkO(cs:List (Int×Bool))(bs:List Nat)(clk:Nat):AObj:=.map (cs.map (z8 V.bool)) bs clk
theorem zsc(w:Wld)(hw:w.fits)(hn:∀u∈w.U,u.pos.ok):Jb 64 [.agg (zu w)] Store.empty λr _=>∃z,r=V.bool z/\(z=true↔zw w):=by
 have no:¬zw w->∃z,V.bool false=V.bool z/\(z=true↔zw w):=λhn=>⟨false,rfl,by simp only[Fag,false_iff];exact hn⟩
 refine Qb (c:=cfg 87) zb Tryz.func64 ?_
 refine AWp.seq (AWp.of_vc zb ?_)
 refine AWp.seq (AWp.of_vc zb ?_)
 refine zuw w hw _ _ (λz hz=>?_)
 refine qd ?_
 refine zk (λc1=>?_) (λc1=>ret (no λq=>by have:=hz.2 q.1.1;rw[this]at c1;cases c1))
 have hh:=hz.1 c1
 have hg:=hh.2.1.1
 have hbl:=hh.2.1.2.1
 have hBl:w.B.length<=256:=hbl.1
 have hU:w.U.length<=4096:=hh.2.1.2.2
 have hbb:∀b∈w.B,yv b/\onP w.G b:=λb hb=>⟨(hbl.2.2.1 b hb).1,(hbl.2.2.1 b hb).2.1⟩
 refine AWp.seq (AWp.of_vc zb ?_)
 refine Dy rfl (λm hm=>?_)
 refine AWp.meetA (σ:=List (Int×Bool)×List Nat×Nat) ⟨λ_=>[(1,.bx 1 0),(3,.av (Nd m))],λ_=>[(1,zu w)],λx st'=>st'=Store.empty.sO m (tkO x.1 x.2.1 x.2.2)/\∀id,(yc x.1 id).getD false=true↔∃b∈w.B,b.id=id⟩ ?_ ?_
 ·refine AWp.of_vc zb ?_
  refine AWp.loop (σ:=Nat×List (Int×Bool)×List Nat×Nat) ⟨λx=>[(1,.bx 1 0),(3,.av (Nd m)),(16,.av (lst 6 zn w.B)),(17,.av (int (w.B.length:Nat))),(18,.av (int (x.1:Nat)))],λ_=>[(1,zu w)],
   λx st'=>x.1<=w.B.length/\st'=Store.empty.sO m (tkO x.2.1 x.2.2.1 x.2.2.2)/\∀id,(yc x.2.1 id).getD false=true↔∃b∈w.B.take x.1,b.id=id,λx=>w.B.length-x.1⟩ zb ?_ ?_
  ·refine⟨(0,[],[],0),Tv,⟨Faq _,rfl,λid=>⟨λh=>(by cases h),λ⟨b,hb,_⟩=>(by simp at hb)⟩⟩,⟨Tq,Tq,Tq,?_,Tq,Tv⟩,⟨rfl,Tv⟩⟩
   rw[<-zr (f:=zn) w.B];exact Tq
  rintro⟨i,cs,bs,clk⟩ st' ⟨hi,rfl,htk⟩
  dsimp only at hi htk⊢
  refine bcd (λh1=>?_) (λh1=>?_)
  rotate_left
  ·have:i=w.B.length:=by omega
   subst this
   rw[Fax]at htk
   exact⟨(cs,bs,clk),⟨rfl,htk⟩,⟨Tq,Tq,Tv⟩,⟨rfl,Tv⟩⟩
  have hlt:i<w.B.length:=by omega
  refine⟨i,rfl,za _ (yd hlt) ?_⟩
  have hmo:(Store.empty.sO m (tkO cs bs clk)).obj m=some (tkO cs bs clk):=zc _ _ _
  refine Be (.inl rfl) rfl (it:=ti196) (ik:=ti2) rfl rfl rfl (es:=cs.map (z8 V.bool)) (bs:=bs) (clk:=clk) (k:=int w.B[i].id) (v:=V.bool true) hmo rfl rfl (qA w.B[i].id) (λe he=>?_) (λe1 he hq=>?_) ?_
  ·obtain⟨e,_,rfl⟩:=Fad.1 he
   rfl
  ·obtain⟨g1,_,rfl⟩:=Fad.1 he
   have:w.B[i].id=g1.1:=by simpa [qA,z8,int]using hq
   show int g1.1=_
   rw[this]
  obtain⟨bs',clk',hput⟩:=Hd V.bool cs bs clk w.B[i].id true
  have hput:jc (cs.map (z8 V.bool)) bs clk (qA w.B[i].id) (int w.B[i].id) (V.bool true)=tkO (z6 cs w.B[i].id true) bs' clk':=hput
  rw[hput,yk]
  refine Qd ?_
  refine⟨(i+1,z6 cs w.B[i].id true,bs',clk'),?_,⟨by dsimp only;omega,rfl,λid=>?_⟩,Qaf,⟨rfl,Tv⟩⟩
  ·show w.B.length-(i+1)<w.B.length-i
   omega
  ·dsimp only
   rw[Af,Fac hlt]
   by_cases e:id=w.B[i].id
   ·rw[if_pos e]
    exact⟨λ_=>⟨w.B[i],Fai.2 (.inr (Fb3.2 rfl)),e.symm⟩,λ_=>rfl⟩
   ·rw[if_neg e,htk id]
    constructor
    ·rintro⟨b,hb,h3⟩;exact⟨b,Fai.2 (.inl hb),h3⟩
    ·rintro⟨b,hb,h3⟩
     rcases Fai.1 hb with hb|hb
     ·exact⟨b,hb,h3⟩
     ·simp at hb;subst hb;exact absurd h3.symm e
 rintro⟨cs,bs,clk⟩ st' ⟨rfl,htk⟩
 dsimp only at htk⊢
 have hmo:(Store.empty.sO m (tkO cs bs clk)).obj m=some (tkO cs bs clk):=zc _ _ _
 have hhas:(Store.empty.sO m (tkO cs bs clk)).Has Store.empty:=Cn rfl
 refine AWp.meetA (σ:=Unit) ⟨λ_=>[(1,.bx 1 0)],λ_=>[(1,zu w)],λ_ st'=>st'=Store.empty.sO m (tkO cs bs clk)/\D3 w w.U.length⟩ ?_ ?_
 ·refine AWp.of_vc zb ?_
  refine AWp.loop (σ:=Nat) ⟨λi=>[(1,.bx 1 0),(3,.av (Nd m)),(27,.av (lst 10 zj w.U)),(28,.av (int (w.U.length:Nat))),(29,.av (int (i:Nat)))],λ_=>[(1,zu w)],
   λi st'=>i<=w.U.length/\st'=Store.empty.sO m (tkO cs bs clk)/\D3 w i,λi=>w.U.length-i⟩ zb ?_ ?_
  ·refine⟨0,Tv,⟨Faq _,rfl,λj _ hj=>by omega⟩,⟨Tq,Tq,Tq,?_,Tq,Tv⟩,⟨rfl,Tv⟩⟩
   rw[<-zr (f:=zj) w.U];exact Tq
  rintro i st' ⟨hi,rfl,hup⟩
  refine bcd (λh1=>?_) (λh1=>?_)
  rotate_left
  ·have:i=w.U.length:=by omega
   subst this
   exact⟨(),⟨rfl,hup⟩,⟨Tq,Tv⟩,⟨rfl,Tv⟩⟩
  have hlt:i<w.U.length:=by omega
  have nou:¬((xh w w.U[i]/\∀b∈w.B,b.id≠w.U[i].id)/\(0<i->(w.U[i-1]'(by omega)).id<w.U[i].id))->∃z,V.bool false=V.bool z/\(z=true↔zw w):=λhq=>no λq=>hq (pi q.1.2 (i+1) i hlt (by omega))
  refine⟨i,rfl,za _ (yd hlt) ?_⟩
  refine Qc zb znc ?_
  refine⟨zzg w w.U[i] hg _ _ (λz hz=>⟨Tv,?_⟩),Tv⟩
  refine qd ?_
  refine zk (λc2=>?_) (λc2=>⟨⟨Tv,ret (nou λq=>by have:=hz.2 q.1.1;rw[this]at c2;cases c2)⟩,Tv⟩)
  have hunt:=hz.1 c2
  refine⟨kc rfl (it:=ti196) (ie:=ti4) (ik:=ti2) rfl rfl rfl rfl hmo rfl (qA w.U[i].id) (λe he=>by obtain⟨e,_,rfl⟩:=Fad.1 he;rfl) ?_,Tv⟩
  rw[Dg]
  have hcv:(Option.map V.bool (yc cs w.U[i].id)).getD (wn ti4)=V.bool ((yc cs w.U[i].id).getD false):=by
   cases yc cs w.U[i].id<;>rfl
  rw[hcv]
  have htki:=htk w.U[i].id
  generalize(yc cs w.U[i].id).getD false=tk at htki
  refine⟨Tv,?_⟩
  refine zk (λc3=>ret (nou λq=>by obtain⟨b,hb,e⟩:=htki.1 c3;exact q.1.2 b hb e)) (λc3=>?_)
  have hnb:∀b∈w.B,b.id≠w.U[i].id:=λb hb e=>by have:=htki.2 ⟨b,hb,e⟩;rw[this]at c3;cases c3
  have next:(0<i->(w.U[i-1]'(by omega)).id<w.U[i].id)->D3 w (i+1):=λhq j hj hji=>by
   by_cases e:j=i
   ·subst e;exact⟨⟨hunt,hnb⟩,hq⟩
   ·exact hup j hj (by omega)
  have fin:D3 w (i+1)->ya ((i:Int)+1)/\(i+1<=w.U.length/\Store.empty.sO m (tkO cs bs clk)=Store.empty.sO m (tkO cs bs clk)/\D3 w (i+1)):=λhq=>⟨⟨by omega,by omega⟩,by omega,rfl,hq⟩
  refine bcd (λc4=>?_) (λc4=>?_)
  ·have hi0:0<i:=by omega
   refine Qd ?_
   refine⟨i-1,by omega,za _ (yd (show i-1<w.U.length by omega)) ?_⟩
   refine bcd (λc5=>ret (nou λq=>by have:=q.2 hi0;omega)) (λc5=>?_)
   obtain⟨f1,f2⟩:=fin (next λ_=>by omega)
   refine⟨f1,?_⟩
   refine⟨i+1,?_,f2,Qaf,⟨rfl,Tv⟩⟩
   show w.U.length-(i+1)<w.U.length-i
   omega
  ·obtain⟨f1,f2⟩:=fin (next λh0=>absurd h0 (by omega))
   refine⟨f1,?_⟩
   refine⟨i+1,?_,f2,Qaf,⟨rfl,Tv⟩⟩
   show w.U.length-(i+1)<w.U.length-i
   omega
 rintro _ _ ⟨rfl,hall⟩
 have hok:=pj hall
 refine AWp.leS hhas.toLe ?_
 refine AWp.seq (AWp.of_vc zb ?_)
 refine zq1 w (by omega) hn _ (λF s p L o0 o1 o2 hS hLl hL=>?_)
 have hLm:=hL hok.1
 refine AWp.meetA (σ:=Unit) ⟨λ_=>[(1,.bx 1 0)],λ_=>[(1,zu w)],λ_ st'=>∀u∈w.U,u.inn=0->qv w u.id u.kind u.pos⟩ ?_ ?_
 ·refine AWp.of_vc zb ?_
  refine AWp.loop (σ:=Nat×Store×AV×AV×AV) ⟨λx=>[(1,.bx 1 0),(8,.av (ptr s)),(64,.av (lst 10 zj w.U)),(65,.av (int (w.U.length:Nat))),(66,.av (int (x.1:Nat)))],λ_=>[(1,zu w)],
   λx st'=>x.1<=w.U.length/\st'=x.2.1.un (stS s w x.2.2.1 x.2.2.2.1 x.2.2.2.2 p)/\StandAt x.2.1 s p w L x.2.2.1 x.2.2.2.1 x.2.2.2.2/\∀j,(hj:j<w.U.length)->j<x.1->w.U[j].inn=0->qv w w.U[j].id w.U[j].kind w.U[j].pos,λx=>w.U.length-x.1⟩ zb ?_ ?_
  ·refine⟨(0,F,o0,o1,o2),Tv,⟨Faq _,rfl,hS,λj _ hj=>by omega⟩,⟨Tq,Tq,Tq,?_,Tq,Tv⟩,⟨rfl,Tv⟩⟩
   rw[<-zr (f:=zj) w.U];exact Tq
  rintro⟨i,F1,a0,a1,a2⟩ st' ⟨hi,rfl,hS1,hcl⟩
  dsimp only at hi hS1 hcl⊢
  refine bcd (λh1=>?_) (λh1=>?_)
  rotate_left
  ·have:i=w.U.length:=by omega
   subst this
   refine⟨(),λu hu h0=>?_,⟨Tq,Tv⟩,⟨rfl,Tv⟩⟩
   obtain⟨j,hj,rfl⟩:=Fan hu
   exact hcl j hj hj h0
  have hlt:i<w.U.length:=by omega
  have hui:=Fab hlt
  have next:(w.U[i].inn=0->qv w w.U[i].id w.U[i].kind w.U[i].pos)->∀j,(hj:j<w.U.length)->j<i+1->w.U[j].inn=0->qv w w.U[j].id w.U[j].kind w.U[j].pos:=λhq j hj hji=>by
   by_cases e:j=i
   ·subst e;exact hq
   ·exact hcl j hj (by omega)
  refine⟨i,rfl,za _ (yd hlt) ?_⟩
  refine qs (λc2=>?_) (λc2=>?_)
  ·refine zml hS1 hg (by omega) hbb hok.1 (by omega) hn hLl hLm w.U[i].id w.U[i].kind w.U[i].pos (hn _ hui) _ (λz F2 b0 b1 b2 hz hS2=>?_)
   refine qd ?_
   refine zk (λc3=>?_) (λc3=>ret (no λq=>by have:=hz.2 (q.2.1 _ hui c2);rw[this]at c3;cases c3))
   refine Qd ?_
   refine⟨(i+1,F2,b0,b1,b2),?_,⟨by dsimp only;omega,rfl,hS2,next λ_=>hz.1 c3⟩,Qaf,⟨rfl,Tv⟩⟩
   show w.U.length-(i+1)<w.U.length-i
   omega
  ·refine Qd ?_
   refine⟨(i+1,F1,a0,a1,a2),?_,⟨by dsimp only;omega,rfl,hS1,next λh0=>absurd h0 c2⟩,Qaf,⟨rfl,Tv⟩⟩
   show w.U.length-(i+1)<w.U.length-i
   omega
 rintro _ st' hclear
 refine AWp.of_vc zb ?_
 refine zpw w (by omega) hok.1 _ _ (λz hz=>?_)
 refine ret ⟨z,rfl,?_⟩
 rw[hz]
 exact⟨λhq=>⟨⟨hh,hok⟩,hclear,hq⟩,λhq=>hq.2.2⟩
theorem Fp{f:FuncId}{xs:List AV}{Q:AV->Prop}(key:Jb f xs Store.empty λr _=>Q r)(st:Store)(R:Ja)(h:∀r,Q r->R r st):Jb f xs st R:=by
 rw[<-vf st]
 refine ACalls.post (ACalls.frame (R':=λr st'=>Q r/\∃a',st'=a'.un st) (λb hb=>?_) key λr a' h1 _=>⟨h1,a',rfl⟩) (Store.Le.refl _) λr st' ⟨h1,a',h2⟩=>⟨r,st,Tt,h2▸pt,?_⟩
 ·exact(hb.elim (λh=>h rfl) (λh=>h rfl):False).elim
 ·exact h r h1
theorem zr8(w:Wld)(hw:w.fits)(hn:∀u∈w.U,u.pos.ok)(st:Store)(R:Ja)(h:∀z:Bool,(z=true↔zw w)->R (V.bool z) st):Jb 64 [.agg (zu w)] st R:=
 Fp (zsc w hw hn) st R λr ⟨z,e,hz⟩=>e▸h z hz
end Go.Proofs
namespace Go.Proofs
open Go Go.V
set_option maxRecDepth 20000
set_option maxHeartbeats 4000000
end Go.Proofs
namespace Go.Proofs
open Go Go.V
set_option maxRecDepth 20000
set_option maxHeartbeats 4000000
theorem zw7(l:List UInt8)(hl:l.length<=1000000000000)(st:Store)(R:Ja)(h:R (lst 1 u8C l) st):Jb 87 [lst 1 u8C l] st R:=by
 refine Qa (c:=cfg 19) zb Tryz.func87 ?_
 refine AWp.loop (σ:=Nat×AV) ⟨λs=>[(0,.av (lst 1 u8C l)),(3,.av s.2),(4,.av (int s.1))],λ_=>[],λs st'=>s.1<=l.length/\App 1 st s.2 (rws u8C (l.take s.1)) st',λs=>l.length-s.1⟩ zb ?_ ?_
 ·exact⟨(0,_),Tv,⟨Faq _,App.start 1 st⟩,⟨Tq,Tq,Tq,Tv⟩,Tv⟩
 ·rintro⟨i,v⟩ st' ⟨hi,ha⟩
  simp only at hi
  refine zk (λh1=>?_) (λh1=>?_)
  ·have hlt:i<l.length:=Av h1
   refine⟨i,rfl,za _ (yd hlt) ?_⟩
   refine⟨by decide,?_⟩
   refine No (ie:=ti5) (rows':=[u8C l[i]]) ha ?_ ?_ ⟨?_,?_⟩ (λv2 st2 ha2=>?_)
   ·rfl
   ·rfl
   ·simp[zr,ti5];omega
   ·simp[zr];omega
   ·refine⟨⟨by omega,by omega⟩,?_⟩
    refine⟨(i+1,v2),?_,⟨hlt,?_⟩,Qaf,Tv⟩
    ·show l.length-(i+1)<l.length-i
     omega
    ·rw[<-zo5 hlt];exact ha2
  ·have hge:i=l.length:=Bu h1 hi
   subst hge
   refine⟨_,st,AV.le_trans ha.le ?_,ha.has,h⟩
   rw[Fax]
   exact Tt
theorem zw6(g:Gnd)(hg:g.fits)(st:Store)(R:Ja)(h:R (.agg (zo g)) st):Jb 38 [.agg (zo g)] st R:=by
 refine Qa (c:=cfg 10) zb Tryz.func38 ?_
 refine zw7 g.T hg _ _ ?_
 exact ret h
theorem zv0(a b:List UInt8)(ha:a.length<=1000000000000)(st:Store)(R:Ja)(h:R (bool (decide (a=b))) st):Jb 135 [lst 1 u8C a,lst 1 u8C b] st R:=by
 refine Qa (c:=cfg 26) zb Tryz.func135 ?_
 refine zk (λh1=>?_) (λh1=>?_)
 ·have:a≠b:=λh2=>P3 h1 (by rw[h2])
  rw[show decide (a=b)=false by simp[this]]at h
  exact⟨_,st,Tt,Store.Has.refl st,h⟩
 ·have hl:a.length=b.length:=Km h1
  refine AWp.loop (σ:=Nat) ⟨λi=>[(0,.av (lst 1 u8C a)),(1,.av (lst 1 u8C b)),(5,.av (int i))],λ_=>[],λi st'=>i<=a.length/\a.take i=b.take i/\st'=st,λi=>a.length-i⟩ zb ?_ ?_
  ·exact⟨0,Tv,⟨Faq _,rfl,rfl⟩,Qaf,Tv⟩
  ·rintro i st' ⟨hi,heq,hst⟩
   refine zk (λh2=>?_) (λh2=>?_)
   ·have hlt:i<a.length:=Av h2
    have hltb:i<b.length:=by omega
    refine Qc zb zon ?_
    refine⟨i,rfl,za _ (yd hlt) ?_⟩
    refine⟨i,rfl,za _ (yd hltb) ?_⟩
    refine zk (λh3=>?_) (λh3=>?_)
    ·have hne:a[i]≠b[i]:=by
      intro h4
      rw[h4]at h3
      simp at h3
     have:a≠b:=by
      intro h4
      subst h4
      exact hne rfl
     rw[show decide (a=b)=false by simp[this]]at h
     subst hst
     exact⟨_,st',Tt,Store.Has.refl st',h⟩
    ·refine⟨⟨by omega,by omega⟩,?_⟩
     refine⟨i+1,?_,⟨hlt,?_,hst⟩,Qaf,Tv⟩
     ·show a.length-(i+1)<a.length-i
      omega
     ·rw[Fac hlt,Fac hltb,heq]
      have:a[i]=b[i]:=UInt8.toNat_inj.1 (by have:=h3;simp at this;omega)
      rw[this]
   ·have hge:i=a.length:=Bu h2 hi
    subst hge hst
    have:a=b:=by
     rw[Fax,hl,Fax]at heq
     exact heq
    rw[show decide (a=b)=true by simp[this]]at h
    exact⟨_,st',Tt,Store.Has.refl st',h⟩
theorem zv1(a b:List Bld)(ha:a.length<=1000000000000)(st:Store)(R:Ja)(h:R (bool (decide (a=b))) st):Jb 79 [lst 6 zn a,lst 6 zn b] st R:=by
 refine Qa (c:=cfg 26) zb Tryz.func79 ?_
 refine zk (λh1=>?_) (λh1=>?_)
 ·have:a≠b:=λh2=>P3 h1 (by rw[h2])
  rw[show decide (a=b)=false by simp[this]]at h
  exact⟨_,st,Tt,Store.Has.refl st,h⟩
 ·have hl:a.length=b.length:=Km h1
  refine AWp.loop (σ:=Nat) ⟨λi=>[(0,.av (lst 6 zn a)),(1,.av (lst 6 zn b)),(5,.av (int i))],λ_=>[],λi st'=>i<=a.length/\a.take i=b.take i/\st'=st,λi=>a.length-i⟩ zb ?_ ?_
  ·exact⟨0,Tv,⟨Faq _,rfl,rfl⟩,Qaf,Tv⟩
  ·rintro i st' ⟨hi,heq,hst⟩
   refine zk (λh2=>?_) (λh2=>?_)
   ·have hlt:i<a.length:=Av h2
    have hltb:i<b.length:=by omega
    refine Qc zb zm8 ?_
    refine⟨i,rfl,za _ (yd hlt) ?_⟩
    refine⟨i,rfl,za _ (yd hltb) ?_⟩
    refine zk (λh3=>?_) (λh3=>?_)
    ·have hne:a[i]≠b[i]:=by
      intro h4
      rw[h4]at h3
      simp at h3
     have:a≠b:=by
      intro h4
      subst h4
      exact hne rfl
     rw[show decide (a=b)=false by simp[this]]at h
     subst hst
     exact⟨_,st',Tt,Store.Has.refl st',h⟩
    ·refine⟨⟨by omega,by omega⟩,?_⟩
     refine⟨i+1,?_,⟨hlt,?_,hst⟩,Qaf,Tv⟩
     ·show a.length-(i+1)<a.length-i
      omega
     ·rw[Fac hlt,Fac hltb,heq]
      have:a[i]=b[i]:=by cases hx:a[i];cases hy:b[i];rw[hx,hy]at h3;simp at h3;simp[h3]
      rw[this]
   ·have hge:i=a.length:=Bu h2 hi
    subst hge hst
    have:a=b:=by
     rw[Fax,hl,Fax]at heq
     exact heq
    rw[show decide (a=b)=true by simp[this]]at h
    exact⟨_,st',Tt,Store.Has.refl st',h⟩
theorem zvv(a b:List Unt)(ha:a.length<=1000000000000)(st:Store)(R:Ja)(h:R (bool (decide (a=b))) st):Jb 80 [lst 10 zj a,lst 10 zj b] st R:=by
 refine Qa (c:=cfg 26) zb Tryz.func80 ?_
 refine zk (λh1=>?_) (λh1=>?_)
 ·have:a≠b:=λh2=>P3 h1 (by rw[h2])
  rw[show decide (a=b)=false by simp[this]]at h
  exact⟨_,st,Tt,Store.Has.refl st,h⟩
 ·have hl:a.length=b.length:=Km h1
  refine AWp.loop (σ:=Nat) ⟨λi=>[(0,.av (lst 10 zj a)),(1,.av (lst 10 zj b)),(5,.av (int i))],λ_=>[],λi st'=>i<=a.length/\a.take i=b.take i/\st'=st,λi=>a.length-i⟩ zb ?_ ?_
  ·exact⟨0,Tv,⟨Faq _,rfl,rfl⟩,Qaf,Tv⟩
  ·rintro i st' ⟨hi,heq,hst⟩
   refine zk (λh2=>?_) (λh2=>?_)
   ·have hlt:i<a.length:=Av h2
    have hltb:i<b.length:=by omega
    refine Qc zb zm7 ?_
    refine⟨i,rfl,za _ (yd hlt) ?_⟩
    refine⟨i,rfl,za _ (yd hltb) ?_⟩
    refine zk (λh3=>?_) (λh3=>?_)
    ·have hne:a[i]≠b[i]:=by
      intro h4
      rw[h4]at h3
      simp at h3
     have:a≠b:=by
      intro h4
      subst h4
      exact hne rfl
     rw[show decide (a=b)=false by simp[this]]at h
     subst hst
     exact⟨_,st',Tt,Store.Has.refl st',h⟩
    ·refine⟨⟨by omega,by omega⟩,?_⟩
     refine⟨i+1,?_,⟨hlt,?_,hst⟩,Qaf,Tv⟩
     ·show a.length-(i+1)<a.length-i
      omega
     ·rw[Fac hlt,Fac hltb,heq]
      have:a[i]=b[i]:=by cases hx:a[i];cases hy:b[i];rw[hx,hy]at h3;simp at h3;simp[h3,Prod.ext_iff]
      rw[this]
   ·have hge:i=a.length:=Bu h2 hi
    subst hge hst
    have:a=b:=by
     rw[Fax,hl,Fax]at heq
     exact heq
    rw[show decide (a=b)=true by simp[this]]at h
    exact⟨_,st',Tt,Store.Has.refl st',h⟩
theorem zvz(a b:Gnd)(ha:a.fits)(st:Store)(R:Ja)(h:R (V.bool (decide (a=b))) st):Jb 78 [.agg (zo a),.agg (zo b)] st R:=by
 refine Qa (c:=cfg 24) zb Tryz.func78 ?_
 refine zk (λh1=>?_) (λh1=>⟨_,st,Tt,Store.Has.refl st,isF h (decide_eq_false λe=>by subst e;simp at h1)⟩)
 refine zk (λh2=>?_) (λh1=>⟨_,st,Tt,Store.Has.refl st,isF h (decide_eq_false λe=>by subst e;simp at h1)⟩)
 refine zv0 a.T b.T ha _ _ ?_
 refine⟨_,st,Tt,Store.Has.refl st,?_⟩
 have e:decide (a.T=b.T)=decide (a=b):=by
  rw[Fb5]
  simp only[beq_iff_eq,decide_eq_true_eq]at*
  constructor
  ·intro h9
   cases a;cases b
   simp_all
  ·rintro rfl
   rfl
 rw[<-e]at h
 exact h
theorem ig(w:Wld)(hw:w.fits)(st:Store)(R:Ja)(h:R (V.bool true) st):Jb 32 [.agg (zu w),.agg (zu w)] st R:=by
 refine Qa (c:=cfg 45) zb Tryz.func32 ?_
 refine qs (λh1=>?_) (λh1=>absurd rfl h1)
 refine qs (λh2=>?_) (λh1=>absurd rfl h1)
 refine qs (λh3=>?_) (λh1=>absurd rfl h1)
 refine zvz w.G w.G hw.1 _ _ ?_
 rw[show decide (w.G=w.G)=true by simp]
 refine zv1 w.B w.B hw.2.1 _ _ ?_
 rw[show decide (w.B=w.B)=true by simp]
 refine zvv w.U w.U hw.2.2 _ _ ?_
 rw[show decide (w.U=w.U)=true by simp]
 exact ret h
section
variable {NT NB NU:Store} {w:Wld} {vT vB vU:AV}
theorem Ni(u:Bld):(zn u).length=6:=rfl
theorem Sx(b:Bld):∀y∈zn b,∃x,y=AV.s x/\qc x=true:=by
 intro y hy
 simp[zn]at hy
 rcases hy with rfl|rfl|rfl|rfl|rfl|rfl<;>exact⟨_,rfl,rfl⟩
theorem Bh(c:UInt8):(u8C c).length=1:=rfl
theorem Ia(c:UInt8):∀y∈u8C c,∃x,y=AV.s x/\qc x=true:=by
 intro y hy
 simp[u8C]at hy
 exact⟨_,hy,rfl⟩
theorem Sg(st:Store):zh Store.empty st:=λb hb=>(hb.elim (λh=>h rfl) (λh=>h rfl):False).elim
theorem F5(st:Store):zh Store.empty st:=λb hb=>(hb.elim (λh=>h rfl) (λh=>h rfl):False).elim
theorem zxh(l:List UInt8)(hl:l.length<=1000000000)(st:Store)(R:Ja)(h:∀v N,RowsQ 1 u8C N v l->zh N st->R v (N.un st)):Jb 139 [qk l] st R:=by
 refine Qa (c:=cfg 8) zb Tryz.func139 ?_
 intro b hb
 cases b with
 |true=>
  have:l=[]:=by
   have:=congrArg List.length (hb rfl)
   rw[zr]at this
   exact Fav this
  subst this
  have:=h (.s (.slice none 0 0)) Store.empty (.inl (.inl ⟨rfl,rfl⟩)) (F5 st)
  rw[vf]at this
  exact ret this
 |false=>
  refine⟨by decide,?_⟩
  exact Va (ie:=ti5) rfl Bh (by decide) hl (λv N hv hd=>ret (h v N hv hd))
theorem lj(l:List Bld)(hl:l.length<=1000000000)(st:Store)(R:Ja)(h:∀v N,RowsQ 6 zn N v l->zh N st->R v (N.un st)):Jb 142 [lst 6 zn l] st R:=by
 refine Qa (c:=cfg 8) zb Tryz.func142 ?_
 intro b hb
 cases b with
 |true=>
  have:l=[]:=by
   have:=congrArg List.length (hb rfl)
   rw[zr]at this
   exact Fav this
  subst this
  have:=h (.s (.slice none 0 0)) Store.empty (.inl (.inl ⟨rfl,rfl⟩)) (F5 st)
  rw[vf]at this
  exact ret this
 |false=>
  refine⟨by decide,?_⟩
  exact Va (ie:=ti197) rfl Ni (by decide) hl (λv N hv hd=>ret (h v N hv hd))
theorem zxg(l:List Unt)(hl:l.length<=1000000000)(st:Store)(R:Ja)(h:∀v N,RowsQ 10 zj N v l->zh N st->R v (N.un st)):Jb 143 [lst 10 zj l] st R:=by
 refine Qa (c:=cfg 8) zb Tryz.func143 ?_
 intro b hb
 cases b with
 |true=>
  have:l=[]:=by
   have:=congrArg List.length (hb rfl)
   rw[zr]at this
   exact Fav this
  subst this
  have:=h (.s (.slice none 0 0)) Store.empty (.inl (.inl ⟨rfl,rfl⟩)) (F5 st)
  rw[vf]at this
  exact ret this
 |false=>
  refine⟨by decide,?_⟩
  exact Va (ie:=ti36) rfl Bg (by decide) hl (λv N hv hd=>ret (h v N hv hd))
theorem Mr(g:Gnd)(hg:g.T.length<=1000000000)(st:Store)(R:Ja)(h:∀v N,RowsQ 1 u8C N v g.T->zh N st->R (.agg [int g.W,int g.H,v]) (N.un st)):Jb 89 [.agg (zo g)] st R:=by
 refine Qa (c:=cfg 8) zb Tryz.func89 ?_
 refine zxh g.T hg _ _ (λv N hv hd=>?_)
 obtain⟨oa,cap,hv2,_⟩:=hv.form
 subst hv2
 exact ret (h _ N hv hd)
def Cx(w:Wld)(vT vB vU:AV):List AV:=[int w.tick,int w.players,int w.next,int w.G.W,int w.G.H,vT,vB,vU]
structure OwnQ(S:Store)(w:Wld)(vT vB vU:AV)(NT NB NU:Store):Prop where
 e:S=NU.un (NB.un NT)
 rT:RowsQ 1 u8C NT vT w.G.T
 rB:RowsQ 6 zn NB vB w.B
 rU:RowsQ 10 zj NU vU w.U
 dB:zh NB NT
 dU:zh NU (NB.un NT)
theorem Pt(w:Wld)(hT:w.G.T.length<=1000000000)(hB:w.B.length<=1000000000)(hU:w.U.length<=1000000000)(R:Ja)
  (h:∀S vT vB vU NT NB NU,OwnQ S w vT vB vU NT NB NU->R (.agg (Cx w vT vB vU)) S):Jb 91 [.agg (zu w)] Store.empty R:=by
 refine Qa (c:=cfg 16) zb Tryz.func91 ?_
 refine Qc zb zm6 ?_
 refine⟨Mr w.G hT _ _ (λvT NT rT _=>⟨Qe,?_⟩),Tv⟩
 rw[ky]
 refine⟨lj w.B hB _ _ (λvB NB rB dB=>⟨Qe,?_⟩),Tv⟩
 refine⟨zxg w.U hU _ _ (λvU NU rU dU=>⟨Qe,?_⟩),Tv⟩
 have ho:OwnQ (NU.un (NB.un NT)) w vT vB vU NT NB NU:=⟨rfl,rT,rB,rU,dB,dU⟩
 obtain⟨_,_,e1,_⟩:=rT.form
 obtain⟨_,_,e2,_⟩:=rB.form
 obtain⟨_,_,e3,_⟩:=rU.form
 subst e1 e2 e3
 refine Qai ?_
 refine Qai ?_
 refine Qai ?_
 exact ret (h _ _ _ _ _ _ _ ho)
theorem Pu{S:Store}(h:OwnQ S w vT vB vU NT NB NU):RowsQ 1 u8C S vT w.G.T/\RowsQ 6 zn S vB w.B/\RowsQ 10 zj S vU w.U:=by
 have h1:=h.rT
 have h2:=h.rB.unL h.dB
 rw[h.e]
 exact⟨(h1.un (a:=NB)).un,h2.un,h.rU.unL h.dU⟩
theorem L4{st:Store}(h:OwnQ st w vT vB vU NT NB NU){Oth M:Nat->Nat->Prop}{W:World}(sto:StoreOK st Oth M W){x:Value}(hx:VRel W (λb o=>M b o\/Oth b o) (.agg (Cx w vT vB vU)) x):
  VRel W (λb o=>(M b o\/Oth b o)/\st.obj b=none) (.agg (zu w)) x:=by
 obtain⟨hT,hB,hU⟩:=Pu h
 cases hx with
 |agg _ c hl hc=>
  refine .agg _ c hl λi x y hx hy=>?_
  match i with
  |0=>simp only[zu,Fal,Faf]at hx;subst hx;exact xk (hc 0 _ y rfl hy)
  |1=>simp only[zu,Fao,Fal,Faf]at hx;subst hx;exact xk (hc 1 _ y rfl hy)
  |2=>simp only[zu,Fao,Fal,Faf]at hx;subst hx;exact xk (hc 2 _ y rfl hy)
  |3=>simp only[zu,Fao,Fal,Faf]at hx;subst hx;exact xk (hc 3 _ y rfl hy)
  |4=>simp only[zu,Fao,Fal,Faf]at hx;subst hx;exact xk (hc 4 _ y rfl hy)
  |5=>simp only[zu,Fao,Fal,Faf]at hx;subst hx;exact hT.borrow Bh Ia sto (hc 5 _ y rfl hy)
  |6=>simp only[zu,Fao,Fal,Faf]at hx;subst hx;exact hB.borrow Ni Sx sto (hc 6 _ y rfl hy)
  |7=>simp only[zu,Fao,Fal,Faf]at hx;subst hx;exact hU.borrow Bg Oj sto (hc 7 _ y rfl hy)
  |i+8=>simp[zu]at hx
theorem G8{a b:Store}{i:Nat}(h:(a.un b).obj i=none):a.obj i=none/\b.obj i=none:=by
 unfold Store.un at h
 dsimp only at h
 cases hb:b.obj i with
 |none=>rw[hb]at h;exact⟨h,rfl⟩
 |some y=>rw[hb]at h;cases h
theorem zqw(w:Wld)(hT:w.G.T.length<=1000000000)(hB:w.B.length<=1000000000)(hU:w.U.length<=1000000000)(R:Ja)
  (h:∀v N,RowsQ 10 zj N v w.U->R (.agg (qp w v)) N):Jb 91 [.agg (zu w)] Store.empty R:=by
 refine(Pt w hT hB hU (λr S=>∃vT vB vU NT NB NU,OwnQ S w vT vB vU NT NB NU/\r=.agg (Cx w vT vB vU)) λS vT vB vU NT NB NU ho=>⟨vT,vB,vU,NT,NB,NU,ho,rfl⟩).frozenTo ?_
 rintro r S ⟨vT,vB,vU,NT,NB,NU,ho,rfl⟩
 have hk:∃N2:Store,RowsQ 10 zj N2 vU w.U/\(∀b x,N2.obj b=some x->NU.obj b=some x)/\(∀b x,N2.tok b≠some x):=by
  refine⟨⟨NU.obj,λ_=>none⟩,ho.rU.sub λ_ _ _ _=>rfl,λb x hx=>hx,λb x=>by simp⟩
 obtain⟨N2,hN,hsub,htok⟩:=hk
 refine⟨.agg (qp w vU),N2,h vU N2 hN,λb x hx=>?_,htok,λOth M W v sto hx=>?_⟩
 ·rw[ho.e]
  exact yn ho.dU (hsub b x hx)
 ·obtain⟨rT,rB,rU⟩:=Pu ho
  cases hx with
  |agg _ c hl hc=>
   have mono1:∀{x:AV} {v:Value},VRel W (λb o=>M b o\/Oth b o) x v->VRel W (λb o=>(M b o\/Oth b o)/\(S.obj b=none\/N2.obj b≠none)) x v:=λh=>h.mono λ_ _ h=>h.1
   have mono2:∀{x:AV} {v:Value} {Z:Store},(∀b,N2.obj b≠none->Z.obj b=none)->(∀b,S.obj b=none->Z.obj b=none)->VRel W (λb o=>(M b o\/Oth b o)/\Z.obj b=none) x v->VRel W (λb o=>(M b o\/Oth b o)/\(S.obj b=none\/N2.obj b≠none)) x v:=λhz1 hz2 h=>h.mono λb _ h=>⟨h.1,h.2.elim (hz2 b) (hz1 b)⟩
   have hS:∀b,S.obj b=none->NU.obj b=none/\NB.obj b=none/\NT.obj b=none:=λb hb=>by
    rw[ho.e]at hb
    obtain⟨h1,h2⟩:=G8 hb
    exact⟨h1,(G8 h2).1,(G8 h2).2⟩
   have hN2:∀b,N2.obj b≠none->NB.obj b=none/\NT.obj b=none:=λb hb=>by
    cases hx:N2.obj b with
    |none=>exact absurd hx hb
    |some y=>
     have h1:=xq (hsub b y hx)
     have h2:=vo (ho.dU b h1)
     exact⟨(G8 h2.1).1,(G8 h2.1).2⟩
   have sNB:StoreOK NB Oth M W:=sto.weaken ⟨λb x hx=>by rw[ho.e];exact zd (yn ho.dB hx),λb x hx=>by rw[ho.e];exact Cz (H8 ho.dB hx)⟩
   have sNT:StoreOK NT Oth M W:=sto.weaken ⟨λb x hx=>by rw[ho.e];exact zd (zd hx),λb x hx=>by rw[ho.e];exact Cz (Cz hx)⟩
   refine .agg _ c hl λi x y hx hy=>?_
   match i with
   |0=>simp only[qp,Fal,Faf]at hx;subst hx;exact mono1 (hc 0 _ y rfl hy)
   |1=>simp only[qp,Fao,Fal,Faf]at hx;subst hx;exact mono1 (hc 1 _ y rfl hy)
   |2=>simp only[qp,Fao,Fal,Faf]at hx;subst hx;exact mono1 (hc 2 _ y rfl hy)
   |3=>simp only[qp,Fao,Fal,Faf]at hx;subst hx;exact mono1 (hc 3 _ y rfl hy)
   |4=>simp only[qp,Fao,Fal,Faf]at hx;subst hx;exact mono1 (hc 4 _ y rfl hy)
   |5=>simp only[qp,Fao,Fal,Faf]at hx;subst hx;exact mono2 (λb hb=>(hN2 b hb).2) (λb hb=>(hS b hb).2.2) (ho.rT.borrow Bh Ia sNT (hc 5 _ y rfl hy))
   |6=>simp only[qp,Fao,Fal,Faf]at hx;subst hx;exact mono2 (λb hb=>(hN2 b hb).1) (λb hb=>(hS b hb).2.1) (ho.rB.borrow Ni Sx sNB (hc 6 _ y rfl hy))
   |7=>simp only[qp,Fao,Fal,Faf]at hx;subst hx;exact mono1 (hc 7 _ y rfl hy)
   |i+8=>simp[qp]at hx
end
theorem Ru(st:Store):st.Has Store.empty:=⟨λb x h=>(by cases h),λb x h=>(by cases h)⟩
theorem Lh{S:Store}{v:AV}{l:List UInt8}(hv:RowsQ 1 u8C S v l)(hl:l.length<=1000000)(R:Ja)(h:R (.tup []) Store.empty):Jb 40 [v] S R:=by
 refine Qa (c:=cfg 20) zb Tryz.func40 ?_
 refine AWp.loop (σ:=Nat×List UInt8×Store) ⟨λs=>[(0,.av v),(2,.av (int (s.1:Nat)))],λ_=>[],λs st'=>st'=s.2.2/\RowsQ 1 u8C s.2.2 v s.2.1/\s.2.1.length=l.length/\s.1<=l.length,λs=>l.length-s.1⟩ zb ?_ ?_
 ·exact⟨(0,l,S),Tv,⟨rfl,hv,rfl,Faq _⟩,⟨Tq,Tq,Tv⟩,Tv⟩
 rintro⟨i,ms,S1⟩ st' ⟨rfl,hm,hml,hi⟩
 dsimp only at hm hml hi⊢
 have hm0:=hm
 rcases hm with(⟨rfl,rfl⟩|⟨b,cap,L,rfl,ho,h1,h2,h3⟩)|⟨a,ha,rfl,rfl⟩
 ·have hi0:i=0:=by simp at hml;omega
  subst hi0
  refine⟨by decide,?_⟩
  exact Np (ie:=ti5) rfl Bh (by decide) hm0 5 rfl (by simp) (λb cap L q1 q2 q3 q4=>k6 (Tt) (Ru _) h)
 ·refine bcd (λc1=>?_) (λc1=>?_)
  ·have hlt:i<ms.length:=by omega
   refine⟨i,rfl,hlt,?_⟩
   have hhead:(((rws u8C ms).flatten++L).drop (0+i*1)).head?=some (.s (.int .u8 ms[i].toNat)):=by
    have hg:=Dr (k:=1) (rows:=rws u8C ms) (λrow hr=>by obtain⟨c,_,rfl⟩:=Fad.1 hr;rfl) (j:=0) (yd hlt) (x:=.s (.int .u8 ms[i].toNat)) rfl
    have hlt2:=(Fae.1 hg).1
    rw[Fb9,show 0+i*1=i*1+0 by omega,Fah hlt2]
    exact hg
   refine za _ ho (za _ hhead ?_)
   refine⟨i,rfl,hlt,?_⟩
   have hx:vh .xor .u8 ((ms[i].toNat:Nat):Int) 85=(((ms[i]^^^85:UInt8)).toNat:Int):=zyj .xor ms[i] 85
   rw[hx]
   refine C9 (i:=ti5) (v:=u8 (ms[i]^^^85)) (b:=b) (o:=0+i*1) (l:=(rws u8C ms).flatten++L) rfl rfl rfl ho (by rw[Faj,Cf Bh];omega) ?_
   refine Qd ?_
   refine⟨(i+1,ms.set i (ms[i]^^^85),_),?_,⟨rfl,?_,by dsimp only;rw[Fa4];exact hml,by dsimp only;omega⟩,⟨Tq,Tq,Tv⟩,Tv⟩
   ·show l.length-(i+1)<l.length-i
    omega
   ·have e:=O5 (f:=u8C) (k:=1) (L:=L) Bh hlt (j:=0) (ys:=[u8 (ms[i]^^^85)]) (x':=ms[i]^^^85) (by simp) rfl
    have e2:0+i*1=i*1+0:=by omega
    dsimp only
    rw[e2,e]
    exact .inl (.inr ⟨b,cap,L,by rw[Fa4],zc _ _ _,by rw[Fa4];exact h1,by rw[Fa4];exact h2,h3⟩)
  ·refine⟨by decide,?_⟩
   exact Np (ie:=ti5) rfl Bh (by decide) hm0 5 rfl (by omega) (λb cap L q1 q2 q3 q4=>k6 (Tt) (Ru _) h)
 ·have hi0:i=0:=by simp at hml;omega
  subst hi0
  refine⟨by decide,?_⟩
  exact Np (ie:=ti5) rfl Bh (by decide) hm0 5 rfl (by simp) (λb cap L q1 q2 q3 q4=>k6 (Tt) (Ru _) h)
end Go.Proofs
namespace Go.Proofs
open Go Go.V
set_option maxRecDepth 20000
set_option maxHeartbeats 4000000
end Go.Proofs
namespace Go.Proofs
open Go Go.V
set_option maxRecDepth 20000
set_option maxHeartbeats 4000000
section
variable {G:Store} {s p:Nat} {w:Wld} {v o0 o1 o2:AV}
theorem qx{i:TI}{cells row rest:List AV}{K:LV->Prop}(ha:vq i.ty=true)(hs:i.size=row.length)(hc:cells=row++rest)(h:K (.av (.agg row))):partK i cells K:=by
 subst hc
 unfold partK
 rw[ha,cond_true,hs]
 have:Nat.ble row.length (row++rest).length=true:=by simp
 rw[this,cond_true]
 refine Fy ?_
 rw[Fb6 (Fak _),Fax]
 exact h
theorem Pd{α:Type}{k:Nat}{f:α->List AV}(hf:∀x,(f x).length=k){l:List α}{L:List AV}{i:Nat}(hi:i<l.length):List.drop (0+i*k) ((rws f l).flatten++L)=f l[i]++((rws f (l.drop (i+1))).flatten++L):=by
 have h1:(rws f (l.take i)).flatten.length=i*k:=by rw[Cf hf,Fat,Nat.min_eq_left (by omega)]
 rw[Fbf,Lm hi,Fa1,<-h1,List.drop_left,Fa1]
theorem zx1{S:Store}(R:Ja)(h:∀F p,CellsOf F p []->zh F S->R (ptr p) (F.un S)):Jb 193 [] S R:=by
 have:=ACalls.frame (a:=Store.empty) (g:=S) (λi h1=>by rcases h1 with h1|h1<;>exact absurd rfl h1) (lv (λr a'=>∃p,r=ptr p/\CellsOf a' p []) (λa p h=>⟨p,rfl,h⟩)) (R':=R) (λr a' ⟨p,e,hc⟩ hd=>e▸h a' p hc hd)
 rwa [vf]at this
def svC(w:Wld)(v o0 o1 o2:AV)(p:Nat):List AV:=qp w v++[o0,o1,o2,ptr p]
def svS(G:Store)(s:Nat)(w:Wld)(v o0 o1 o2:AV)(p:Nat):Store:=G.sO s (.cells (svC w v o0 o1 o2 p))
structure StandR(F G:Store)(s p:Nat)(w:Wld)(v:AV)(L:List Ent)(o0 o1 o2:AV):Prop where
 hc:CellsOf F p L
 hd:zh F (svS G s w v o0 o1 o2 p)
 hs:G.obj s=none
 hu:RowsQ 10 zj G v w.U
 h0:G7 w 0 o0
 h1:G7 w 1 o1
 h2:G7 w 2 o2
theorem wd(G:Store)(s:Nat)(w:Wld)(v o0 o1 o2:AV)(p:Nat):(svS G s w v o0 o1 o2 p).obj s=some (.cells (svC w v o0 o1 o2 p)):=zc _ _ _
theorem Lf{u:AV}{l:List Unt}(hs:G.obj s=none)(h:RowsQ 10 zj G u l):RowsQ 10 zj (svS G s w v o0 o1 o2 p) u l:=by
 rcases h with(h|⟨b,cap,L,h1,h2,h3⟩)|h
 ·exact .inl (.inl h)
 ·refine .inl (.inr ⟨b,cap,L,h1,?_,h3⟩)
  have:b≠s:=λe=>by subst e;rw[hs]at h2;cases h2
  show(G.sO s _).obj b=_
  rw[ze this]
  exact h2
 ·exact .inr h
theorem svS_has{i:Nat}:(svS G s w v o0 o1 o2 p).has i↔i=s\/G.has i:=by
 unfold svS Store.has
 by_cases hi:i=s
 ·subst hi
  simp[zc]
 ·rw[ze hi]
  simp[hi,Store.sO]
theorem Se{F:Store}{w':Wld}{v' q0 q1 q2:AV}(h:zh F (svS G s w v o0 o1 o2 p)):zh F (svS G s w' v' q0 q1 q2 p):=λi h1 h2=>h i h1 (svS_has.2 (svS_has.1 h2))
theorem zq3(w:Wld)(v:AV)(G:Store)(hu:RowsQ 10 zj G v w.U)(hU:w.U.length<=1000000)(hn:∀u∈w.U,u.pos.ok)(R:Ja)
  (h:∀F s p L o0 o1 o2,Fresh G s->StandR F G s p w v L o0 o1 o2->L.length<=w.U.length->(yh w.U->∀e,e∈L↔∃u∈w.U,u.inn=0/\e=(u.id,u.pos))->R (ptr s) (F.un (svS G s w v o0 o1 o2 p))):Jb 114 [.agg (qp w v)] G R:=by
 obtain⟨oa,cap,hv,hget⟩:=hu.form
 subst hv
 refine Qa (c:=cfg 31 [9] []) zb Tryz.func114 ?_
 refine Qc zb bg ?_
 refine⟨zx1 _ (λF p hc hdF=>⟨Qe,?_⟩),Tv⟩
 refine⟨λs hs=>⟨Tv,?_⟩,Tv⟩
 refine Qaj ?_
 have hs1:¬F.has s/\¬G.has s:=by
  have:=fresh_iff.1 hs
  exact⟨λh=>this (un_has.2 (.inl h)),λh=>this (un_has.2 (.inr h))⟩
 have hsG:G.obj s=none:=(vo hs1.2).1
 have e0:(F.un G).sO s (.cells (svC w (.s (.slice oa w.U.length cap)) (.s (.slice none 0 0)) (.s (.slice none 0 0)) (.s (.slice none 0 0)) p))=F.un (svS G s w (.s (.slice oa w.U.length cap)) (.s (.slice none 0 0)) (.s (.slice none 0 0)) (.s (.slice none 0 0)) p):=by
  exact zm F G s _
 have h0:StandR F G s p w (.s (.slice oa w.U.length cap)) [] (.s (.slice none 0 0)) (.s (.slice none 0 0)) (.s (.slice none 0 0)):=⟨hc,λi h1 h2=>by
  rcases svS_has.1 h2 with rfl|h2
  ·exact hs1.1 h1
  ·exact hdF i h1 h2,hsG,hu,.inl rfl,.inl rfl,.inl rfl⟩
 have hsf:Fresh G s:=fresh_iff.2 hs1.2
 refine AWp.loop (σ:=Nat×Store×List Ent) ⟨λq=>[(3,.av (ptr s)),(11,.av (.s (.slice oa w.U.length cap))),(12,.av (int (w.U.length:Nat))),(13,.av (int (q.1:Nat)))],λ_=>[],
  λq st'=>st'=q.2.1.un (svS G s w (.s (.slice oa w.U.length cap)) (.s (.slice none 0 0)) (.s (.slice none 0 0)) (.s (.slice none 0 0)) p)/\StandR q.2.1 G s p w (.s (.slice oa w.U.length cap)) q.2.2 (.s (.slice none 0 0)) (.s (.slice none 0 0)) (.s (.slice none 0 0))/\q.1<=w.U.length/\q.2.2.length<=q.1/\(∀e∈q.2.2,e.2.ok)/\(yh w.U->∀e,e∈q.2.2↔∃u∈w.U.take q.1,u.inn=0/\e=(u.id,u.pos)),λq=>w.U.length-q.1⟩ zb ?_ ?_
 ·exact⟨(0,F,[]),Tv,⟨e0,h0,Faq _,Fak _,λe he=>(by cases he),λ_ e=>(by simp)⟩,Qaf,Tv⟩
 rintro⟨i,F1,L⟩ st' ⟨rfl,hS,hi,hL,hok,hmem⟩
 dsimp only at hS hi hL hok hmem⊢
 refine bcd (λh1=>?_) (λh1=>?_)
 rotate_left
 ·have:i=w.U.length:=by omega
  subst this
  rw[Fax]at hmem
  exact ret (h F1 s p L _ _ _ hsf hS hL hmem)
 have hlt:i<w.U.length:=by omega
 obtain⟨b,J,rfl,hob0⟩:=hget i hlt
 have hbs:b≠s:=λe=>by subst e;rw[hsG]at hob0;cases hob0
 have hob:(F1.un (svS G s w (.s (.slice (some ⟨b,0,none⟩) w.U.length cap)) (.s (.slice none 0 0)) (.s (.slice none 0 0)) (.s (.slice none 0 0)) p)).obj b=some (.cells ((rws zj w.U).flatten++J)):=zd (by
  show(G.sO s _).obj b=_
  rw[ze hbs];exact hob0)
 refine⟨i,rfl,hlt,?_⟩
 refine za (o:=(F1.un (svS G s w _ _ _ _ p)).obj b) _ hob ?_
 refine qx (i:=ti36) (row:=zj w.U[i]) rfl rfl (Pd Bg hlt) ?_
 have hn2:=hn w.U[i] (Fab hlt)
 refine qs (λc1=>?_) (λc1=>?_)
 ·refine Qc zb bf ?_
  refine za (o:=(F1.un (svS G s w _ _ _ _ p)).obj s) _ (zd (wd G s w _ _ _ _ p)) ?_
  refine⟨Su hS.hc hS.hd (by omega) hok w.U[i].id w.U[i].pos hn2 _ (λF2 h2 h3=>⟨Tv,?_⟩),Tv⟩
  have hlen:(yr L w.U[i].id++[(w.U[i].id,w.U[i].pos)]).length<=i+1:=by
   rw[Faj]
   have:(yr L w.U[i].id).length<=L.length:=Fdt _ _
   simp only[Fbp];omega
  refine Qd ?_
  refine⟨(i+1,F2,_),?_,⟨rfl,⟨h2,h3,hsG,hu,.inl rfl,.inl rfl,.inl rfl⟩,by dsimp only;omega,hlen,λe he=>?_,λhr e=>?_⟩,⟨Tq,Tq,Tq,Tq,Tv⟩,Tv⟩
  ·show w.U.length-(i+1)<w.U.length-i
   omega
  ·rcases Fai.1 he with he|he
   ·exact hok e (mem_dropId.1 he).1
   ·simp at he;subst he;exact hn2
  ·dsimp only
   rw[Fac hlt,Fai,mem_dropId,hmem hr e]
   constructor
   ·rintro(⟨⟨u,hu,h4⟩,_⟩|he)
    ·exact⟨u,Fai.2 (.inl hu),h4⟩
    ·simp at he
     exact⟨w.U[i],Fai.2 (.inr (by simp)),c1,he⟩
   ·rintro⟨u,hu,h4,h5⟩
    rcases Fai.1 hu with hu|hu
    ·refine .inl ⟨⟨u,hu,h4,h5⟩,?_⟩
     obtain⟨j,hj,rfl⟩:=Fan hu
     rw[Fat]at hj
     rw[Fc6]at h5
     have:=Pe hr (a:=j) (b:=i) (by omega) hlt
     subst h5
     show w.U[j].id≠w.U[i].id
     omega
    ·simp at hu
     subst hu
     exact .inr (by simp[h5])
 ·refine Qd ?_
  refine⟨(i+1,F1,L),?_,⟨rfl,hS,by dsimp only;omega,by dsimp only;omega,hok,λhr e=>?_⟩,Qaf,Tv⟩
  ·show w.U.length-(i+1)<w.U.length-i
   omega
  ·dsimp only
   rw[hmem hr e,Fac hlt]
   constructor
   ·rintro⟨u,hu,h3⟩;exact⟨u,Fai.2 (.inl hu),h3⟩
   ·rintro⟨u,hu,h3,h4⟩
    rcases Fai.1 hu with hu|hu
    ·exact⟨u,hu,h3,h4⟩
    ·simp at hu
     subst hu
     exact absurd h3 c1
end
section
variable {F G:Store} {s p:Nat} {w:Wld} {v o0 o1 o2:AV}
theorem zma{L:List Ent}(hS:StandR F G s p w v L o0 o1 o2)(hg:zp w.G)(hB:w.B.length<=1000000000000)(hb:∀b∈w.B,yv b/\onP w.G b)(c:Int)(hc:c=0\/c=1\/c=2)(R:Ja)
  (h:∀q0 q1 q2,StandR F G s p w v L q0 q1 q2->R (opV w.G w.B c) (F.un (svS G s w v q0 q1 q2 p))):Jb 197 [ptr s,int c] (F.un (svS G s w v o0 o1 o2 p)) R:=by
 have ho:=zd (a:=F) (wd G s w v o0 o1 o2 p)
 obtain⟨x0,y0,hne0⟩:=wy hg w.B 0
 obtain⟨x1,y1,hne1⟩:=wy hg w.B 1
 obtain⟨x2,y2,hne2⟩:=wy hg w.B 2
 rcases hc with rfl|rfl|rfl
 ·rcases hS.h0 with e|e
  ·subst e
   refine Qa (c:=cfg 35) zb Tryz.func197 ?_
   refine⟨0,rfl,by decide,?_⟩
   refine za (o:=(F.un (svS G s w v _ _ _ p)).obj s) _ ho ?_
   refine Qc zb Gy ?_
   refine za (o:=(F.un (svS G s w v _ _ _ p)).obj s) _ ho ?_
   refine za (o:=(F.un (svS G s w v _ _ _ p)).obj s) _ ho ?_
   refine⟨F6 w.G hg w.B hB hb 0 _ _ ⟨Tv,?_⟩,Tv⟩
   refine⟨0,rfl,by decide,?_⟩
   have ho2:=zd (a:=F) (wd G s w v (opV w.G w.B 0) o1 o2 p)
   have hc2:=Hw (wy hg w.B 0)
   refine⟨?_,Tv⟩
   refine za _ rfl (je rfl (xy (v:=opV w.G w.B 0) rfl rfl rfl rfl ?_))
   refine yz (i:=ti59) (v:=opV w.G w.B 0) (b:=s) (o:=0+8+0*ti59.size) (l:=svC w v _ o1 o2 p) (st2:=F.un (svS G s w v (opV w.G w.B 0) o1 o2 p)) hc2.1 hc2.2 rfl ho (show 8+1<=12 by decide) ?_ ?_
   ·rw[zm]
    unfold svS
    rw[yk]
    rfl
   refine⟨Tv,?_⟩
   refine⟨0,rfl,by decide,?_⟩
   refine za (o:=(F.un (svS G s w v _ _ _ p)).obj s) _ ho2 ?_
   exact ret (h _ _ _ ⟨hS.hc,Se hS.hd,hS.hs,hS.hu,.inr rfl,hS.h1,hS.h2⟩)
  ·rw[hne0]at e
   subst e
   refine Qa (c:=cfg 35) zb Tryz.func197 ?_
   refine⟨0,rfl,by decide,?_⟩
   refine za (o:=(F.un (svS G s w v _ _ _ p)).obj s) _ ho ?_
   refine λbb hbb=>?_
   have hbf:bb=false:=by
    cases bb with
    |true=>cases hbb rfl
    |false=>rfl
   subst hbf
   refine⟨0,rfl,by decide,?_⟩
   refine za (o:=(F.un (svS G s w v _ _ _ p)).obj s) _ ho ?_
   refine ret ?_
   have:=h _ _ _ hS
   rw[hne0]at this
   exact this
 ·rcases hS.h1 with e|e
  ·subst e
   refine Qa (c:=cfg 35) zb Tryz.func197 ?_
   refine⟨1,rfl,by decide,?_⟩
   refine za (o:=(F.un (svS G s w v _ _ _ p)).obj s) _ ho ?_
   refine Qc zb Gy ?_
   refine za (o:=(F.un (svS G s w v _ _ _ p)).obj s) _ ho ?_
   refine za (o:=(F.un (svS G s w v _ _ _ p)).obj s) _ ho ?_
   refine⟨F6 w.G hg w.B hB hb 1 _ _ ⟨Tv,?_⟩,Tv⟩
   refine⟨1,rfl,by decide,?_⟩
   have ho2:=zd (a:=F) (wd G s w v o0 (opV w.G w.B 1) o2 p)
   have hc2:=Hw (wy hg w.B 1)
   refine⟨?_,Tv⟩
   refine za _ rfl (je rfl (xy (v:=opV w.G w.B 1) rfl rfl rfl rfl ?_))
   refine yz (i:=ti59) (v:=opV w.G w.B 1) (b:=s) (o:=0+8+1*ti59.size) (l:=svC w v o0 _ o2 p) (st2:=F.un (svS G s w v o0 (opV w.G w.B 1) o2 p)) hc2.1 hc2.2 rfl ho (show 9+1<=12 by decide) ?_ ?_
   ·rw[zm]
    unfold svS
    rw[yk]
    rfl
   refine⟨Tv,?_⟩
   refine⟨1,rfl,by decide,?_⟩
   refine za (o:=(F.un (svS G s w v _ _ _ p)).obj s) _ ho2 ?_
   exact ret (h _ _ _ ⟨hS.hc,Se hS.hd,hS.hs,hS.hu,hS.h0,.inr rfl,hS.h2⟩)
  ·rw[hne1]at e
   subst e
   refine Qa (c:=cfg 35) zb Tryz.func197 ?_
   refine⟨1,rfl,by decide,?_⟩
   refine za (o:=(F.un (svS G s w v _ _ _ p)).obj s) _ ho ?_
   refine λbb hbb=>?_
   have hbf:bb=false:=by
    cases bb with
    |true=>cases hbb rfl
    |false=>rfl
   subst hbf
   refine⟨1,rfl,by decide,?_⟩
   refine za (o:=(F.un (svS G s w v _ _ _ p)).obj s) _ ho ?_
   refine ret ?_
   have:=h _ _ _ hS
   rw[hne1]at this
   exact this
 ·rcases hS.h2 with e|e
  ·subst e
   refine Qa (c:=cfg 35) zb Tryz.func197 ?_
   refine⟨2,rfl,by decide,?_⟩
   refine za (o:=(F.un (svS G s w v _ _ _ p)).obj s) _ ho ?_
   refine Qc zb Gy ?_
   refine za (o:=(F.un (svS G s w v _ _ _ p)).obj s) _ ho ?_
   refine za (o:=(F.un (svS G s w v _ _ _ p)).obj s) _ ho ?_
   refine⟨F6 w.G hg w.B hB hb 2 _ _ ⟨Tv,?_⟩,Tv⟩
   refine⟨2,rfl,by decide,?_⟩
   have ho2:=zd (a:=F) (wd G s w v o0 o1 (opV w.G w.B 2) p)
   have hc2:=Hw (wy hg w.B 2)
   refine⟨?_,Tv⟩
   refine za _ rfl (je rfl (xy (v:=opV w.G w.B 2) rfl rfl rfl rfl ?_))
   refine yz (i:=ti59) (v:=opV w.G w.B 2) (b:=s) (o:=0+8+2*ti59.size) (l:=svC w v o0 o1 _ p) (st2:=F.un (svS G s w v o0 o1 (opV w.G w.B 2) p)) hc2.1 hc2.2 rfl ho (show 10+1<=12 by decide) ?_ ?_
   ·rw[zm]
    unfold svS
    rw[yk]
    rfl
   refine⟨Tv,?_⟩
   refine⟨2,rfl,by decide,?_⟩
   refine za (o:=(F.un (svS G s w v _ _ _ p)).obj s) _ ho2 ?_
   exact ret (h _ _ _ ⟨hS.hc,Se hS.hd,hS.hs,hS.hu,hS.h0,hS.h1,.inr rfl⟩)
  ·rw[hne2]at e
   subst e
   refine Qa (c:=cfg 35) zb Tryz.func197 ?_
   refine⟨2,rfl,by decide,?_⟩
   refine za (o:=(F.un (svS G s w v _ _ _ p)).obj s) _ ho ?_
   refine λbb hbb=>?_
   have hbf:bb=false:=by
    cases bb with
    |true=>cases hbb rfl
    |false=>rfl
   subst hbf
   refine⟨2,rfl,by decide,?_⟩
   refine za (o:=(F.un (svS G s w v _ _ _ p)).obj s) _ ho ?_
   refine ret ?_
   have:=h _ _ _ hS
   rw[hne2]at this
   exact this
theorem zvc(cs:List Value):Bx (.tup (cs.map AV.s)):=by
 intro w T w' T' v h
 cases h with
 |tup _ c hl h=>
  refine .tup _ c hl λi x y hx hy=>?_
  rw[Fam]at hx
  cases hc:cs[i]? with
  |none=>rw[hc]at hx;cases hx
  |some z=>
   rw[hc]at hx
   cases hx
   have:=h i (.s z) y (by rw[Fam,hc];rfl) hy
   cases this
   exact .s _
theorem mg{g:Store}{l:List Unt}(hv:RowsQ 10 zj g v l)(hl:l.length<=1000000000000)(hr:yh l)(id:Int)(R:Ja)
  (h:∀i,I5 l id i->∀z:Bool,(z=true↔∃hi:i<l.length,l[i].id=id)->R (.tup [int (i:Nat),V.bool z]) g):Jb 65 [v,int id] g R:=
 ACalls.read (ys:=[lst 10 zj l,int id]) (Q:=λr=>∃(i:Nat) (z:Bool),r=.tup [int (i:Nat),V.bool z]/\I5 l id i/\(z=true↔∃hi:i<l.length,l[i].id=id)) (λOth M W vs sto hr=>by
  obtain⟨x,y,rfl,h1,h2⟩:=Ir hr
  exact Reads.cons (hv.borrow Bg Oj sto h1) (Reads.cons (xk h2) Reads.nil)) (Sz l hl hr id _ _ λi hi z hz=>⟨i,z,rfl,hi,hz⟩) (λr ⟨i,z,e,_⟩=>e▸zvc [_,_]) (λr ⟨i,z,e,hi,hz⟩=>e▸h i hi z hz)
theorem Wx{L:List Ent}(hS:StandR F G s p w v L o0 o1 o2)(hr:yh w.U)(hU:w.U.length<=1000000)(hn:∀u∈w.U,u.pos.ok)(hLl:L.length<=w.U.length)(hL:wz w L)(q:Vc)(hq:q.ok)(r:Int)(hrr:0<r/\r<=262144)(R:Ja)
  (h:∀F' us,StandR F' G s p w v L o0 o1 o2->Fl w q (r+81920) us->(us.map (·.id)).Pairwise (·<·)->us.length<=1000000->R (lst 10 zj us) (F'.un (svS G s w v o0 o1 o2 p))):Jb 198 [ptr s,.agg (zx q),int r] (F.un (svS G s w v o0 o1 o2 p)) R:=by
 have ho:=zd (a:=F) (wd G s w v o0 o1 o2 p)
 refine Qa (c:=cfg 47) zb Tryz.func198 ?_
 refine Qc zb W9 ?_
 refine za (o:=(F.un (svS G s w v _ _ _ p)).obj s) _ ho ?_
 refine Qd ?_
 refine⟨l4 hS.hc hS.hd (by omega) (Pw hL hn) hq (r:=r+81920) ⟨by omega,by omega⟩ _ (λF' N nv ns g1 g2 g3 g4 g5 g6=>⟨Tv,?_⟩),Tv⟩
 have hS':StandR F' G s p w v L o0 o1 o2:=⟨g1,g3,hS.hs,hS.hu,hS.h0,hS.h1,hS.h2⟩
 have ho':((F'.un N).un (svS G s w v o0 o1 o2 p)).obj s=some (.cells (svC w v o0 o1 o2 p)):=zd (wd G s w v o0 o1 o2 p)
 have g4':zh (F'.un N) (svS G s w v o0 o1 o2 p):=disj_un.2 ⟨g3,g4⟩
 have hv:∃oa cap,nv=.s (.slice oa ns.length cap)/\∀i,i<ns.length->∃b J,oa=some ⟨b,0,none⟩/\((F'.un N).un (svS G s w v o0 o1 o2 p)).obj b=some (.cells (ns.map aI++J)):=by
  rcases I6 g5 with⟨rfl,rfl⟩|⟨b,cap,J,rfl,hob,_⟩
  ·exact⟨none,0,rfl,λi hi=>absurd hi (Fbh i)⟩
  ·exact⟨_,cap,rfl,λi _=>⟨b,J,rfl,yn g4' (zd hob)⟩⟩
 obtain⟨oa,cap,rfl,hget⟩:=hv
 have hrow:RowsQ 10 zj ((F'.un N).un (svS G s w v o0 o1 o2 p)) v w.U:=(Lf hS.hs hS.hu).un
 have hnl:ns.length<=w.U.length:=by
  have:=Fbm (l₂:=L.map (·.1)) (g6.1.imp λh=>by omega) (λid hid=>by
   obtain⟨e,he,h2,_⟩:=(g6.2 id).1 hid
   exact Fad.2 ⟨e,he,h2⟩)
  rw[Fa5]at this
  omega
 have hfin:∀us:List Unt,us.map (·.id)=ns->(∀u∈us,u∈w.U/\u.inn=0)->R (lst 10 zj us) (F'.un (svS G s w v o0 o1 o2 p)):=λus e1 e2=>
  h F' us hS' (dp hr hL g6 e1 e2) (by rw[e1];exact g6.1) (by
   have:=congrArg List.length e1
   rw[Fa5]at this
   omega)
 have hback:=fw (S:=svS G s w v o0 o1 o2 p) g2
 generalize(F'.un N).un (svS G s w v o0 o1 o2 p)=st1 at*
 refine AWp.loop (σ:=Nat×AV×List Unt) ⟨λx=>[(0,.av (ptr s)),(6,.av x.2.1),(18,.av (.s (.slice oa ns.length cap))),(19,.av (int (ns.length:Nat))),(20,.av (int (x.1:Nat)))],λ_=>[],
  λx st'=>x.1<=ns.length/\App 10 st1 x.2.1 (rws zj x.2.2) st'/\x.2.2.map (·.id)=ns.take x.1/\∀u∈x.2.2,u∈w.U/\u.inn=0,λx=>ns.length-x.1⟩ zb ?_ ?_
 ·exact⟨(0,_,[]),Tv,⟨Faq _,App.start 10 st1,rfl,λu hu=>(by cases hu)⟩,⟨Tq,Tq,Tq,Tq,Tq,Tv⟩,Tv⟩
 rintro⟨i,v2,us⟩ st' ⟨hi,ha,hus,hin⟩
 dsimp only at hi ha hus hin⊢
 refine bcd (λh1=>?_) (λh1=>?_)
 rotate_left
 ·have:i=ns.length:=by omega
  subst this
  rw[Fax]at hus
  exact⟨_,_,AV.le_trans ha.le (Tt),ha.has.trans hback,hfin us hus hin⟩
 have hlt:i<ns.length:=by omega
 obtain⟨b,J,rfl,hob⟩:=hget i hlt
 have hob':st'.obj b=some (.cells (ns.map aI++J)):=by rw[ha.obj];exact hob
 have hrow':RowsQ 10 zj st' v w.U:=by
  exact hrow.sub λ_ _ _ _=>by rw[ha.obj]
 have hos:st'.obj s=some (.cells (svC w v o0 o1 o2 p)):=by rw[ha.obj];exact ho'
 refine⟨i,rfl,hlt,?_⟩
 refine Qak ?_
 refine za (o:=List.head? _) (int ns[i]) (by
  rw[Fb9,show 0+i*ti2.size=i from by show 0+i*1=i;omega,Fah (by simpa using hlt),Fam,Faa hlt];rfl) ?_
 refine Qak ?_
 refine mg hrow' (by omega) hr ns[i] _ (λk hk z hz=>?_)
 obtain⟨e,he,hid,_⟩:=(g6.2 ns[i]).1 (Fab hlt)
 obtain⟨u,hu,hu0,rfl⟩:=(hL e).1 he
 have hfound:∃hk2:k<w.U.length,w.U[k].id=ns[i]:=by
  obtain⟨j,hj,rfl⟩:=Fan hu
  have h5:j>=k:=Decidable.byContradiction λhn2=>by
   have:=hk.2.1 j hj (by omega)
   have h6:(w.U[j]).id=ns[i]:=hid
   omega
  have h7:k<w.U.length:=by omega
  refine⟨h7,?_⟩
  have h8:=hk.2.2 k h7 (Fak _)
  have h6:(w.U[j]).id=ns[i]:=hid
  by_cases e:k=j
  ·subst e;exact h6
  ·have:=Bj hr (show k<j by omega) hj
   omega
 obtain⟨hk2,hk3⟩:=hfound
 refine Qak ?_
 obtain⟨oa2,cap2,hv2,hget2⟩:=hrow'.form
 obtain⟨b2,J2,rfl,hob2⟩:=hget2 k hk2
 subst hv2
 refine⟨k,rfl,hk2,?_⟩
 refine Qak ?_
 refine qx (i:=ti36) (row:=zj w.U[k]) rfl rfl (Pd Bg hk2) ?_
 refine⟨by decide,?_⟩
 have hul:us.length=i:=by
  have:=congrArg List.length hus
  rw[Fa5,Fat]at this
  omega
 refine No (ie:=ti36) (rows':=[zj w.U[k]]) ha ?_ ?_ ⟨?_,?_⟩ (λv3 st3 ha3=>?_)
 ·rfl
 ·rfl
 ·simp only[zr,Fbp,ti36];omega
 ·simp only[zr,Fbp];omega
 refine Qd ?_
 have huk:w.U[k]=u:=Fe hr (Fab hk2) hu (by rw[hk3];exact hid.symm)
 refine⟨(i+1,v3,us++[w.U[k]]),?_,⟨by dsimp only;omega,?_,?_,λu2 hu2=>?_⟩,Qaf,Tv⟩
 ·show ns.length-(i+1)<ns.length-i
  omega
 ·dsimp only
  unfold rws at ha3⊢
  rw[Fbj]
  exact ha3
 ·dsimp only
  rw[Fbj,hus,Fac hlt]
  simp[hk3]
 ·rcases Fai.1 hu2 with h9|h9
  ·exact hin u2 h9
  ·simp at h9
   subst h9
   rw[huk]
   exact⟨hu,hu0⟩
theorem zms{L:List Ent}(hS:StandR F G s p w v L o0 o1 o2)(hr:yh w.U)(hU:w.U.length<=1000000)(hn:∀u∈w.U,u.pos.ok)(hLl:L.length<=w.U.length)(hL:wz w L)(q:Vc)(hq:q.ok)(r:Int)(hrr:0<r/\r<=262144)(R:Ja)
  (h:∀F' us,StandR F' G s p w v L o0 o1 o2->Fl w q (r+81920) us->us.length<=1000000->R (lst 10 zj us) (F'.un (svS G s w v o0 o1 o2 p))):Jb 198 [ptr s,.agg (zx q),int r] (F.un (svS G s w v o0 o1 o2 p)) R:=
 Wx hS hr hU hn hLl hL q hq r hrr R λF' us a b _ d=>h F' us a b d
theorem zmm{L:List Ent}(hS:StandR F G s p w v L o0 o1 o2)(hg:zp w.G)(hB:w.B.length<=1000000000000)(hb:∀b∈w.B,yv b/\onP w.G b)(hr:yh w.U)(hU:w.U.length<=1000000)(hn:∀u∈w.U,u.pos.ok)(hLl:L.length<=w.U.length)(hL:wz w L)
  (id k:Int) (q:Vc) (hq:q.ok) (R:Ja)
  (h:∀z F' q0 q1 q2,(z=true↔qv w id k q)->StandR F' G s p w v L q0 q1 q2->R (V.bool z) (F'.un (svS G s w v q0 q1 q2 p))):Jb 115 [ptr s,int id,int k,.agg (zx q)] (F.un (svS G s w v o0 o1 o2 p)) R:=by
 have ho:=zd (a:=F) (wd G s w v o0 o1 o2 p)
 have hk:=Di k
 have hc:=Mf k
 refine Qa (c:=cfg 56) zb Tryz.func115 ?_
 refine xt k _ _ ?_
 refine Qc zb bd ?_
 refine za (o:=(F.un (svS G s w v _ _ _ p)).obj s) _ ho ?_
 refine⟨zma hS hg hB hb (yx k) hc _ (λa0 a1 a2 hS1=>⟨?_,?_⟩),Tv⟩
 ·have ho1:=zd (a:=F) (wd G s w v a0 a1 a2 p)
  repeat(first|exact Tv|refine⟨rfl,?_⟩|refine⟨za (o:=(F.un (svS G s w v a0 a1 a2 p)).obj s) _ ho1 rfl,?_⟩)
 refine⟨gm w.G hg w.B (yx k) q hq (zq k) ⟨hk.1,by omega⟩ _ _ (λz hz=>⟨Tv,?_⟩),Tv⟩
 refine qd ?_
 refine zk (λc1=>?_) (λc1=>ret (h false _ _ _ _ (by simp only[Fag,false_iff];exact λhh=>by have:=hz.2 hh.1;rw[this]at c1;cases c1) hS1))
 have hfree:=hz.1 c1
 refine zms hS1 hr hU hn hLl hL q hq (zq k) ⟨hk.1,by omega⟩ _ (λF' us hS2 hus hul=>?_)
 have hci:=ll (id:=id) hfree hus
 have no:¬qv w id k q->R (V.bool false) (F'.un (svS G s w v a0 a1 a2 p)):=λhh=>h false _ _ _ _ (by simp only[Fag,false_iff];exact hh) hS2
 refine AWp.loop (σ:=Nat) ⟨λi=>[(1,.av (int id)),(7,.bx 7 0),(9,.bx 9 0),(32,.av (lst 10 zj us)),(33,.av (int (us.length:Nat))),(34,.av (int (i:Nat)))],λ_=>[(7,zx q),(9,Fs k)],
  λi st'=>st'=F'.un (svS G s w v a0 a1 a2 p)/\i<=us.length/\∀j,(hj:j<us.length)->j<i->us[j].id≠id->kb q (zq k) us[j].pos (zq us[j].kind)=true,λi=>us.length-i⟩ zb ?_ ?_
 ·refine⟨0,Tv,⟨rfl,Faq _,λj _ hj=>by omega⟩,⟨Tq,Tq,Tq,Tq,?_,Tq,Tv⟩,⟨rfl,rfl,Tv⟩⟩
  rw[<-zr (f:=zj) us];exact Tq
 rintro i st' ⟨rfl,hi,hall⟩
 refine bcd (λh1=>?_) (λh1=>?_)
 rotate_left
 ·refine ret (h true _ _ _ _ (by
   simp only[true_iff]
   refine hci.2 λu hu hne=>?_
   obtain⟨j,hj,rfl⟩:=Fan hu
   exact hall j hj (by omega) hne) hS2)
 have hlt:i<us.length:=by omega
 have hui:=(hus us[i]).1 (Fab hlt)
 have next:(us[i].id≠id->kb q (zq k) us[i].pos (zq us[i].kind)=true)->∀j,(hj:j<us.length)->j<i+1->us[j].id≠id->kb q (zq k) us[j].pos (zq us[j].kind)=true:=λhh j hj hji=>by
  by_cases e:j=i
  ·subst e;exact hh
  ·exact hall j hj (by omega)
 refine⟨i,rfl,za _ (yd hlt) ?_⟩
 refine Qc zb bc ?_
 refine Dw (λc2=>?_) (λc2=>?_)
 ·refine⟨xt us[i].kind _ _ ⟨Qe,?_⟩,Tv⟩
  have hk2:=Di us[i].kind
  refine⟨mq q (zq k) us[i].pos (zq us[i].kind) hq (hn _ hui.1.1) ⟨hk.1,by omega⟩ ⟨hk2.1,by omega⟩ _ _ ⟨Tv,?_⟩,Tv⟩
  refine qd ?_
  refine zk (λc3=>?_) (λc3=>?_)
  ·refine Qd ?_
   refine⟨i+1,?_,⟨rfl,by omega,next λ_=>c3⟩,Qaf,⟨rfl,rfl,Tv⟩⟩
   show us.length-(i+1)<us.length-i
   omega
  ·refine ret (no λhh=>?_)
   have:=hci.1 hh us[i] (Fab hlt) c2
   rw[this]at c3;cases c3
 ·refine Qai ?_
  refine Qaj ?_
  refine Qd ?_
  refine⟨i+1,?_,⟨rfl,by omega,next λhne=>absurd c2 hne⟩,Qaf,⟨rfl,rfl,Tv⟩⟩
  show us.length-(i+1)<us.length-i
  omega
end
end Go.Proofs
namespace Go.Proofs
open Go Go.V
set_option maxRecDepth 20000
set_option maxHeartbeats 4000000
section
variable {F G F':Store} {xw p:Nat} {w:Wld} {v o0 o1 o2 fv q0 q1 q2:AV}
def wkC(s:Nat)(c:Cmd)(fv:AV):List AV:=ptr s::(vg c++[fv])
def zzw(S:Store)(xw s:Nat)(c:Cmd)(fv:AV)(w:Wld):Prop:=
 ∃v o0 o1 o2 p,S.obj xw=some (.cells (wkC s c fv))/\S.obj s=some (.cells (svC w v o0 o1 o2 p))/\RowsQ 10 zj S v w.U
structure Work(F G:Store)(xw s p:Nat)(w:Wld)(v:AV)(L:List Ent)(o0 o1 o2:AV)(c:Cmd)(fv:AV):Prop where
 S:StandR F G s p w v L o0 o1 o2
 hx:G.obj xw=some (.cells (wkC s c fv))
 ox:w9 v xw
 os:w9 v s
 hL:L.length<=w.U.length
 hF:wz w L
theorem Work.ne{s:Nat}{L:List Ent}{c:Cmd}(h:Work F G xw s p w v L o0 o1 o2 c fv):xw≠s:=λe=>by
 have h1:=h.hx
 rw[e,h.S.hs]at h1
 cases h1
theorem Work.x{s:Nat}{L:List Ent}{c:Cmd}(h:Work F G xw s p w v L o0 o1 o2 c fv):(F'.un (svS G s w v q0 q1 q2 p)).obj xw=some (.cells (wkC s c fv)):=zd (by
 show(G.sO s _).obj xw=_
 rw[ze h.ne]
 exact h.hx)
theorem Work.s{s:Nat}{L:List Ent}{c:Cmd}(h:Work F G xw s p w v L o0 o1 o2 c fv):(F'.un (svS G s w v q0 q1 q2 p)).obj s=some (.cells (svC w v q0 q1 q2 p)):=zd (wd _ _ _ _ _ _ _ _)
theorem Work.r{s:Nat}{L:List Ent}{c:Cmd}(h:Work F G xw s p w v L o0 o1 o2 c fv):RowsQ 10 zj (F'.un (svS G s w v q0 q1 q2 p)) v w.U:=(Lf h.S.hs h.S.hu).un
end
end Go.Proofs
namespace Go.Proofs
open Go Go.V
set_option maxRecDepth 20000
set_option maxHeartbeats 4000000
end Go.Proofs
namespace Go.Proofs
open Go Go.V
set_option maxRecDepth 20000
set_option maxHeartbeats 4000000
end Go.Proofs
namespace Go.Proofs
open Go Go.V
set_option maxRecDepth 20000
set_option maxHeartbeats 4000000
theorem zwv(l:List Cmd)(hl:l.length<=140737488355328)(hu:∀c∈l,c.sized)(st:Store)(R:Ja)
  (h:∀w:Int,l.length<=w->(w<1048576->∀c∈l,(c.U.length:Int)<=w)->w<=281474976710656->R (int w) st):Jb 86 [lst 10 vg l] st R:=by
 refine Qa (c:=cfg 26) zb Tryz.func86 ?_
 refine AWp.loop (σ:=Nat×Int) ⟨λs=>[(0,.av (lst 10 vg l)),(3,.av (int s.2)),(4,.av (int (s.1:Nat)))],λ_=>[],
  λs st'=>s.1<=l.length/\st'=st/\(l.length:Int)<=s.2/\s.2<=281474976710656/\(s.2<1048576->∀c∈l.take s.1,(c.U.length:Int)<=s.2),λs=>l.length-s.1⟩ zb ?_ ?_
 ·refine⟨(0,(l.length:Int)),Tv,⟨Faq _,rfl,Fcl _,by simp only;omega,λ_ c hc=>by simp at hc⟩,⟨Tq,?_,Tq,Tv⟩,Tv⟩
  rw[<-zr (f:=vg) l]
  exact Tq
 rintro⟨i,n⟩ st' ⟨hi,rfl,hn,hn2,hU⟩
 dsimp only at hi hn hn2 hU⊢
 refine zk (λh1=>?_) (λh1=>?_)
 ·have hlt:i<l.length:=Av h1
  have hsz:=hu _ (Fab hlt)
  unfold Cmd.sized at hsz
  refine bcd (λh2=>?_) (λh2=>?_)
  ·refine⟨i,rfl,za _ (yd hlt) ?_⟩
   refine⟨by rw[zr];exact⟨by omega,by omega⟩,?_⟩
   refine⟨⟨by omega,by omega⟩,?_⟩
   refine⟨(i+1,n+(l[i].U.length:Int)),?_,⟨hlt,rfl,by simp only;omega,by simp only;omega,λh3 c hc=>?_⟩,⟨Tq,?_,Tq,Tv⟩,Tv⟩
   ·show l.length-(i+1)<l.length-i
    omega
   ·simp only at h3⊢
    rw[Fac hlt]at hc
    rcases Fai.1 hc with hc|hc
    ·have:=hU (by omega) c hc;omega
    ·rw[Fb3]at hc
     subst hc;omega
   ·simp only
    rw[<-zr (f:=yo) l[i].U]
    exact Tq
  ·exact ret (h n hn (λh3=>absurd h3 h2) hn2)
 ·have hge:i=l.length:=Bu h1 hi
  subst hge
  rw[Fax]at hU
  exact ret (h n hn hU hn2)
theorem ztr(s:Scr)(hf:∀c∈s.L,c.sized)(st:Store)(R:Ja)(h:∀z:Bool,(z=false->¬Kc s.W/\s.L.length<=60/\∀c∈s.L,c.fits)->R (V.bool z) st):Jb 35 [.agg (O9 s)] st R:=by
 have yes:=h true (λhh=>by cases hh)
 refine Qa (c:=cfg 18) zb Tryz.func35 ?_
 refine zt0 s.W _ _ (λz hz=>?_)
 refine zk (λc1=>ret yes) (λc1=>?_)
 have hng:¬Kc s.W:=λhh=>by have:=hz.2 hh;rw[this]at c1;cases c1
 refine zk (λc2=>ret yes) (λc2=>?_)
 have hl:s.L.length<=60:=by
  have c2:=of_decide_eq_false c2
  rw[zr]at c2
  omega
 refine zwv s.L (by omega) hf _ _ (λn h1 h2 h3=>?_)
 refine ret (h _ λhz=>⟨hng,hl,λc hc=>?_⟩)
 have hz:=of_decide_eq_false hz
 have:=h2 (by omega) c hc
 unfold Cmd.fits
 omega
end Go.Proofs
