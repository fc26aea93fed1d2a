/- Ground of laws of thronglaw30: contracts and plain lemmas; no condition beyond the row's own. -/
import Derived.Test.YtieceacpbjcddaaGreatKK
import Derived.Test.YtieceacpbjcddaaGreatKE
set_option linter.unusedSimpArgs false
set_option linter.unusedVariables false
set_option linter.defProp false
namespace Go.Proofs
open Go Go.V
set_option maxRecDepth 20000
set_option maxHeartbeats 4000000
def tkO(cs:List (Int×Bool))(bs:List Nat)(clk:Nat):AObj:=.map (cs.map (yb V.bool)) bs clk
theorem zw7(w:Wld)(hw:w.fits)(hn:∀u∈w.U,u.pos.ok):Jb 72 [.agg (zk w)] Store.empty λr _=>∃z,r=V.bool z/\(z=true↔zx w):=by
 have no:¬zx w->∃z,V.bool false=V.bool z/\(z=true↔zx w):=λhn=>⟨false,rfl,by grind⟩
 refine Qb (c:=cfg 87) zb Tryz.func72 ?_
 refine AWp.seq (AWp.of_vc zb ?_)
 refine AWp.seq (AWp.of_vc zb ?_)
 refine zz3 w hw _ _ (λz hz=>?_)
 refine yp ?_
 refine zi (λc1=>?_) (λc1=>ret (no λq=>by have:=hz.2 q.1.1;rw[this]at c1;cases c1))
 have hh:=hz.1 c1
 have hg:=hh.2.1.1
 have hbl:=hh.2.1.2.1
 have hBl:w.B.length<=256:=hbl.1
 have hU:w.U.length<=4096:=hh.2.1.2.2
 have hbb:∀b∈w.B,y9 b/\onP w.G b:=λb hb=>⟨(hbl.2.2.1 b hb).1,(hbl.2.2.1 b hb).2.1⟩
 refine AWp.seq (AWp.of_vc zb ?_)
 refine F9 rfl (λm hm=>?_)
 refine AWp.meetA (σ:=List (Int×Bool)×List Nat×Nat) ⟨λ_=>[(1,.bx 1 0),(3,.av (Pk m))],λ_=>[(1,zk w)],λx st'=>st'=Store.empty.sO m (tkO x.1 x.2.1 x.2.2)/\∀id,(ye x.1 id).getD false=true↔∃b∈w.B,b.id=id⟩ ?_ ?_
 ·refine AWp.of_vc zb ?_
  refine AWp.loop (σ:=Nat×List (Int×Bool)×List Nat×Nat) ⟨λx=>[(1,.bx 1 0),(3,.av (Pk m)),(16,.av (lst 6 zr w.B)),(17,.av (int (w.B.length:Nat))),(18,.av (int (x.1:Nat)))],λ_=>[(1,zk w)],
   λx st'=>x.1<=w.B.length/\st'=Store.empty.sO m (tkO x.2.1 x.2.2.1 x.2.2.2)/\∀id,(ye x.2.1 id).getD false=true↔∃b∈w.B.take x.1,b.id=id,λx=>w.B.length-x.1⟩ zb ?_ ?_
  ·refine⟨(0,[],[],0),Tv,⟨Faf _,rfl,λid=>⟨λh=>(by cases h),λ⟨b,hb,_⟩=>(by simp at hb)⟩⟩,⟨Tq,Tq,Tq,?_,Tq,Tv⟩,⟨rfl,Tv⟩⟩
   rw[<-zh (f:=zr) w.B];exact Tq
  rintro⟨i,cs,bs,clk⟩ st' ⟨hi,rfl,htk⟩
  dsimp only at hi htk⊢
  refine bcd (λh1=>?_) (λh1=>?_)
  rotate_left
  ·have:i=w.B.length:=by omega
   subst this
   rw[Fap]at htk
   exact⟨(cs,bs,clk),⟨rfl,htk⟩,⟨Tq,Tq,Tv⟩,⟨rfl,Tv⟩⟩
  have hlt:i<w.B.length:=by omega
  refine⟨i,rfl,za _ (zw hlt) ?_⟩
  have hmo:(Store.empty.sO m (tkO cs bs clk)).obj m=some (tkO cs bs clk):=zc _ _ _
  refine Ck (.inl rfl) rfl (it:=ti215) (ik:=ti2) rfl rfl rfl (es:=cs.map (yb V.bool)) (bs:=bs) (clk:=clk) (k:=int w.B[i].id) (v:=V.bool true) hmo rfl rfl (qA w.B[i].id) (λe he=>?_) (λe1 he hq=>?_) ?_
  ·obtain⟨e,_,rfl⟩:=Fae.1 he
   rfl
  ·obtain⟨g1,_,rfl⟩:=Fae.1 he
   grind[qA,yb,int]
  obtain⟨bs',clk',hput⟩:=Il V.bool cs bs clk w.B[i].id true
  have hput:jl (cs.map (yb V.bool)) bs clk (qA w.B[i].id) (int w.B[i].id) (V.bool true)=tkO (ya cs w.B[i].id true) bs' clk':=hput
  rw[hput,yl]
  refine Qd ?_
  refine⟨(i+1,ya cs w.B[i].id true,bs',clk'),?_,⟨by dsimp only;omega,rfl,λid=>?_⟩,Qao,⟨rfl,Tv⟩⟩
  ·grind
  ·dsimp only
   rw[Bm,Fac hlt]
   grind
 rintro⟨cs,bs,clk⟩ st' ⟨rfl,htk⟩
 dsimp only at htk⊢
 have hmo:(Store.empty.sO m (tkO cs bs clk)).obj m=some (tkO cs bs clk):=zc _ _ _
 have hhas:(Store.empty.sO m (tkO cs bs clk)).Has Store.empty:=Ai rfl
 refine AWp.meetA (σ:=Unit) ⟨λ_=>[(1,.bx 1 0)],λ_=>[(1,zk w)],λ_ st'=>st'=Store.empty.sO m (tkO cs bs clk)/\Ge w w.U.length⟩ ?_ ?_
 ·refine AWp.of_vc zb ?_
  refine AWp.loop (σ:=Nat) ⟨λi=>[(1,.bx 1 0),(3,.av (Pk m)),(27,.av (lst 10 zl w.U)),(28,.av (int (w.U.length:Nat))),(29,.av (int (i:Nat)))],λ_=>[(1,zk w)],
   λi st'=>i<=w.U.length/\st'=Store.empty.sO m (tkO cs bs clk)/\Ge w i,λi=>w.U.length-i⟩ zb ?_ ?_
  ·refine⟨0,Tv,⟨Faf _,rfl,λj _ hj=>by omega⟩,⟨Tq,Tq,Tq,?_,Tq,Tv⟩,⟨rfl,Tv⟩⟩
   rw[<-zh (f:=zl) w.U];exact Tq
  rintro i st' ⟨hi,rfl,hup⟩
  refine bcd (λh1=>?_) (λh1=>?_)
  rotate_left
  ·have:i=w.U.length:=by omega
   subst this
   exact⟨(),⟨rfl,hup⟩,⟨Tq,Tv⟩,⟨rfl,Tv⟩⟩
  have hlt:i<w.U.length:=by omega
  have nou:¬((xw w w.U[i]/\∀b∈w.B,b.id≠w.U[i].id)/\(0<i->(w.U[i-1]'(by omega)).id<w.U[i].id))->∃z,V.bool false=V.bool z/\(z=true↔zx w):=λhq=>no λq=>hq (zax q.1.2 (i+1) i hlt (by omega))
  refine⟨i,rfl,za _ (zw hlt) ?_⟩
  refine Qc zb zqr ?_
  refine⟨yeq w w.U[i] hg _ _ (λz hz=>⟨Tv,?_⟩),Tv⟩
  refine yp ?_
  refine zi (λc2=>?_) (λc2=>⟨⟨Tv,ret (nou λq=>by grind)⟩,Tv⟩)
  have hunt:=hz.1 c2
  refine⟨vi rfl (it:=ti215) (ie:=ti4) (ik:=ti2) rfl rfl rfl rfl hmo rfl (qA w.U[i].id) (λe he=>by obtain⟨e,_,rfl⟩:=Fae.1 he;rfl) ?_,Tv⟩
  rw[Fq]
  have hcv:(Option.map V.bool (ye cs w.U[i].id)).getD (At ti4)=V.bool ((ye cs w.U[i].id).getD false):=by
   cases ye cs w.U[i].id<;>rfl
  rw[hcv]
  have htki:=htk w.U[i].id
  generalize(ye cs w.U[i].id).getD false=tk at htki
  refine⟨Tv,?_⟩
  refine zi (λc3=>ret (nou λq=>by grind)) (λc3=>?_)
  have hnb:∀b∈w.B,b.id≠w.U[i].id:=λb hb e=>by grind
  have next:(0<i->(w.U[i-1]'(by omega)).id<w.U[i].id)->Ge w (i+1):=λhq j hj hji=>by
   by_cases e:j=i
   ·grind
   ·exact hup j hj (by omega)
  have fin:Ge w (i+1)->zy ((i:Int)+1)/\(i+1<=w.U.length/\Store.empty.sO m (tkO cs bs clk)=Store.empty.sO m (tkO cs bs clk)/\Ge w (i+1)):=λhq=>⟨⟨by omega,by omega⟩,by omega,rfl,hq⟩
  refine bcd (λc4=>?_) (λc4=>?_)
  ·have hi0:0<i:=by omega
   refine Qd ?_
   refine⟨i-1,by omega,za _ (zw (show i-1<w.U.length by omega)) ?_⟩
   refine bcd (λc5=>ret (nou λq=>by have:=q.2 hi0;omega)) (λc5=>?_)
   obtain⟨f1,f2⟩:=fin (next λ_=>by omega)
   refine⟨f1,?_⟩
   refine⟨i+1,?_,f2,Qao,⟨rfl,Tv⟩⟩
   grind
  ·obtain⟨f1,f2⟩:=fin (next λh0=>absurd h0 (by omega))
   refine⟨f1,?_⟩
   refine⟨i+1,?_,f2,Qao,⟨rfl,Tv⟩⟩
   grind
 rintro _ _ ⟨rfl,hall⟩
 have hok:=zay hall
 refine AWp.leS hhas.toLe ?_
 refine AWp.seq (AWp.of_vc zb ?_)
 refine zvi w (by omega) hn _ (λF s p L o0 o1 o2 hS hLl hL=>?_)
 have hLm:=hL hok.1
 refine AWp.meetA (σ:=Unit) ⟨λ_=>[(1,.bx 1 0)],λ_=>[(1,zk w)],λ_ st'=>∀u∈w.U,u.inn=0->xi w u.id u.kind u.pos⟩ ?_ ?_
 ·refine AWp.of_vc zb ?_
  refine AWp.loop (σ:=Nat×Store×AV×AV×AV) ⟨λx=>[(1,.bx 1 0),(8,.av (ptr s)),(64,.av (lst 10 zl w.U)),(65,.av (int (w.U.length:Nat))),(66,.av (int (x.1:Nat)))],λ_=>[(1,zk w)],
   λx st'=>x.1<=w.U.length/\st'=x.2.1.un (stS s w x.2.2.1 x.2.2.2.1 x.2.2.2.2 p)/\StandAt x.2.1 s p w L x.2.2.1 x.2.2.2.1 x.2.2.2.2/\∀j,(hj:j<w.U.length)->j<x.1->w.U[j].inn=0->xi w w.U[j].id w.U[j].kind w.U[j].pos,λx=>w.U.length-x.1⟩ zb ?_ ?_
  ·refine⟨(0,F,o0,o1,o2),Tv,⟨Faf _,rfl,hS,λj _ hj=>by omega⟩,⟨Tq,Tq,Tq,?_,Tq,Tv⟩,⟨rfl,Tv⟩⟩
   rw[<-zh (f:=zl) w.U];exact Tq
  rintro⟨i,F1,a0,a1,a2⟩ st' ⟨hi,rfl,hS1,hcl⟩
  dsimp only at hi hS1 hcl⊢
  refine bcd (λh1=>?_) (λh1=>?_)
  rotate_left
  ·have:i=w.U.length:=by omega
   subst this
   refine⟨(),λu hu h0=>?_,⟨Tq,Tv⟩,⟨rfl,Tv⟩⟩
   obtain⟨j,hj,rfl⟩:=Faj hu
   exact hcl j hj hj h0
  have hlt:i<w.U.length:=by omega
  have hui:=Faa hlt
  have next:(w.U[i].inn=0->xi w w.U[i].id w.U[i].kind w.U[i].pos)->∀j,(hj:j<w.U.length)->j<i+1->w.U[j].inn=0->xi w w.U[j].id w.U[j].kind w.U[j].pos:=λhq j hj hji=>by grind
  refine⟨i,rfl,za _ (zw hlt) ?_⟩
  refine qf (λc2=>?_) (λc2=>?_)
  ·refine zpv hS1 hg (by omega) hbb hok.1 (by omega) hn hLl hLm w.U[i].id w.U[i].kind w.U[i].pos (hn _ hui) _ (λz F2 b0 b1 b2 hz hS2=>?_)
   refine yp ?_
   refine zi (λc3=>?_) (λc3=>ret (no λq=>by have:=hz.2 (q.2.1 _ hui c2);rw[this]at c3;cases c3))
   refine Qd ?_
   refine⟨(i+1,F2,b0,b1,b2),?_,⟨by dsimp only;omega,rfl,hS2,next λ_=>hz.1 c3⟩,Qao,⟨rfl,Tv⟩⟩
   grind
  ·refine Qd ?_
   refine⟨(i+1,F1,a0,a1,a2),?_,⟨by dsimp only;omega,rfl,hS1,next λh0=>absurd h0 c2⟩,Qao,⟨rfl,Tv⟩⟩
   grind
 rintro _ st' hclear
 refine AWp.of_vc zb ?_
 refine ztu w (by omega) hok.1 _ _ (λz hz=>?_)
 refine ret ⟨z,rfl,?_⟩
 rw[hz]
 exact⟨λhq=>⟨⟨hh,hok⟩,hclear,hq⟩,λhq=>hq.2.2⟩
theorem C7{f:FuncId}{xs:List AV}{Q:AV->Prop}(key:Jb f xs Store.empty λr _=>Q r)(st:Store)(R:Ja)(h:∀r,Q r->R r st):Jb f xs st R:=by
 rw[<-Al st]
 refine ACalls.post (ACalls.frame (R':=λr st'=>Q r/\∃a',st'=a'.un st) (λb hb=>?_) key λr a' h1 _=>⟨h1,a',rfl⟩) (Store.Le.refl _) λr st' ⟨h1,a',h2⟩=>⟨r,st,Tt,h2▸za5,?_⟩
 ·exact(hb.elim (λh=>h rfl) (λh=>h rfl):False).elim
 ·exact h r h1
theorem zw2(w:Wld)(hw:w.fits)(hn:∀u∈w.U,u.pos.ok)(st:Store)(R:Ja)(h:∀z:Bool,(z=true↔zx w)->R (V.bool z) st):Jb 72 [.agg (zk w)] st R:=
 C7 (zw7 w hw hn) st R λr ⟨z,e,hz⟩=>e▸h z hz
end Go.Proofs
namespace Go.Proofs
open Go Go.V
set_option maxRecDepth 20000
set_option maxHeartbeats 4000000
end Go.Proofs
namespace Go.Proofs
open Go Go.V
set_option maxRecDepth 20000
set_option maxHeartbeats 4000000
theorem ybc(a b:List Int)(ha:a.length<=1000000000000)(st:Store)(R:Ja)(h:R (bool (decide (a=b))) st):Jb 61 [lst 1 zu a,lst 1 zu b] st R:=by
 refine Qa (c:=cfg 26) zb Tryz.func61 ?_
 refine zi (λh1=>?_) (λh1=>?_)
 ·have:a≠b:=λh2=>zwe h1 (by rw[h2])
  rw[show decide (a=b)=false by simp[this]]at h
  exact⟨_,st,Tt,Store.Has.refl st,h⟩
 ·have hl:a.length=b.length:=Wx h1
  refine AWp.loop (σ:=Nat) ⟨λi=>[(0,.av (lst 1 zu a)),(1,.av (lst 1 zu b)),(5,.av (int i))],λ_=>[],λi st'=>i<=a.length/\a.take i=b.take i/\st'=st,λi=>a.length-i⟩ zb ?_ ?_
  ·exact⟨0,Tv,⟨Faf _,rfl,rfl⟩,Qao,Tv⟩
  ·rintro i st' ⟨hi,heq,hst⟩
   refine zi (λh2=>?_) (λh2=>?_)
   ·have hlt:i<a.length:=Io h2
    have hltb:i<b.length:=by omega
    refine Qc zb zqs ?_
    refine⟨i,rfl,za _ (zw hlt) ?_⟩
    refine⟨i,rfl,za _ (zw hltb) ?_⟩
    refine zi (λh3=>?_) (λh3=>?_)
    ·have hne:a[i]≠b[i]:=by
      intro h4
      rw[h4]at h3
      simp at h3
     have:a≠b:=by
      intro h4
      subst h4
      exact hne rfl
     rw[show decide (a=b)=false by simp[this]]at h
     subst hst
     exact⟨_,st',Tt,Store.Has.refl st',h⟩
    ·refine⟨⟨by omega,by omega⟩,?_⟩
     refine⟨i+1,?_,⟨hlt,?_,hst⟩,Qao,Tv⟩
     ·show a.length-(i+1)<a.length-i
      omega
     ·rw[Fac hlt,Fac hltb,heq]
      have:a[i]=b[i]:=by simpa using h3
      rw[this]
   ·have hge:i=a.length:=Lr h2 hi
    subst hge hst
    have:a=b:=by
     rw[Fap,hl,Fap]at heq
     exact heq
    rw[show decide (a=b)=true by simp[this]]at h
    exact⟨_,st',Tt,Store.Has.refl st',h⟩
section
variable {NT NB NU:Store} {w:Wld} {vT vB vU:AV}
theorem Pp(u:Bld):(zr u).length=6:=rfl
theorem bz(b:Bld):∀y∈zr b,∃x,y=AV.s x/\ql x=true:=by
 intro y hy
 simp[zr]at hy
 rcases hy with rfl|rfl|rfl|rfl|rfl|rfl<;>exact⟨_,rfl,rfl⟩
theorem Ms(c:UInt8):(u8C c).length=1:=rfl
theorem Rx(c:UInt8):∀y∈u8C c,∃x,y=AV.s x/\ql x=true:=by
 intro y hy
 simp[u8C]at hy
 exact⟨_,hy,rfl⟩
theorem W7(st:Store):zg Store.empty st:=λb hb=>(hb.elim (λh=>h rfl) (λh=>h rfl):False).elim
theorem L6(st:Store):zg Store.empty st:=λb hb=>(hb.elim (λh=>h rfl) (λh=>h rfl):False).elim
theorem ycr(l:List UInt8)(hl:l.length<=1000000000)(st:Store)(R:Ja)(h:∀v N,RowsQ 1 u8C N v l->zg N st->R v (N.un st)):Jb 157 [qc l] st R:=by
 refine Qa (c:=cfg 8) zb Tryz.func157 ?_
 intro b hb
 cases b with
 |true=>
  have:l=[]:=by
   have:=congrArg List.length (hb rfl)
   rw[zh]at this
   exact Fat this
  subst this
  have:=h (.s (.slice none 0 0)) Store.empty (.inl (.inl ⟨rfl,rfl⟩)) (L6 st)
  rw[Al]at this
  exact ret this
 |false=>
  refine⟨by decide,?_⟩
  exact Md (ie:=ti5) rfl Ms (by decide) hl (λv N hv hd=>ret (h v N hv hd))
theorem rz(l:List Bld)(hl:l.length<=1000000000)(st:Store)(R:Ja)(h:∀v N,RowsQ 6 zr N v l->zg N st->R v (N.un st)):Jb 134 [lst 6 zr l] st R:=by
 refine Qa (c:=cfg 8) zb Tryz.func134 ?_
 intro b hb
 cases b with
 |true=>
  have:l=[]:=by
   have:=congrArg List.length (hb rfl)
   rw[zh]at this
   exact Fat this
  subst this
  have:=h (.s (.slice none 0 0)) Store.empty (.inl (.inl ⟨rfl,rfl⟩)) (L6 st)
  rw[Al]at this
  exact ret this
 |false=>
  refine⟨by decide,?_⟩
  exact Md (ie:=ti150) rfl Pp (by decide) hl (λv N hv hd=>ret (h v N hv hd))
theorem ycq(l:List Unt)(hl:l.length<=1000000000)(st:Store)(R:Ja)(h:∀v N,RowsQ 10 zl N v l->zg N st->R v (N.un st)):Jb 135 [lst 10 zl l] st R:=by
 refine Qa (c:=cfg 8) zb Tryz.func135 ?_
 intro b hb
 cases b with
 |true=>
  have:l=[]:=by
   have:=congrArg List.length (hb rfl)
   rw[zh]at this
   exact Fat this
  subst this
  have:=h (.s (.slice none 0 0)) Store.empty (.inl (.inl ⟨rfl,rfl⟩)) (L6 st)
  rw[Al]at this
  exact ret this
 |false=>
  refine⟨by decide,?_⟩
  exact Md (ie:=ti37) rfl Cn (by decide) hl (λv N hv hd=>ret (h v N hv hd))
theorem Wg(g:Gnd)(hg:g.T.length<=1000000000)(st:Store)(R:Ja)(h:∀v N,RowsQ 1 u8C N v g.T->zg N st->R (.agg [int g.W,int g.H,v]) (N.un st)):Jb 82 [.agg (zn g)] st R:=by
 refine Qa (c:=cfg 8) zb Tryz.func82 ?_
 refine ycr g.T hg _ _ (λv N hv hd=>?_)
 obtain⟨oa,cap,hv2,_⟩:=hv.form
 subst hv2
 exact ret (h _ N hv hd)
def D9(w:Wld)(vT vB vU:AV):List AV:=[int w.tick,int w.players,int w.next,int w.G.W,int w.G.H,vT,vB,vU]
structure OwnQ(S:Store)(w:Wld)(vT vB vU:AV)(NT NB NU:Store):Prop where
 e:S=NU.un (NB.un NT)
 rT:RowsQ 1 u8C NT vT w.G.T
 rB:RowsQ 6 zr NB vB w.B
 rU:RowsQ 10 zl NU vU w.U
 dB:zg NB NT
 dU:zg NU (NB.un NT)
theorem Ve(w:Wld)(hT:w.G.T.length<=1000000000)(hB:w.B.length<=1000000000)(hU:w.U.length<=1000000000)(R:Ja)
  (h:∀S vT vB vU NT NB NU,OwnQ S w vT vB vU NT NB NU->R (.agg (D9 w vT vB vU)) S):Jb 74 [.agg (zk w)] Store.empty R:=by
 refine Qa (c:=cfg 16) zb Tryz.func74 ?_
 refine Qc zb zqq ?_
 refine⟨Wg w.G hT _ _ (λvT NT rT _=>⟨Qe,?_⟩),Tv⟩
 rw[Ax]
 refine⟨rz w.B hB _ _ (λvB NB rB dB=>⟨Qe,?_⟩),Tv⟩
 refine⟨ycq w.U hU _ _ (λvU NU rU dU=>⟨Qe,?_⟩),Tv⟩
 have ho:OwnQ (NU.un (NB.un NT)) w vT vB vU NT NB NU:=⟨rfl,rT,rB,rU,dB,dU⟩
 obtain⟨_,_,e1,_⟩:=rT.form
 obtain⟨_,_,e2,_⟩:=rB.form
 obtain⟨_,_,e3,_⟩:=rU.form
 subst e1 e2 e3
 refine Qar ?_
 refine Qar ?_
 refine Qar ?_
 exact ret (h _ _ _ _ _ _ _ ho)
theorem Vf{S:Store}(h:OwnQ S w vT vB vU NT NB NU):RowsQ 1 u8C S vT w.G.T/\RowsQ 6 zr S vB w.B/\RowsQ 10 zl S vU w.U:=by
 have h1:=h.rT
 have h2:=h.rB.unL h.dB
 rw[h.e]
 exact⟨(h1.un (a:=NB)).un,h2.un,h.rU.unL h.dU⟩
theorem Vg{st:Store}(h:OwnQ st w vT vB vU NT NB NU){Oth M:Nat->Nat->Prop}{W:World}(sto:StoreOK st Oth M W){x:Value}(hx:VRel W (λb o=>M b o\/Oth b o) (.agg (D9 w vT vB vU)) x):
  VRel W (λb o=>(M b o\/Oth b o)/\st.obj b=none) (.agg (zk w)) x:=by
 obtain⟨hT,hB,hU⟩:=Vf h
 cases hx with
 |agg _ c hl hc=>
  refine .agg _ c hl λi x y hx hy=>?_
  match i with
  |0=>simp only[zk,Fak,Fag]at hx;subst hx;exact jk (hc 0 _ y rfl hy)
  |1=>simp only[zk,Fan,Fak,Fag]at hx;subst hx;exact jk (hc 1 _ y rfl hy)
  |2=>simp only[zk,Fan,Fak,Fag]at hx;subst hx;exact jk (hc 2 _ y rfl hy)
  |3=>simp only[zk,Fan,Fak,Fag]at hx;subst hx;exact jk (hc 3 _ y rfl hy)
  |4=>simp only[zk,Fan,Fak,Fag]at hx;subst hx;exact jk (hc 4 _ y rfl hy)
  |5=>simp only[zk,Fan,Fak,Fag]at hx;subst hx;exact hT.borrow Ms Rx sto (hc 5 _ y rfl hy)
  |6=>simp only[zk,Fan,Fak,Fag]at hx;subst hx;exact hB.borrow Pp bz sto (hc 6 _ y rfl hy)
  |7=>simp only[zk,Fan,Fak,Fag]at hx;subst hx;exact hU.borrow Cn Rv sto (hc 7 _ y rfl hy)
  |i+8=>simp[zk]at hx
theorem K9{a b:Store}{i:Nat}(h:(a.un b).obj i=none):a.obj i=none/\b.obj i=none:=by
 unfold Store.un at h
 dsimp only at h
 cases hb:b.obj i with
 |none=>rw[hb]at h;exact⟨h,rfl⟩
 |some y=>rw[hb]at h;cases h
theorem zu9(w:Wld)(hT:w.G.T.length<=1000000000)(hB:w.B.length<=1000000000)(hU:w.U.length<=1000000000)(R:Ja)
  (h:∀v N,RowsQ 10 zl N v w.U->R (.agg (q9 w v)) N):Jb 74 [.agg (zk w)] Store.empty R:=by
 refine(Ve w hT hB hU (λr S=>∃vT vB vU NT NB NU,OwnQ S w vT vB vU NT NB NU/\r=.agg (D9 w vT vB vU)) λS vT vB vU NT NB NU ho=>⟨vT,vB,vU,NT,NB,NU,ho,rfl⟩).frozenTo ?_
 rintro r S ⟨vT,vB,vU,NT,NB,NU,ho,rfl⟩
 have hk:∃N2:Store,RowsQ 10 zl N2 vU w.U/\(∀b x,N2.obj b=some x->NU.obj b=some x)/\(∀b x,N2.tok b≠some x):=by
  refine⟨⟨NU.obj,λ_=>none⟩,ho.rU.sub λ_ _ _ _=>rfl,λb x hx=>hx,λb x=>by simp⟩
 obtain⟨N2,hN,hsub,htok⟩:=hk
 refine⟨.agg (q9 w vU),N2,h vU N2 hN,λb x hx=>?_,htok,λOth M W v sto hx=>?_⟩
 ·rw[ho.e]
  exact yr ho.dU (hsub b x hx)
 ·obtain⟨rT,rB,rU⟩:=Vf ho
  cases hx with
  |agg _ c hl hc=>
   have mono1:∀{x:AV} {v:Value},VRel W (λb o=>M b o\/Oth b o) x v->VRel W (λb o=>(M b o\/Oth b o)/\(S.obj b=none\/N2.obj b≠none)) x v:=λh=>h.mono λ_ _ h=>h.1
   have mono2:∀{x:AV} {v:Value} {Z:Store},(∀b,N2.obj b≠none->Z.obj b=none)->(∀b,S.obj b=none->Z.obj b=none)->VRel W (λb o=>(M b o\/Oth b o)/\Z.obj b=none) x v->VRel W (λb o=>(M b o\/Oth b o)/\(S.obj b=none\/N2.obj b≠none)) x v:=λhz1 hz2 h=>h.mono λb _ h=>⟨h.1,h.2.elim (hz2 b) (hz1 b)⟩
   have hS:∀b,S.obj b=none->NU.obj b=none/\NB.obj b=none/\NT.obj b=none:=λb hb=>by
    rw[ho.e]at hb
    obtain⟨h1,h2⟩:=K9 hb
    exact⟨h1,(K9 h2).1,(K9 h2).2⟩
   have hN2:∀b,N2.obj b≠none->NB.obj b=none/\NT.obj b=none:=λb hb=>by
    cases hx:N2.obj b with
    |none=>exact absurd hx hb
    |some y=>
     have h1:=k9 (hsub b y hx)
     have h2:=kz (ho.dU b h1)
     exact⟨(K9 h2.1).1,(K9 h2.1).2⟩
   have sNB:StoreOK NB Oth M W:=sto.weaken ⟨λb x hx=>by rw[ho.e];exact zd (yr ho.dB hx),λb x hx=>by rw[ho.e];exact Fb (Ki ho.dB hx)⟩
   have sNT:StoreOK NT Oth M W:=sto.weaken ⟨λb x hx=>by rw[ho.e];exact zd (zd hx),λb x hx=>by rw[ho.e];exact Fb (Fb hx)⟩
   refine .agg _ c hl λi x y hx hy=>?_
   match i with
   |0=>simp only[q9,Fak,Fag]at hx;subst hx;exact mono1 (hc 0 _ y rfl hy)
   |1=>simp only[q9,Fan,Fak,Fag]at hx;subst hx;exact mono1 (hc 1 _ y rfl hy)
   |2=>simp only[q9,Fan,Fak,Fag]at hx;subst hx;exact mono1 (hc 2 _ y rfl hy)
   |3=>simp only[q9,Fan,Fak,Fag]at hx;subst hx;exact mono1 (hc 3 _ y rfl hy)
   |4=>simp only[q9,Fan,Fak,Fag]at hx;subst hx;exact mono1 (hc 4 _ y rfl hy)
   |5=>simp only[q9,Fan,Fak,Fag]at hx;subst hx;exact mono2 (λb hb=>(hN2 b hb).2) (λb hb=>(hS b hb).2.2) (ho.rT.borrow Ms Rx sNT (hc 5 _ y rfl hy))
   |6=>simp only[q9,Fan,Fak,Fag]at hx;subst hx;exact mono2 (λb hb=>(hN2 b hb).1) (λb hb=>(hS b hb).2.1) (ho.rB.borrow Pp bz sNB (hc 6 _ y rfl hy))
   |7=>simp only[q9,Fan,Fak,Fag]at hx;subst hx;exact mono1 (hc 7 _ y rfl hy)
   |i+8=>simp[q9]at hx
end
end Go.Proofs
namespace Go.Proofs
open Go Go.V
set_option maxRecDepth 20000
set_option maxHeartbeats 4000000
theorem Qab{p:Prop}(h:p:=by unfold jj;simp at h1⊢;omega):p:=h
theorem Cl(n lo hi:Int)(st:Store)(R:Ja)(h:∀b:Bool,(b=true↔lo<=n/\n<=hi)->R (bool b) st):Jb 237 [int n,int lo,int hi] st R:=by
 refine Qa (c:=cfg 15) zb Tryz.func237 ?_
 refine zi (λh1=>?_) (λh1=>⟨_,st,Tt,Store.Has.refl st,h _ ?_⟩)
 ·refine⟨_,st,Tt,Store.Has.refl st,h _ ?_⟩
  simp at h1⊢;omega
 ·simp at h1⊢;omega
theorem zxu(n:Int)(st:Store)(R:Ja)(h:∀b:Bool,(b=true↔0<=n/\n<=3)->R (bool b) st):Jb 216 [int n] st R:=by
 refine Qa (c:=cfg 9) zb Tryz.func216 ?_
 refine zi (λh1=>?_) (λh1=>⟨_,st,Tt,Store.Has.refl st,h _ ?_⟩)
 ·refine⟨_,st,Tt,Store.Has.refl st,h _ ?_⟩
  simp at h1⊢;omega
 ·simp at h1⊢;omega
theorem zu1(x y:Int)(st:Store)(R:Ja)(h:∀b:Bool,(b=true↔jj x y)->R (bool b) st):Jb 317 [.agg [int x,int y]] st R:=by
 refine Qa (c:=cfg 21) zb Tryz.func317 ?_
 refine zi (λh1=>?_) (λh1=>⟨_,st,Tt,Store.Has.refl st,h _ Qab⟩)
 refine zi (λh2=>?_) (λh1=>⟨_,st,Tt,Store.Has.refl st,h _ Qab⟩)
 refine zi (λh3=>?_) (λh1=>⟨_,st,Tt,Store.Has.refl st,h _ Qab⟩)
 refine⟨_,st,Tt,Store.Has.refl st,h _ ?_⟩
 unfold jj
 simp at h1 h2 h3⊢;omega
theorem Rw(l:List Int)(hl:l.length<=1000000000000)(st:Store)(R:Ja)(h:∀b:Bool,(b=true↔Aw l)->R (bool b) st):Jb 318 [yg l] st R:=by
 refine Qa (c:=cfg 40) zb Tryz.func318 ?_
 refine AWp.loop (σ:=Nat) ⟨λi=>[(0,.av (yg l)),(5,.av (yg l)),(6,.av (int l.length)),(7,.av (int i))],λ_=>[],
  λi st'=>i<=l.length/\st'=st/\∀j,j<i->(1<=l.getD j 0/\l.getD j 0<=1099511627776)/\(0<j->l.getD (j-1) 0<l.getD j 0),λi=>l.length-i⟩ zb ?_ ?_
 ·refine⟨0,Tv,⟨Faf _,rfl,λj hj=>by omega⟩,⟨Tq,Tq,?_,Tq,Tv⟩,Tv⟩
  rw[<-zh (f:=zu) l]
  exact Tq
 ·rintro i st' ⟨hi,rfl,hall⟩
  refine zi (λh1=>?_) (λh1=>?_)
  ·have hlt:i<l.length:=by simpa using h1
   have hget:l.getD i 0=l[i]:=by simp[hlt]
   refine⟨i,rfl,za _ (zw hlt) ?_⟩
   have bad:¬((1<=l.getD i 0/\l.getD i 0<=1099511627776)/\(0<i->l.getD (i-1) 0<l.getD i 0))->∀b:Bool,b=false->(b=true↔Aw l):=by
    rintro hb _ rfl
    simp only[Fai,false_iff]
    exact λhu=>hb (hu.2 i hlt)
   have go:((1<=l.getD i 0/\l.getD i 0<=1099511627776)/\(0<i->l.getD (i-1) 0<l.getD i 0))->∀j,j<i+1->(1<=l.getD j 0/\l.getD j 0<=1099511627776)/\(0<j->l.getD (j-1) 0<l.getD j 0):=by
    intro hb j hj
    by_cases hji:j=i
    ·subst hji;exact hb
    ·exact hall j (by omega)
   refine zi (λh2=>⟨_,st',Tt,Store.Has.refl st',h _ (bad (by rw[hget];simp at h2;omega) _ rfl)⟩) (λh2=>?_)
   refine zi (λh3=>⟨_,st',Tt,Store.Has.refl st',h _ (bad (by rw[hget];simp at h3;omega) _ rfl)⟩) (λh3=>?_)
   refine zi (λh4=>?_) (λh4=>?_)
   ·have h4:0<i:=by simpa using h4
    have hget1:l.getD (i-1) 0=l[i-1]:=by simp[show i-1<l.length by omega]
    refine⟨⟨by omega,by omega⟩,?_⟩
    refine⟨i-1,by omega,za _ (zw (show i-1<l.length by omega)) ?_⟩
    refine zi (λh5=>⟨_,st',Tt,Store.Has.refl st',h _ (bad (by rw[hget,hget1];simp at h5;omega) _ rfl)⟩) (λh5=>?_)
    refine⟨⟨by omega,by omega⟩,?_⟩
    refine⟨i+1,?_,⟨hlt,rfl,go (by rw[hget,hget1];simp at h2 h3 h5;omega)⟩,Qao,Tv⟩
    show l.length-(i+1)<l.length-i
    omega
   ·refine⟨⟨by omega,by omega⟩,?_⟩
    refine⟨i+1,?_,⟨hlt,rfl,go (by rw[hget];simp at h2 h3 h4;omega)⟩,Qao,Tv⟩
    show l.length-(i+1)<l.length-i
    omega
  ·have hge:i=l.length:=by
    have:¬i<l.length:=by simpa using h1
    omega
   subst hge
   refine zi (λh2=>⟨_,st',Tt,Store.Has.refl st',h _ ?_⟩) (λh2=>⟨_,st',Tt,Store.Has.refl st',h _ ?_⟩)
   ·rw[zh]at h2⊢
    unfold Aw
    simp only[decide_eq_true_eq]at h2⊢
    constructor
    ·intro h3
     exact⟨by omega,hall⟩
    ·intro h3
     omega
   ·rw[zh]at h2
    unfold Aw
    simp only[decide_eq_false_iff_not]at h2
    simp only[Fai,false_iff]
    intro h3
    omega
theorem Qac{p:Prop}(h:p:=by simp only[Fai,false_iff]at hb0⊢;simp[ju,idP,hb0]):p:=h
theorem Qad{p:Prop}(h:p:=by have q0:=hb0.1 rfl;rw[hb1];simp[ju,idP,q0]):p:=h
theorem zvm(c:Cmd)(hc:c.fits)(st:Store)(R:Ja)(h:∀b:Bool,(b=true↔c.okP)->R (.tup [.agg (yo c.only),bool b]) st):Jb 236 [.agg (yo c)] st R:=by
 refine Qa (c:=cfg 119) zb Tryz.func236 ?_
 refine zi (λk1=>?_) (λk1=>?_)
 ·have k1:c.K=1:=by simpa using k1
  have fin:∀b:Bool,(b=true↔_)->R (.tup [.agg (yo _),bool b]) st:=λb hb=>h b (hb.trans (Cmd.ok1 k1).symm)
  rw[Cmd.only1 k1]at fin
  refine Qc zb zrr ?_
  refine Qar ?_
  refine Qas ?_
  refine zxu c.N _ _ (λb0 hb0=>?_)
  cases b0 with
  |false=>
   refine⟨_,st,?_,Store.Has.refl st,fin false Qac⟩
   exact AV.le_tupL ⟨AV.le_aggL ⟨Tt,Tt,Tt,Tt,AV.le_nil 1,Tt,Tt,Tt,Tt,Tt,Tv⟩,Tt,Tv⟩
  |true=>
   refine zu1 c.X c.Y _ _ (λb1 hb1=>?_)
   refine⟨_,st,?_,Store.Has.refl st,fin b1 Qad⟩
   exact AV.le_tupL ⟨AV.le_aggL ⟨Tt,Tt,Tt,Tt,AV.le_nil 1,Tt,Tt,Tt,Tt,Tt,Tv⟩,Tt,Tv⟩
 have k1:c.K≠1:=by simpa using k1
 refine zi (λk2=>?_) (λk2=>?_)
 ·have k2:c.K=2:=by simpa using k2
  have fin:∀b:Bool,(b=true↔_)->R (.tup [.agg (yo _),bool b]) st:=λb hb=>h b (hb.trans (Cmd.ok2 k2).symm)
  rw[Cmd.only2 k2]at fin
  refine Qc zb zrq ?_
  refine Qar ?_
  refine Qas ?_
  refine Rw c.U hc _ _ (λb0 hb0=>?_)
  cases b0 with
  |false=>
   refine⟨_,st,?_,Store.Has.refl st,fin false Qac⟩
   exact AV.le_tupL ⟨AV.le_aggL ⟨Tt,Tt,Tt,Tt,Tt,Tt,Tt,Tt,Tt,Tt,Tv⟩,Tt,Tv⟩
  |true=>
   refine Cl c.T 0 16383 _ _ (λb1 hb1=>?_)
   refine⟨_,st,?_,Store.Has.refl st,fin b1 Qad⟩
   exact AV.le_tupL ⟨AV.le_aggL ⟨Tt,Tt,Tt,Tt,Tt,Tt,Tt,Tt,Tt,Tt,Tv⟩,Tt,Tv⟩
 have k2:c.K≠2:=by simpa using k2
 refine zi (λk3=>?_) (λk3=>?_)
 ·have k3:c.K=3:=by simpa using k3
  have fin:∀b:Bool,(b=true↔_)->R (.tup [.agg (yo _),bool b]) st:=λb hb=>h b (hb.trans (Cmd.ok3 k3).symm)
  rw[Cmd.only3 k3]at fin
  refine Rw c.U hc _ _ (λb0 hb0=>?_)
  refine⟨_,st,?_,Store.Has.refl st,fin b0 (hb0)⟩
  exact AV.le_tupL ⟨AV.le_aggL ⟨Tt,Tt,Tt,Tt,Tt,Tt,Tt,Tt,Tt,Tt,Tv⟩,Tt,Tv⟩
 have k3:c.K≠3:=by simpa using k3
 refine zi (λk4=>?_) (λk4=>?_)
 ·have k4:c.K=4:=by simpa using k4
  have fin:∀b:Bool,(b=true↔_)->R (.tup [.agg (yo _),bool b]) st:=λb hb=>h b (hb.trans (Cmd.ok4 k4).symm)
  rw[Cmd.only4 k4]at fin
  refine Qc zb zru ?_
  refine Qar ?_
  refine Qar ?_
  refine Qas ?_
  refine Cl c.T 0 16383 _ _ (λb0 hb0=>?_)
  cases b0 with
  |false=>
   refine⟨_,st,?_,Store.Has.refl st,fin false Qac⟩
   exact AV.le_tupL ⟨AV.le_aggL ⟨Tt,Tt,Tt,Tt,AV.le_nil 1,Tt,Tt,Tt,Tt,Tt,Tv⟩,Tt,Tv⟩
  |true=>
   refine Cl c.W 1 4 _ _ (λb1 hb1=>?_)
   cases b1 with
   |false=>
    refine⟨_,st,?_,Store.Has.refl st,fin false (by simp only[Fai,false_iff]at hb1⊢;simp[ju,idP,hb1])⟩
    exact AV.le_tupL ⟨AV.le_aggL ⟨Tt,Tt,Tt,Tt,AV.le_nil 1,Tt,Tt,Tt,Tt,Tt,Tv⟩,Tt,Tv⟩
   |true=>
    refine Cl c.H 1 4 _ _ (λb2 hb2=>?_)
    refine⟨_,st,?_,Store.Has.refl st,fin b2 (by have q0:=hb0.1 rfl;have q1:=hb1.1 rfl;rw[hb2];simp[ju,idP,q0,q1])⟩
    exact AV.le_tupL ⟨AV.le_aggL ⟨Tt,Tt,Tt,Tt,AV.le_nil 1,Tt,Tt,Tt,Tt,Tt,Tv⟩,Tt,Tv⟩
 have k4:c.K≠4:=by simpa using k4
 refine zi (λk5=>?_) (λk5=>?_)
 ·have k5:c.K=5:=by simpa using k5
  have fin:∀b:Bool,(b=true↔_)->R (.tup [.agg (yo _),bool b]) st:=λb hb=>h b (hb.trans (Cmd.ok5 k5).symm)
  rw[Cmd.only5 k5]at fin
  refine Cl c.N 1 1099511627776 _ _ (λb0 hb0=>?_)
  refine⟨_,st,?_,Store.Has.refl st,fin b0 (hb0)⟩
  exact AV.le_tupL ⟨AV.le_aggL ⟨Tt,Tt,Tt,Tt,AV.le_nil 1,Tt,Tt,Tt,Tt,Tt,Tv⟩,Tt,Tv⟩
 have k5:c.K≠5:=by simpa using k5
 refine zi (λk6=>?_) (λk6=>?_)
 ·have k6:c.K=6:=by simpa using k6
  have fin:∀b:Bool,(b=true↔_)->R (.tup [.agg (yo _),bool b]) st:=λb hb=>h b (hb.trans (Cmd.ok6 k6).symm)
  rw[Cmd.only6 k6]at fin
  refine Qc zb zrt ?_
  refine Qar ?_
  refine Qas ?_
  refine Rw c.U hc _ _ (λb0 hb0=>?_)
  cases b0 with
  |false=>
   refine⟨_,st,?_,Store.Has.refl st,fin false Qac⟩
   exact AV.le_tupL ⟨AV.le_aggL ⟨Tt,Tt,Tt,Tt,Tt,Tt,Tt,Tt,Tt,Tt,Tv⟩,Tt,Tv⟩
  |true=>
   refine Cl c.N 1 1099511627776 _ _ (λb1 hb1=>?_)
   refine⟨_,st,?_,Store.Has.refl st,fin b1 Qad⟩
   exact AV.le_tupL ⟨AV.le_aggL ⟨Tt,Tt,Tt,Tt,Tt,Tt,Tt,Tt,Tt,Tt,Tv⟩,Tt,Tv⟩
 have k6:c.K≠6:=by simpa using k6
 refine zi (λk7=>?_) (λk7=>?_)
 ·have k7:c.K=7:=by simpa using k7
  have fin:∀b:Bool,(b=true↔_)->R (.tup [.agg (yo _),bool b]) st:=λb hb=>h b (hb.trans (Cmd.ok7 k7).symm)
  rw[Cmd.only7 k7]at fin
  refine Qc zb zrs ?_
  refine Qar ?_
  refine Qas ?_
  refine Cl c.N 1 1099511627776 _ _ (λb0 hb0=>?_)
  cases b0 with
  |false=>
   refine⟨_,st,?_,Store.Has.refl st,fin false Qac⟩
   exact AV.le_tupL ⟨AV.le_aggL ⟨Tt,Tt,Tt,Tt,AV.le_nil 1,Tt,Tt,Tt,Tt,Tt,Tv⟩,Tt,Tv⟩
  |true=>
   refine Cl c.T 0 16383 _ _ (λb1 hb1=>?_)
   refine⟨_,st,?_,Store.Has.refl st,fin b1 Qad⟩
   exact AV.le_tupL ⟨AV.le_aggL ⟨Tt,Tt,Tt,Tt,AV.le_nil 1,Tt,Tt,Tt,Tt,Tt,Tv⟩,Tt,Tv⟩
 have k7:c.K≠7:=by simpa using k7
 have fin:R (.tup [.agg (yo c.only),bool false]) st:=h false (by simpa using Cmd.ok0 k1 k2 k3 k4 k5 k6 k7)
 rw[Cmd.only0 k1 k2 k3 k4 k5 k6 k7]at fin
 refine⟨_,st,?_,Store.Has.refl st,fin⟩
 exact AV.le_tupL ⟨AV.le_aggL ⟨Tt,Tt,Tt,Tt,AV.le_nil 1,Tt,Tt,Tt,Tt,Tt,Tv⟩,Tt,Tv⟩
theorem ycp(c:Cmd)(hc:c.fits)(st:Store)(R:Ja)(h:∀b:Bool,(b=true↔wk c)->R (bool b) st):Jb 155 [.agg (yo c)] st R:=by
 refine Qa (c:=cfg 65) zb Tryz.func155 ?_
 refine zvm c hc _ _ (λb hb=>?_)
 have no:¬wk c->R (bool false) st:=λhn=>h false (by simpa using hn)
 cases b with
 |false=>exact⟨_,st,Tt,Store.Has.refl st,no (λhp=>by have:=hb.2 hp.1;cases this)⟩
 |true=>
  refine Cl c.P 1 8 _ _ (λb1 hb1=>?_)
  cases b1 with
  |false=>exact⟨_,st,Tt,Store.Has.refl st,no (λhp=>by have:=hb1.2 hp.2.1;cases this)⟩
  |true=>
   refine Cl c.S 0 1099511627776 _ _ (λb2 hb2=>?_)
   cases b2 with
   |false=>exact⟨_,st,Tt,Store.Has.refl st,no (λhp=>by have:=hb2.2 hp.2.2.1;cases this)⟩
   |true=>
    have hP:c.only.P=c.P/\c.only.S=c.S/\c.only.K=c.K/\(c.only.U=c.U\/c.only.U=[]):=by
     unfold Cmd.only
     repeat' split
     all_goals exact⟨rfl,rfl,rfl,by simp⟩
    refine zi (λw1=>?_) (λw1=>⟨_,st,Tt,Store.Has.refl st,no (λhp=>by rw[hp.2.2.2]at w1;simp at w1)⟩)
    refine zi (λw2=>?_) (λw2=>⟨_,st,Tt,Store.Has.refl st,no (λhp=>by rw[hp.2.2.2]at w2;simp at w2)⟩)
    refine zi (λw3=>?_) (λw3=>⟨_,st,Tt,Store.Has.refl st,no (λhp=>by rw[hp.2.2.2]at w3;simp at w3)⟩)
    refine zi (λw4=>?_) (λw4=>⟨_,st,Tt,Store.Has.refl st,no (λhp=>by rw[hp.2.2.2]at w4;simp at w4)⟩)
    refine zi (λw5=>?_) (λw5=>⟨_,st,Tt,Store.Has.refl st,no (λhp=>by rw[hp.2.2.2]at w5;simp at w5)⟩)
    refine⟨_,st,Tt,Store.Has.refl st,h _ ?_⟩
    rw[zh,zh]
    constructor
    ·intro w6
     refine⟨hb.1 rfl,hb1.1 rfl,hb2.1 rfl,?_⟩
     have hU:c.only.U=c.U:=by
      rcases hP.2.2.2 with e|e
      ·exact e
      ·rw[e]at w6
       simp at w6
       rw[e,eq_comm,<-List.length_eq_zero_iff]
       omega
     simp only[beq_iff_eq,Fau,and_true]at w1 w2 w3 w4 w5
     exact Cmd.eq_of hP.1 hP.2.1 hP.2.2.1 w1 hU w3 w4 w5 w2.1 w2.2
    ·intro hp
     rw[hp.2.2.2]
     simp
section
variable {G:Store} {s p:Nat} {w:Wld} {v o0 o1 o2:AV}
theorem xm{i:TI}{cells row rest:List AV}{K:LV->Prop}(ha:ww i.ty=true)(hs:i.size=row.length)(hc:cells=row++rest)(h:K (.av (.agg row))):partK i cells K:=by
 subst hc
 unfold partK
 rw[ha,cond_true,hs]
 have:Nat.ble row.length (row++rest).length=true:=by simp
 rw[this,cond_true]
 refine Hf ?_
 rw[Fcl (Fah _),Fap]
 exact h
theorem Sm{α:Type}{k:Nat}{f:α->List AV}(hf:∀x,(f x).length=k){l:List α}{L:List AV}{i:Nat}(hi:i<l.length):List.drop (0+i*k) ((rws f l).flatten++L)=f l[i]++((rws f (l.drop (i+1))).flatten++L):=by
 have h1:(rws f (l.take i)).flatten.length=i*k:=by rw[Fi hf,Fal,Nat.min_eq_left (by omega)]
 rw[Fbm,Na hi,Faz,<-h1,List.drop_left,Faz]
theorem ydc{S:Store}(R:Ja)(h:∀F p,ja F p []->zg F S->R (ptr p) (F.un S)):Jb 132 [] S R:=by
 have:=ACalls.frame (a:=Store.empty) (g:=S) (λi h1=>by rcases h1 with h1|h1<;>exact absurd rfl h1) (si (λr a'=>∃p,r=ptr p/\ja a' p []) (λa p h=>⟨p,rfl,h⟩)) (R':=R) (λr a' ⟨p,e,hc⟩ hd=>e▸h a' p hc hd)
 rwa [Al]at this
def svC(w:Wld)(v o0 o1 o2:AV)(p:Nat):List AV:=q9 w v++[o0,o1,o2,ptr p]
def svS(G:Store)(s:Nat)(w:Wld)(v o0 o1 o2:AV)(p:Nat):Store:=G.sO s (.cells (svC w v o0 o1 o2 p))
structure StandR(F G:Store)(s p:Nat)(w:Wld)(v:AV)(L:List Ent)(o0 o1 o2:AV):Prop where
 hc:ja F p L
 hd:zg F (svS G s w v o0 o1 o2 p)
 hs:G.obj s=none
 hu:RowsQ 10 zl G v w.U
 h0:Ih w 0 o0
 h1:Ih w 1 o1
 h2:Ih w 2 o2
theorem Ay(G:Store)(s:Nat)(w:Wld)(v o0 o1 o2:AV)(p:Nat):(svS G s w v o0 o1 o2 p).obj s=some (.cells (svC w v o0 o1 o2 p)):=zc _ _ _
theorem R9{u:AV}{l:List Unt}(hs:G.obj s=none)(h:RowsQ 10 zl G u l):RowsQ 10 zl (svS G s w v o0 o1 o2 p) u l:=by
 rcases h with(h|⟨b,cap,L,h1,h2,h3⟩)|h
 ·exact .inl (.inl h)
 ·refine .inl (.inr ⟨b,cap,L,h1,?_,h3⟩)
  have:b≠s:=λe=>by subst e;rw[hs]at h2;cases h2
  show(G.sO s _).obj b=_
  rw[zf this]
  exact h2
 ·exact .inr h
theorem svS_has{i:Nat}:(svS G s w v o0 o1 o2 p).has i↔i=s\/G.has i:=by
 unfold svS Store.has
 by_cases hi:i=s
 ·subst hi
  simp[zc]
 ·rw[zf hi]
  simp[hi,Store.sO]
theorem W5{F:Store}{w':Wld}{v' q0 q1 q2:AV}(h:zg F (svS G s w v o0 o1 o2 p)):zg F (svS G s w' v' q0 q1 q2 p):=λi h1 h2=>h i h1 (svS_has.2 (svS_has.1 h2))
theorem zvk(w:Wld)(v:AV)(G:Store)(hu:RowsQ 10 zl G v w.U)(hU:w.U.length<=1000000)(hn:∀u∈w.U,u.pos.ok)(R:Ja)
  (h:∀F s p L o0 o1 o2,Fresh G s->StandR F G s p w v L o0 o1 o2->L.length<=w.U.length->(yi w.U->∀e,e∈L↔∃u∈w.U,u.inn=0/\e=(u.id,u.pos))->R (ptr s) (F.un (svS G s w v o0 o1 o2 p))):Jb 73 [.agg (q9 w v)] G R:=by
 obtain⟨oa,cap,hv,hget⟩:=hu.form
 subst hv
 refine Qa (c:=cfg 31 [9] []) zb Tryz.func73 ?_
 refine Qc zb gn ?_
 refine⟨ydc _ (λF p hc hdF=>⟨Qe,?_⟩),Tv⟩
 refine⟨λs hs=>⟨Tv,?_⟩,Tv⟩
 refine Qas ?_
 have hs1:¬F.has s/\¬G.has s:=by
  have:=fresh_iff.1 hs
  exact⟨λh=>this (un_has.2 (.inl h)),λh=>this (un_has.2 (.inr h))⟩
 have hsG:G.obj s=none:=(kz hs1.2).1
 have e0:(F.un G).sO s (.cells (svC w (.s (.slice oa w.U.length cap)) (.s (.slice none 0 0)) (.s (.slice none 0 0)) (.s (.slice none 0 0)) p))=F.un (svS G s w (.s (.slice oa w.U.length cap)) (.s (.slice none 0 0)) (.s (.slice none 0 0)) (.s (.slice none 0 0)) p):=by
  exact zo F G s _
 have h0:StandR F G s p w (.s (.slice oa w.U.length cap)) [] (.s (.slice none 0 0)) (.s (.slice none 0 0)) (.s (.slice none 0 0)):=⟨hc,λi h1 h2=>by
  rcases svS_has.1 h2 with rfl|h2
  ·exact hs1.1 h1
  ·exact hdF i h1 h2,hsG,hu,.inl rfl,.inl rfl,.inl rfl⟩
 have hsf:Fresh G s:=fresh_iff.2 hs1.2
 refine AWp.loop (σ:=Nat×Store×List Ent) ⟨λq=>[(3,.av (ptr s)),(11,.av (.s (.slice oa w.U.length cap))),(12,.av (int (w.U.length:Nat))),(13,.av (int (q.1:Nat)))],λ_=>[],
  λq st'=>st'=q.2.1.un (svS G s w (.s (.slice oa w.U.length cap)) (.s (.slice none 0 0)) (.s (.slice none 0 0)) (.s (.slice none 0 0)) p)/\StandR q.2.1 G s p w (.s (.slice oa w.U.length cap)) q.2.2 (.s (.slice none 0 0)) (.s (.slice none 0 0)) (.s (.slice none 0 0))/\q.1<=w.U.length/\q.2.2.length<=q.1/\(∀e∈q.2.2,e.2.ok)/\(yi w.U->∀e,e∈q.2.2↔∃u∈w.U.take q.1,u.inn=0/\e=(u.id,u.pos)),λq=>w.U.length-q.1⟩ zb ?_ ?_
 ·exact⟨(0,F,[]),Tv,⟨e0,h0,Faf _,Fah _,λe he=>(by cases he),λ_ e=>(by simp)⟩,Qao,Tv⟩
 rintro⟨i,F1,L⟩ st' ⟨rfl,hS,hi,hL,hok,hmem⟩
 dsimp only at hS hi hL hok hmem⊢
 refine bcd (λh1=>?_) (λh1=>?_)
 rotate_left
 ·have:i=w.U.length:=by omega
  subst this
  rw[Fap]at hmem
  exact ret (h F1 s p L _ _ _ hsf hS hL hmem)
 have hlt:i<w.U.length:=by omega
 obtain⟨b,J,rfl,hob0⟩:=hget i hlt
 have hbs:b≠s:=λe=>by subst e;rw[hsG]at hob0;cases hob0
 have hob:(F1.un (svS G s w (.s (.slice (some ⟨b,0,none⟩) w.U.length cap)) (.s (.slice none 0 0)) (.s (.slice none 0 0)) (.s (.slice none 0 0)) p)).obj b=some (.cells ((rws zl w.U).flatten++J)):=zd (by
  show(G.sO s _).obj b=_
  rw[zf hbs];exact hob0)
 refine⟨i,rfl,hlt,?_⟩
 refine za (o:=(F1.un (svS G s w _ _ _ _ p)).obj b) _ hob ?_
 refine xm (i:=ti37) (row:=zl w.U[i]) rfl rfl (Sm Cn hlt) ?_
 have hn2:=hn w.U[i] (Faa hlt)
 refine qf (λc1=>?_) (λc1=>?_)
 ·refine Qc zb gm ?_
  refine za (o:=(F1.un (svS G s w _ _ _ _ p)).obj s) _ (zd (Ay G s w _ _ _ _ p)) ?_
  refine⟨bq hS.hc hS.hd (by omega) hok w.U[i].id w.U[i].pos hn2 _ (λF2 h2 h3=>⟨Tv,?_⟩),Tv⟩
  have hlen:(yz L w.U[i].id++[(w.U[i].id,w.U[i].pos)]).length<=i+1:=by
   rw[Fad]
   have:(yz L w.U[i].id).length<=L.length:=Fb2 _ _
   simp only[Fbc];omega
  refine Qd ?_
  refine⟨(i+1,F2,_),?_,⟨rfl,⟨h2,h3,hsG,hu,.inl rfl,.inl rfl,.inl rfl⟩,by dsimp only;omega,hlen,λe he=>?_,λhr e=>?_⟩,⟨Tq,Tq,Tq,Tq,Tv⟩,Tv⟩
  ·show w.U.length-(i+1)<w.U.length-i
   omega
  ·rcases Fas.1 he with he|he
   ·exact hok e (mem_dropId.1 he).1
   ·simp at he;subst he;exact hn2
  ·dsimp only
   rw[Fac hlt,Fas,mem_dropId,hmem hr e]
   constructor
   ·rintro(⟨⟨u,hu,h4⟩,_⟩|he)
    ·exact⟨u,Fas.2 (.inl hu),h4⟩
    ·simp at he
     exact⟨w.U[i],Fas.2 (.inr (by simp)),c1,he⟩
   ·rintro⟨u,hu,h4,h5⟩
    rcases Fas.1 hu with hu|hu
    ·refine .inl ⟨⟨u,hu,h4,h5⟩,?_⟩
     obtain⟨j,hj,rfl⟩:=Faj hu
     rw[Fal]at hj
     rw[Fc7]at h5
     have:=So hr (a:=j) (b:=i) (by omega) hlt
     subst h5
     show w.U[j].id≠w.U[i].id
     omega
    ·simp at hu
     subst hu
     exact .inr (by simp[h5])
 ·refine Qd ?_
  refine⟨(i+1,F1,L),?_,⟨rfl,hS,by dsimp only;omega,by dsimp only;omega,hok,λhr e=>?_⟩,Qao,Tv⟩
  ·show w.U.length-(i+1)<w.U.length-i
   omega
  ·dsimp only
   rw[hmem hr e,Fac hlt]
   constructor
   ·rintro⟨u,hu,h3⟩;exact⟨u,Fas.2 (.inl hu),h3⟩
   ·rintro⟨u,hu,h3,h4⟩
    rcases Fas.1 hu with hu|hu
    ·exact⟨u,hu,h3,h4⟩
    ·simp at hu
     subst hu
     exact absurd h3 c1
end
section
variable {F G:Store} {s p:Nat} {w:Wld} {v o0 o1 o2:AV}
theorem zpe{L:List Ent}(hS:StandR F G s p w v L o0 o1 o2)(hg:zp w.G)(hB:w.B.length<=1000000000000)(hb:∀b∈w.B,y9 b/\onP w.G b)(c:Int)(hc:c=0\/c=1\/c=2)(R:Ja)
  (h:∀q0 q1 q2,StandR F G s p w v L q0 q1 q2->R (opV w.G w.B c) (F.un (svS G s w v q0 q1 q2 p))):Jb 219 [ptr s,int c] (F.un (svS G s w v o0 o1 o2 p)) R:=by
 have ho:=zd (a:=F) (Ay G s w v o0 o1 o2 p)
 obtain⟨x0,y0,hne0⟩:=Bf hg w.B 0
 obtain⟨x1,y1,hne1⟩:=Bf hg w.B 1
 obtain⟨x2,y2,hne2⟩:=Bf hg w.B 2
 rcases hc with rfl|rfl|rfl
 ·rcases hS.h0 with e|e
  ·subst e
   refine Qa (c:=cfg 35) zb Tryz.func219 ?_
   refine⟨0,rfl,by decide,?_⟩
   refine za (o:=(F.un (svS G s w v _ _ _ p)).obj s) _ ho ?_
   refine Qc zb H6 ?_
   refine za (o:=(F.un (svS G s w v _ _ _ p)).obj s) _ ho ?_
   refine za (o:=(F.un (svS G s w v _ _ _ p)).obj s) _ ho ?_
   refine⟨Hi w.G hg w.B hB hb 0 _ _ ⟨Tv,?_⟩,Tv⟩
   refine⟨0,rfl,by decide,?_⟩
   have ho2:=zd (a:=F) (Ay G s w v (opV w.G w.B 0) o1 o2 p)
   have hc2:=I7 (Bf hg w.B 0)
   refine⟨?_,Tv⟩
   refine za _ rfl (qy rfl (qw (v:=opV w.G w.B 0) rfl rfl rfl rfl ?_))
   refine yn (i:=ti50) (v:=opV w.G w.B 0) (b:=s) (o:=0+8+0*ti50.size) (l:=svC w v _ o1 o2 p) (st2:=F.un (svS G s w v (opV w.G w.B 0) o1 o2 p)) hc2.1 hc2.2 rfl ho (show 8+1<=12 by decide) ?_ ?_
   ·rw[zo]
    unfold svS
    rw[yl]
    rfl
   refine⟨Tv,?_⟩
   refine⟨0,rfl,by decide,?_⟩
   refine za (o:=(F.un (svS G s w v _ _ _ p)).obj s) _ ho2 ?_
   exact ret (h _ _ _ ⟨hS.hc,W5 hS.hd,hS.hs,hS.hu,.inr rfl,hS.h1,hS.h2⟩)
  ·rw[hne0]at e
   subst e
   refine Qa (c:=cfg 35) zb Tryz.func219 ?_
   refine⟨0,rfl,by decide,?_⟩
   refine za (o:=(F.un (svS G s w v _ _ _ p)).obj s) _ ho ?_
   refine λbb hbb=>?_
   have hbf:bb=false:=by grind
   subst hbf
   refine⟨0,rfl,by decide,?_⟩
   refine za (o:=(F.un (svS G s w v _ _ _ p)).obj s) _ ho ?_
   refine ret ?_
   have:=h _ _ _ hS
   rw[hne0]at this
   exact this
 ·rcases hS.h1 with e|e
  ·subst e
   refine Qa (c:=cfg 35) zb Tryz.func219 ?_
   refine⟨1,rfl,by decide,?_⟩
   refine za (o:=(F.un (svS G s w v _ _ _ p)).obj s) _ ho ?_
   refine Qc zb H6 ?_
   refine za (o:=(F.un (svS G s w v _ _ _ p)).obj s) _ ho ?_
   refine za (o:=(F.un (svS G s w v _ _ _ p)).obj s) _ ho ?_
   refine⟨Hi w.G hg w.B hB hb 1 _ _ ⟨Tv,?_⟩,Tv⟩
   refine⟨1,rfl,by decide,?_⟩
   have ho2:=zd (a:=F) (Ay G s w v o0 (opV w.G w.B 1) o2 p)
   have hc2:=I7 (Bf hg w.B 1)
   refine⟨?_,Tv⟩
   refine za _ rfl (qy rfl (qw (v:=opV w.G w.B 1) rfl rfl rfl rfl ?_))
   refine yn (i:=ti50) (v:=opV w.G w.B 1) (b:=s) (o:=0+8+1*ti50.size) (l:=svC w v o0 _ o2 p) (st2:=F.un (svS G s w v o0 (opV w.G w.B 1) o2 p)) hc2.1 hc2.2 rfl ho (show 9+1<=12 by decide) ?_ ?_
   ·rw[zo]
    unfold svS
    rw[yl]
    rfl
   refine⟨Tv,?_⟩
   refine⟨1,rfl,by decide,?_⟩
   refine za (o:=(F.un (svS G s w v _ _ _ p)).obj s) _ ho2 ?_
   exact ret (h _ _ _ ⟨hS.hc,W5 hS.hd,hS.hs,hS.hu,hS.h0,.inr rfl,hS.h2⟩)
  ·rw[hne1]at e
   subst e
   refine Qa (c:=cfg 35) zb Tryz.func219 ?_
   refine⟨1,rfl,by decide,?_⟩
   refine za (o:=(F.un (svS G s w v _ _ _ p)).obj s) _ ho ?_
   refine λbb hbb=>?_
   have hbf:bb=false:=by grind
   subst hbf
   refine⟨1,rfl,by decide,?_⟩
   refine za (o:=(F.un (svS G s w v _ _ _ p)).obj s) _ ho ?_
   refine ret ?_
   have:=h _ _ _ hS
   rw[hne1]at this
   exact this
 ·rcases hS.h2 with e|e
  ·subst e
   refine Qa (c:=cfg 35) zb Tryz.func219 ?_
   refine⟨2,rfl,by decide,?_⟩
   refine za (o:=(F.un (svS G s w v _ _ _ p)).obj s) _ ho ?_
   refine Qc zb H6 ?_
   refine za (o:=(F.un (svS G s w v _ _ _ p)).obj s) _ ho ?_
   refine za (o:=(F.un (svS G s w v _ _ _ p)).obj s) _ ho ?_
   refine⟨Hi w.G hg w.B hB hb 2 _ _ ⟨Tv,?_⟩,Tv⟩
   refine⟨2,rfl,by decide,?_⟩
   have ho2:=zd (a:=F) (Ay G s w v o0 o1 (opV w.G w.B 2) p)
   have hc2:=I7 (Bf hg w.B 2)
   refine⟨?_,Tv⟩
   refine za _ rfl (qy rfl (qw (v:=opV w.G w.B 2) rfl rfl rfl rfl ?_))
   refine yn (i:=ti50) (v:=opV w.G w.B 2) (b:=s) (o:=0+8+2*ti50.size) (l:=svC w v o0 o1 _ p) (st2:=F.un (svS G s w v o0 o1 (opV w.G w.B 2) p)) hc2.1 hc2.2 rfl ho (show 10+1<=12 by decide) ?_ ?_
   ·rw[zo]
    unfold svS
    rw[yl]
    rfl
   refine⟨Tv,?_⟩
   refine⟨2,rfl,by decide,?_⟩
   refine za (o:=(F.un (svS G s w v _ _ _ p)).obj s) _ ho2 ?_
   exact ret (h _ _ _ ⟨hS.hc,W5 hS.hd,hS.hs,hS.hu,hS.h0,hS.h1,.inr rfl⟩)
  ·rw[hne2]at e
   subst e
   refine Qa (c:=cfg 35) zb Tryz.func219 ?_
   refine⟨2,rfl,by decide,?_⟩
   refine za (o:=(F.un (svS G s w v _ _ _ p)).obj s) _ ho ?_
   refine λbb hbb=>?_
   have hbf:bb=false:=by grind
   subst hbf
   refine⟨2,rfl,by decide,?_⟩
   refine za (o:=(F.un (svS G s w v _ _ _ p)).obj s) _ ho ?_
   refine ret ?_
   have:=h _ _ _ hS
   rw[hne2]at this
   exact this
theorem yap(cs:List Value):O6 (.tup (cs.map AV.s)):=by
 intro w T w' T' v h
 cases h with
 |tup _ c hl h=>
  refine .tup _ c hl λi x y hx hy=>?_
  rw[Fam]at hx
  cases hc:cs[i]? with
  |none=>rw[hc]at hx;cases hx
  |some z=>
   rw[hc]at hx
   cases hx
   have:=h i (.s z) y (by grind) hy
   cases this
   exact .s _
theorem s9{g:Store}{l:List Unt}(hv:RowsQ 10 zl g v l)(hl:l.length<=1000000000000)(hr:yi l)(id:Int)(R:Ja)
  (h:∀i,Lh l id i->∀z:Bool,(z=true↔∃hi:i<l.length,l[i].id=id)->R (.tup [int (i:Nat),V.bool z]) g):Jb 75 [v,int id] g R:=
 ACalls.read (ys:=[lst 10 zl l,int id]) (Q:=λr=>∃(i:Nat) (z:Bool),r=.tup [int (i:Nat),V.bool z]/\Lh l id i/\(z=true↔∃hi:i<l.length,l[i].id=id)) (λOth M W vs sto hr=>by
  obtain⟨x,y,rfl,h1,h2⟩:=Ia hr
  exact Reads.cons (hv.borrow Cn Rv sto h1) (Reads.cons (jk h2) Reads.nil)) (b8 l hl hr id _ _ λi hi z hz=>⟨i,z,rfl,hi,hz⟩) (λr ⟨i,z,e,_⟩=>e▸yap [_,_]) (λr ⟨i,z,e,hi,hz⟩=>e▸h i hi z hz)
theorem f8{L:List Ent}(hS:StandR F G s p w v L o0 o1 o2)(hr:yi w.U)(hU:w.U.length<=1000000)(hn:∀u∈w.U,u.pos.ok)(hLl:L.length<=w.U.length)(hL:Bv w L)(q:Vc)(hq:q.ok)(r:Int)(hrr:0<r/\r<=262144)(R:Ja)
  (h:∀F' us,StandR F' G s p w v L o0 o1 o2->G4 w q (r+81920) us->(us.map (·.id)).Pairwise (·<·)->us.length<=1000000->R (lst 10 zl us) (F'.un (svS G s w v o0 o1 o2 p))):Jb 140 [ptr s,.agg (z6 q),int r] (F.un (svS G s w v o0 o1 o2 p)) R:=by
 have ho:=zd (a:=F) (Ay G s w v o0 o1 o2 p)
 refine Qa (c:=cfg 47) zb Tryz.func140 ?_
 refine Qc zb gu ?_
 refine za (o:=(F.un (svS G s w v _ _ _ p)).obj s) _ ho ?_
 refine Qd ?_
 refine⟨sq hS.hc hS.hd (by omega) (Vi hL hn) hq (r:=r+81920) ⟨by omega,by omega⟩ _ (λF' N nv ns g1 g2 g3 g4 g5 g6=>⟨Tv,?_⟩),Tv⟩
 have hS':StandR F' G s p w v L o0 o1 o2:=⟨g1,g3,hS.hs,hS.hu,hS.h0,hS.h1,hS.h2⟩
 have ho':((F'.un N).un (svS G s w v o0 o1 o2 p)).obj s=some (.cells (svC w v o0 o1 o2 p)):=zd (Ay G s w v o0 o1 o2 p)
 have g4':zg (F'.un N) (svS G s w v o0 o1 o2 p):=disj_un.2 ⟨g3,g4⟩
 have hv:∃oa cap,nv=.s (.slice oa ns.length cap)/\∀i,i<ns.length->∃b J,oa=some ⟨b,0,none⟩/\((F'.un N).un (svS G s w v o0 o1 o2 p)).obj b=some (.cells (ns.map aI++J)):=by
  rcases Li g5 with⟨rfl,rfl⟩|⟨b,cap,J,rfl,hob,_⟩
  ·grind
  simp_all[yr,zd]
 obtain⟨oa,cap,rfl,hget⟩:=hv
 have hrow:RowsQ 10 zl ((F'.un N).un (svS G s w v o0 o1 o2 p)) v w.U:=(R9 hS.hs hS.hu).un
 have hnl:ns.length<=w.U.length:=by
  have:=Fbh (l₂:=L.map (·.1)) (g6.1.imp λh=>by omega) (λid hid=>by
   obtain⟨e,he,h2,_⟩:=(g6.2 id).1 hid
   grind)
  grind
 have hfin:∀us:List Unt,us.map (·.id)=ns->(∀u∈us,u∈w.U/\u.inn=0)->R (lst 10 zl us) (F'.un (svS G s w v o0 o1 o2 p)):=λus e1 e2=>
  h F' us hS' (mg hr hL g6 e1 e2) (by rw[e1];exact g6.1) (by grind)
 have hback:=oi (S:=svS G s w v o0 o1 o2 p) g2
 generalize(F'.un N).un (svS G s w v o0 o1 o2 p)=st1 at*
 refine AWp.loop (σ:=Nat×AV×List Unt) ⟨λx=>[(0,.av (ptr s)),(6,.av x.2.1),(18,.av (.s (.slice oa ns.length cap))),(19,.av (int (ns.length:Nat))),(20,.av (int (x.1:Nat)))],λ_=>[],
  λx st'=>x.1<=ns.length/\App 10 st1 x.2.1 (rws zl x.2.2) st'/\x.2.2.map (·.id)=ns.take x.1/\∀u∈x.2.2,u∈w.U/\u.inn=0,λx=>ns.length-x.1⟩ zb ?_ ?_
 ·exact⟨(0,_,[]),Tv,⟨Faf _,App.start 10 st1,rfl,λu hu=>(by cases hu)⟩,⟨Tq,Tq,Tq,Tq,Tq,Tv⟩,Tv⟩
 rintro⟨i,v2,us⟩ st' ⟨hi,ha,hus,hin⟩
 dsimp only at hi ha hus hin⊢
 refine bcd (λh1=>?_) (λh1=>?_)
 rotate_left
 ·have:i=ns.length:=by omega
  subst this
  rw[Fap]at hus
  exact⟨_,_,AV.le_trans ha.le (Tt),ha.has.trans hback,hfin us hus hin⟩
 have hlt:i<ns.length:=by omega
 obtain⟨b,J,rfl,hob⟩:=hget i hlt
 have hob':st'.obj b=some (.cells (ns.map aI++J)):=by rw[ha.obj];exact hob
 have hrow':RowsQ 10 zl st' v w.U:=by
  exact hrow.sub λ_ _ _ _=>by rw[ha.obj]
 have hos:st'.obj s=some (.cells (svC w v o0 o1 o2 p)):=by rw[ha.obj];exact ho'
 refine⟨i,rfl,hlt,?_⟩
 refine Qat ?_
 refine za (o:=List.head? _) (int ns[i]) (by
  rw[Fb3,show 0+i*ti2.size=i from by show 0+i*1=i;omega,Far (by simpa using hlt),Fam,Fab hlt];rfl) ?_
 refine Qat ?_
 refine s9 hrow' (by omega) hr ns[i] _ (λk hk z hz=>?_)
 obtain⟨e,he,hid,_⟩:=(g6.2 ns[i]).1 (Faa hlt)
 obtain⟨u,hu,hu0,rfl⟩:=(hL e).1 he
 have hfound:∃hk2:k<w.U.length,w.U[k].id=ns[i]:=by
  obtain⟨j,hj,rfl⟩:=Faj hu
  have h5:j>=k:=Decidable.byContradiction λhn2=>by
   have:=hk.2.1 j hj (by omega)
   grind
  have h7:k<w.U.length:=by omega
  refine⟨h7,?_⟩
  have h8:=hk.2.2 k h7 (Fah _)
  have h6:(w.U[j]).id=ns[i]:=hid
  by_cases e:k=j
  ·subst e;exact h6
  ·have:=Cp hr (show k<j by omega) hj
   omega
 obtain⟨hk2,hk3⟩:=hfound
 refine Qat ?_
 obtain⟨oa2,cap2,hv2,hget2⟩:=hrow'.form
 obtain⟨b2,J2,rfl,hob2⟩:=hget2 k hk2
 subst hv2
 refine⟨k,rfl,hk2,?_⟩
 refine Qat ?_
 refine xm (i:=ti37) (row:=zl w.U[k]) rfl rfl (Sm Cn hk2) ?_
 refine⟨by decide,?_⟩
 have hul:us.length=i:=by
  have:=congrArg List.length hus
  grind
 refine Bo (ie:=ti37) (rows':=[zl w.U[k]]) ha ?_ ?_ ⟨?_,?_⟩ (λv3 st3 ha3=>?_)
 ·rfl
 ·rfl
 ·simp only[zh,Fbc,ti37];omega
 ·grind[zh]
 refine Qd ?_
 have huk:w.U[k]=u:=Gu hr (Faa hk2) hu (by rw[hk3];exact hid.symm)
 refine⟨(i+1,v3,us++[w.U[k]]),?_,⟨by dsimp only;omega,?_,?_,λu2 hu2=>?_⟩,Qao,Tv⟩
 ·grind
 ·dsimp only
  unfold rws at ha3⊢
  rw[Fa3]
  exact ha3
 ·simp_all
 grind
theorem zp2{L:List Ent}(hS:StandR F G s p w v L o0 o1 o2)(hr:yi w.U)(hU:w.U.length<=1000000)(hn:∀u∈w.U,u.pos.ok)(hLl:L.length<=w.U.length)(hL:Bv w L)(q:Vc)(hq:q.ok)(r:Int)(hrr:0<r/\r<=262144)(R:Ja)
  (h:∀F' us,StandR F' G s p w v L o0 o1 o2->G4 w q (r+81920) us->us.length<=1000000->R (lst 10 zl us) (F'.un (svS G s w v o0 o1 o2 p))):Jb 140 [ptr s,.agg (z6 q),int r] (F.un (svS G s w v o0 o1 o2 p)) R:=
 f8 hS hr hU hn hLl hL q hq r hrr R λF' us a b _ d=>h F' us a b d
theorem zpw{L:List Ent}(hS:StandR F G s p w v L o0 o1 o2)(hg:zp w.G)(hB:w.B.length<=1000000000000)(hb:∀b∈w.B,y9 b/\onP w.G b)(hr:yi w.U)(hU:w.U.length<=1000000)(hn:∀u∈w.U,u.pos.ok)(hLl:L.length<=w.U.length)(hL:Bv w L)
  (id k:Int) (q:Vc) (hq:q.ok) (R:Ja)
  (h:∀z F' q0 q1 q2,(z=true↔xi w id k q)->StandR F' G s p w v L q0 q1 q2->R (V.bool z) (F'.un (svS G s w v q0 q1 q2 p))):Jb 130 [ptr s,int id,int k,.agg (z6 q)] (F.un (svS G s w v o0 o1 o2 p)) R:=by
 have ho:=zd (a:=F) (Ay G s w v o0 o1 o2 p)
 have hk:=Fv k
 have hc:=Oi k
 refine Qa (c:=cfg 56) zb Tryz.func130 ?_
 refine je k _ _ ?_
 refine Qc zb gz ?_
 refine za (o:=(F.un (svS G s w v _ _ _ p)).obj s) _ ho ?_
 refine⟨zpe hS hg hB hb (qa k) hc _ (λa0 a1 a2 hS1=>⟨?_,?_⟩),Tv⟩
 ·have ho1:=zd (a:=F) (Ay G s w v a0 a1 a2 p)
  repeat(first|exact Tv|refine⟨rfl,?_⟩|refine⟨za (o:=(F.un (svS G s w v a0 a1 a2 p)).obj s) _ ho1 rfl,?_⟩)
 refine⟨pm w.G hg w.B (qa k) q hq (zq k) ⟨hk.1,by omega⟩ _ _ (λz hz=>⟨Tv,?_⟩),Tv⟩
 refine yp ?_
 refine zi (λc1=>?_) (λc1=>ret (h false _ _ _ _ (by simp only[Fai,false_iff];exact λhh=>by have:=hz.2 hh.1;rw[this]at c1;cases c1) hS1))
 have hfree:=hz.1 c1
 refine zp2 hS1 hr hU hn hLl hL q hq (zq k) ⟨hk.1,by omega⟩ _ (λF' us hS2 hus hul=>?_)
 have hci:=sa (id:=id) hfree hus
 have no:¬xi w id k q->R (V.bool false) (F'.un (svS G s w v a0 a1 a2 p)):=λhh=>h false _ _ _ _ (by simp only[Fai,false_iff];exact hh) hS2
 refine AWp.loop (σ:=Nat) ⟨λi=>[(1,.av (int id)),(7,.bx 7 0),(9,.bx 9 0),(32,.av (lst 10 zl us)),(33,.av (int (us.length:Nat))),(34,.av (int (i:Nat)))],λ_=>[(7,z6 q),(9,G9 k)],
  λi st'=>st'=F'.un (svS G s w v a0 a1 a2 p)/\i<=us.length/\∀j,(hj:j<us.length)->j<i->us[j].id≠id->vf q (zq k) us[j].pos (zq us[j].kind)=true,λi=>us.length-i⟩ zb ?_ ?_
 ·refine⟨0,Tv,⟨rfl,Faf _,λj _ hj=>by omega⟩,⟨Tq,Tq,Tq,Tq,?_,Tq,Tv⟩,⟨rfl,rfl,Tv⟩⟩
  rw[<-zh (f:=zl) us];exact Tq
 rintro i st' ⟨rfl,hi,hall⟩
 refine bcd (λh1=>?_) (λh1=>?_)
 rotate_left
 ·refine ret (h true _ _ _ _ (by
   simp only[true_iff]
   refine hci.2 λu hu hne=>?_
   obtain⟨j,hj,rfl⟩:=Faj hu
   exact hall j hj (by omega) hne) hS2)
 have hlt:i<us.length:=by omega
 have hui:=(hus us[i]).1 (Faa hlt)
 have next:(us[i].id≠id->vf q (zq k) us[i].pos (zq us[i].kind)=true)->∀j,(hj:j<us.length)->j<i+1->us[j].id≠id->vf q (zq k) us[j].pos (zq us[j].kind)=true:=λhh j hj hji=>by
  by_cases e:j=i
  ·subst e;exact hh
  ·exact hall j hj (by omega)
 refine⟨i,rfl,za _ (zw hlt) ?_⟩
 refine Qc zb gy ?_
 refine wl (λc2=>?_) (λc2=>?_)
 ·refine⟨je us[i].kind _ _ ⟨Qe,?_⟩,Tv⟩
  have hk2:=Fv us[i].kind
  refine⟨tj q (zq k) us[i].pos (zq us[i].kind) hq (hn _ hui.1.1) ⟨hk.1,by omega⟩ ⟨hk2.1,by omega⟩ _ _ ⟨Tv,?_⟩,Tv⟩
  refine yp ?_
  refine zi (λc3=>?_) (λc3=>?_)
  ·refine Qd ?_
   refine⟨i+1,?_,⟨rfl,by omega,next λ_=>c3⟩,Qao,⟨rfl,rfl,Tv⟩⟩
   show us.length-(i+1)<us.length-i
   omega
  ·refine ret (no λhh=>?_)
   have:=hci.1 hh us[i] (Faa hlt) c2
   rw[this]at c3;cases c3
 ·refine Qar ?_
  refine Qas ?_
  refine Qd ?_
  refine⟨i+1,?_,⟨rfl,by omega,next λhne=>absurd c2 hne⟩,Qao,⟨rfl,rfl,Tv⟩⟩
  show us.length-(i+1)<us.length-i
  omega
end
end Go.Proofs
namespace Go.Proofs
open Go Go.V
set_option maxRecDepth 20000
set_option maxHeartbeats 4000000
end Go.Proofs
namespace Go.Proofs
open Go Go.V
set_option maxRecDepth 20000
set_option maxHeartbeats 4000000
end Go.Proofs
namespace Go.Proofs
open Go Go.V
set_option maxRecDepth 20000
set_option maxHeartbeats 4000000
end Go.Proofs
namespace Go.Proofs
open Go Go.V
set_option maxRecDepth 20000
set_option maxHeartbeats 4000000
end Go.Proofs
