/- Ground of laws of thronglaw24: contracts and plain lemmas; no condition beyond the row's own. -/
import Derived.Test.YtbemejeejgpkaaaGreatKY
set_option linter.unusedSimpArgs false
set_option linter.unusedVariables false
namespace Go.Proofs
open Go Go.V
set_option maxRecDepth 20000
set_option maxHeartbeats 4000000
section
variable {S:Store} {w:Wld} {v:AV}
theorem Qau{p:Prop}(h:p:=by rw[Faf];exact hi2):p:=h
theorem Qav{p:Prop}(h:p:=by rw[Fbp];rfl):p:=h
theorem Qaw{p:Prop}(h:p:=by rw[Faf];exact e8):p:=h
theorem V3(w:Wld)(hU:w.U.length<=1000000)(id:Int)(st:Store)(R:Ja)(h:R (int (Ay (yx w.U id))) st):Jb 29 [.agg (zt w),int id] st R:=V2 w hU id st R h
theorem Fc(hv:RowsQ 10 zf S v w.U)(hU:w.U.length<=1000000)(id:Int)(R:Ja)(h:R (int (Ay (yx w.U id))) S):Jb 29 [.agg (zw w v),int id] S R:=
 ACalls.read (ys:=[.agg (zt w),int id]) (Q:=λr=>r=int (Ay (yx w.U id))) (λOth M W vs sto hr=>by
  obtain⟨x,y,rfl,h1,h2⟩:=Ff hr
  exact Reads.cons (Ch hv sto h1) (Reads.cons (xp h2) Reads.nil)) (V3 w hU id _ _ rfl) (λr hr=>hr▸Iw _) (λr hr=>hr▸h)
theorem V8(w:Wld)(hU:w.U.length<=1000000)(P id:Int)(st:Store)(R:Ja)(h:R (int (xx w P id)) st):Jb 125 [.agg (zt w),int P,int id] st R:=by
 refine Qa (c:=cfg 28) zb Tryz.func125 ?_
 refine V3 w hU id _ _ ?_
 refine bcd (λc1=>?_) (λc1=>?_)
 ·cases hf:yx w.U id with
  |none=>
   rw[(zbl (P:=P) hf).1]at h
   exact ret h
  |some i=>rw[hf]at c1;exact absurd c1 (by show¬((i:Int)<0);omega)
 cases hf:yx w.U id with
 |none=>rw[hf]at c1;exact absurd (show(-1:Int)<0 by decide) c1
 |some i=>
  obtain⟨hi,e,e2⟩:=Sw hf
  rw[zbk (P:=P) hf hi]at h
  refine⟨i,rfl,za _ (zm hi) ?_⟩
  refine qj (λc2=>?_) (λc2=>?_)
  ·rw[if_neg c2]at h
   exact ret h
  rw[if_pos c2]at h
  refine⟨i,rfl,za _ (zm hi) ?_⟩
  refine qj (λc3=>?_) (λc3=>?_)
  ·rw[if_neg c3]at h
   exact ret h
  ·rw[if_pos c3]at h
   exact ret h
theorem zvk(w:Wld)(hU:w.U.length<=1000000)(c:Cmd)(hc:c.U.length<=1000000)(st:Store)(R:Ja)(h:R (int (j9 (xx w c.P) c.U)) st):Jb 79 [.agg (zt w),.agg (qi c)] st R:=by
 refine Qa (c:=cfg 26) zb Tryz.func79 ?_
 refine AWp.loop (σ:=Nat) ⟨λi=>[(2,.bx 2 0),(3,.bx 3 0),(5,.av (int (i:Nat)))],λ_=>[(2,zt w),(3,qi c)],
  λi st'=>i<=c.U.length/\st'=st/\∀j,(hj:j<c.U.length)->j<i->xx w c.P c.U[j]=0,λi=>c.U.length-i⟩ zb ?_ ?_
 ·exact⟨0,Tv,⟨Fag _,rfl,λj _ hj=>by omega⟩,Qbh,⟨rfl,rfl,Tv⟩⟩
 rintro i st' ⟨hi,rfl,hall⟩
 refine zh (λh1=>?_) (λh1=>?_)
 rotate_left
 ·have:i=c.U.length:=qv h1 hi
  subst this
  rw[eh λj hj=>hall j hj hj]at h
  exact ret h
 have hlt:=qq h1
 refine Qc zb zpu ?_
 refine⟨i,rfl,za _ (zm hlt) ?_⟩
 refine⟨V8 w hU c.P c.U[i] _ _ ⟨Tv,?_⟩,Tv⟩
 refine Qbl ?_
 refine qj (λc1=>?_) (λc1=>?_)
 ·rw[Db hlt hall c1]at h
  exact ret h
 refine Qd ?_
 refine⟨i+1,?_,⟨by omega,rfl,λj hj hji=>?_⟩,Qbh,⟨rfl,rfl,Tv⟩⟩
 ·show c.U.length-(i+1)<c.U.length-i
  omega
 ·by_cases e:j=i
  ·subst e;exact c1
  ·exact hall j hj (by omega)
theorem nj(hv:RowsQ 10 zf S v w.U)(hU:w.U.length<=1000000)(c:Cmd)(hc:c.U.length<=1000000)(R:Ja)(h:R (int (j9 (xx w c.P) c.U)) S):Jb 79 [.agg (zw w v),.agg (qi c)] S R:=
 ACalls.read (ys:=[.agg (zt w),.agg (qi c)]) (Q:=λr=>r=int (j9 (xx w c.P) c.U)) (λOth M W vs sto hr=>by
  obtain⟨x,y,rfl,h1,h2⟩:=Ff hr
  exact Reads.cons (Ch hv sto h1) (Reads.cons (xp h2) Reads.nil)) (zvk w hU c hc _ _ rfl) (λr hr=>hr▸Iw _) (λr hr=>hr▸h)
theorem Rg{b i j:Nat}{U:List Unt}{J:List AV}{x':Unt}{y:AV}(ho:S.obj b=some (.cells ((rws zf U).flatten++J)))(hi:i<U.length)(hj:j+1<=10)(hx:zf x'=zu (zf U[i]) j [y]):(S.sO b (.cells (zu ((rws zf U).flatten++J) (0+i*10+j) [y]))).obj b=some (.cells ((rws zf (U.set i x')).flatten++J)):=by
 rw[zd,Fbe,Kr (f:=zf) (k:=10) (x':=x') yo hi hj hx]
def zb1:List AV:=[int 0,int 0,int 0,int 0,int 0,.s (.slice none 0 0),.s (.slice none 0 0),.s (.slice none 0 0)]
theorem ue{l:List Int}{g:Unt->Unt}(hg:∀u,(g u).id=u.id)(U:List Unt)(id:Int):yx (yy l g U) id=yx U id:=by
 unfold yx yy
 rw[Fe6]
 congr 1
 funext u
 simp only[Function.comp]
 split
 ·rw[hg]
 ·rfl
theorem zve(w:Wld)(hw:w.fits)(hn:∀u∈w.U,u.pos.ok)(hU:w.U.length<=1000000)(c:Cmd)(hc:c.fits)(hK:c.K=3):Jb 38 [.agg (zt w),.agg (qi c)] Store.empty (DoQ stE stW w c):=by
 refine Qa (c:=cfg 97 [6] []) zb Tryz.func38 ?_
 have bad:(¬z6 w\/¬j8 c\/w.players<c.P)->DoQ stE stW w c (.tup [.agg (zt w),int 1]) Store.empty:=λhb=>by
  have he:=Gm (E:=stE) (w:=w) (c:=c) hb
  exact .inl ⟨by rw[he];decide,by rw[he]⟩
 refine F7 w hw hn _ _ (λz hz=>?_)
 refine yd ?_
 refine zh (λc1=>?_) (λc1=>?_)
 rotate_left
 ·exact ret (bad (.inl λhh=>by have:=hz.2 hh;rw[this]at c1;cases c1))
 refine Hr c hc _ _ (λzc hzc=>?_)
 refine yd ?_
 refine zh (λc2=>?_) (λc2=>?_)
 rotate_left
 ·exact ret (bad (.inr (.inl λhh=>by have:=hzc.2 hh;rw[this]at c2;cases c2)))
 refine bcd (λc3=>?_) (λc3=>?_)
 ·exact ret (bad (.inr (.inr (by omega))))
 have hm:=hz.1 c1
 have hcp:=hzc.1 c2
 have mf:=jd hm
 have he:=Ho (E:=stE) hm hcp (show c.P<=w.players by omega)
 have hok:=(Cmd.ok3 hK).1 hcp.1
 have hcU:=hok.1.2
 refine Hq w hw hU _ _ (λv N hv _=>?_)
 rw[Al]
 have hv:=hv.q
 have hoff:=λ(p:Nat) (hp:Fresh N p)=>Dk hv (vx (fresh_iff.1 hp)).1
 obtain⟨oa,cap,e,_⟩:=hv.form
 subst e
 refine λp hp=>?_
 refine j2 (i:=ti27) (v:=.agg (zw w (.s (.slice oa w.U.length cap)))) (xs:=zw w (.s (.slice oa w.U.length cap))) (b:=p) (o:=0) (l:=_) rfl rfl rfl (zd _ _ _) (show 0+8<=8 by decide) ?_
 generalize hS:(N.sO p _).sO p _=S
 have hp2:S.obj p=some (.cells (zw w (.s (.slice oa w.U.length cap)))):=by rw[<-hS];exact zd _ _ _
 have hr2:RowsQ 10 zf S (.s (.slice oa w.U.length cap)) w.U:=by rw[<-hS];exact(hv.set (hoff p hp) _).set (hoff p hp) _
 have hofp:=hoff p hp
 clear hS
 refine zy (λh=>absurd (hK.symm.trans h) (by decide)) (λ_=>?_)
 refine zy (λh=>absurd (hK.symm.trans h) (by decide)) (λ_=>?_)
 refine zy (λ_=>?_) (λh=>absurd hK h)
 refine Qbm ?_
 refine nj hr2 hU c (by omega) _ ?_
 have hst:j9 (xx w c.P) c.U=stE w c:=rfl
 rw[hst]
 refine AWp.loop (σ:=Nat×Store) ⟨λx=>[(2,.bx 2 0),(3,.bx 3 0),(4,.bx 4 0),(6,.av (ptr p)),(7,.av (int (stE w c))),(8,.av (int (x.1:Nat)))],λ_=>[(2,zt w),(3,qi c),(4,zb1)],
  λx st'=>x.1<=c.U.length/\(stE w c≠0->x.1=0)/\st'=x.2/\x.2.obj p=some (.cells (zw w (.s (.slice oa w.U.length cap))))/\RowsQ 10 zf x.2 (.s (.slice oa w.U.length cap)) (yy (c.U.take x.1) wi w.U),λx=>c.U.length-x.1⟩ zb ?_ ?_
 ·refine⟨(0,S),Tv,⟨Fag _,λ_=>rfl,rfl,hp2,?_⟩,Qbh,⟨rfl,rfl,rfl,Tv⟩⟩
  dsimp only
  rw[Fc8,ll]
  exact hr2
 rintro⟨k,S0⟩ S1 ⟨hk,hk0,rfl,hp1,hr1⟩
 dsimp only at hk hk0 hp1 hr1⊢
 have fin:k=c.U.length->stE w c=0->DoQ stE stW w c (.tup [.agg (zw (stW w c) (.s (.slice oa w.U.length cap))),int 0]) S1:=λe h0=>by
  subst e
  rw[Fap]at hr1
  exact .inr ⟨he.trans h0,_,hr1,rfl⟩
 by_cases h0:stE w c=0
 rotate_left
 ·have hk0:=hk0 h0
  subst hk0
  have out:DoQ stE stW w c (.tup [.agg (zt w),int (stE w c)]) S1:=.inl ⟨by rw[he];exact h0,by rw[he]⟩
  refine zh (λh1=>?_) (λh1=>?_)
  ·refine zy (λh2=>absurd h2 h0) (λ_=>?_)
   refine qj (λ_=>?_) (λh=>absurd h h0)
   exact ret out
  ·refine qj (λ_=>?_) (λh=>absurd h h0)
   exact ret out
 rw[h0]
 refine zh (λh1=>?_) (λh1=>?_)
 rotate_left
 ·have hkl:k=c.U.length:=qv h1 hk
  refine Qbm ?_
  exact ret (fin hkl h0)
 have hlt:=qq h1
 obtain⟨i,hi,hf,hid,hu,how,hin⟩:=Ft (I9 h0 c.U[k] (Faa hlt))
 have hi2:i<(yy (c.U.take k) wi w.U).length:=by rw[Ag];exact hi
 have hf2:yx (yy (c.U.take k) wi w.U) c.U[k]=some i:=by rw[ue (g:=wi) (λ_=>rfl)];exact hf
 rcases hr1 with(⟨_,hl0⟩|⟨b,cap',J,e,ho,hc1,hc2,hc3⟩)|⟨_,_,_,hl0⟩
 ·rw[hl0]at hi2;exact absurd hi2 (Fa2 i)
 rotate_left
 ·rw[hl0]at hi2;exact absurd hi2 (Fa2 i)
 simp only[AV.s.injEq,Value.slice.injEq]at e
 obtain⟨rfl,e7,rfl⟩:=e
 have hcap:0<cap:=by omega
 have hbp:b≠p:=hofp b _ _ rfl hcap
 refine Qc zb zql ?_
 refine Qbm ?_
 refine Qbm ?_
 refine⟨k,rfl,za _ (zm hlt) ?_⟩
 refine⟨Fc (w:={w with U:=yy (c.U.take k) wi w.U}) (.inl (.inr ⟨b,cap,J,by rw[e7],ho,hc1,hc2,hc3⟩)) (by rw[Ag];exact hU) c.U[k] _ ⟨(by repeat(first|exact Tv|refine⟨rfl,?_⟩|refine⟨⟨k,rfl,za _ (zm hlt) rfl⟩,?_⟩|refine⟨za (o:=S1.obj p) _ hp1 rfl,?_⟩)),?_⟩,Tv⟩
 dsimp only
 rw[hf2]
 refine⟨i,rfl,hi,?_⟩
 refine Qbl ?_
 have hlen:∀U2:List Unt,U2.length=w.U.length->i*10+10<=((rws zf U2).flatten++J).length:=λU2 h=>by
  rw[Fad,ja yo]
  omega
 have e8:(yy (c.U.take k) wi w.U).length=w.U.length:=Ag _ _ _
 have hl0:=hlen _ e8
 have hidk:(yy (c.U.take k) wi w.U).set i (wi (yy (c.U.take k) wi w.U)[i])=yy (c.U.take (k+1)) wi w.U:=by
  have e5:c.U.take k++[w.U[i].id]=c.U.take (k+1):=by rw[Fac hlt,hid]
  have e6:wi ((yy (c.U.take k) wi w.U)[i])=wi w.U[i]:=by
   rw[Kt hi]
   split<;>rfl
  rw[e6,lk mf.hr hi,e5]
 generalize hgU:yy (c.U.take k) wi w.U=U1 at*
 refine jf (i:=ti2) (v:=int (-1)) (b:=b) (o:=0+i*10+5) (l:=(rws zf U1).flatten++J) rfl rfl rfl ho (show 0+i*10+5+1<=_ by omega) ?_
 have q1:=Rg (x':={U1[i]with goal:=-1}) (y:=int (-1)) (j:=5) ho hi2 (by decide) rfl
 have p1:=(zi (st:=S1) (x:=.cells (zu ((rws zf U1).flatten++J) (0+i*10+5) [int (-1)])) (Ne.symm hbp)).trans hp1
 generalize S1.sO b _=S2 at q1 p1⊢
 have hl1:=hlen (U1.set i {U1[i]with goal:=-1}) Qaw
 refine jf (i:=ti2) (v:=int (-1)) (b:=b) (o:=0+i*10+6) (l:=_) rfl rfl rfl q1 (show 0+i*10+6+1<=_ by omega) ?_
 have q2:=Rg (x':={U1[i]with goal:=-1,next:=-1}) (y:=int (-1)) (j:=6) q1 Qau (by decide) Qav
 rw[Fbx]at q2
 have p2:=(zi (st:=S2) (x:=.cells (zu ((rws zf (U1.set i {U1[i]with goal:=-1})).flatten++J) (0+i*10+6) [int (-1)])) (Ne.symm hbp)).trans p1
 generalize S2.sO b _=S3 at q2 p2⊢
 have hl2:=hlen (U1.set i {U1[i]with goal:=-1,next:=-1}) Qaw
 refine jf (i:=ti2) (v:=int 0) (b:=b) (o:=0+i*10+7) (l:=_) rfl rfl rfl q2 (show 0+i*10+7+1<=_ by omega) ?_
 have q3:=Rg (x':={U1[i]with goal:=-1,next:=-1,stuck:=0}) (y:=int 0) (j:=7) q2 Qau (by decide) Qav
 rw[Fbx]at q3
 have p3:=(zi (st:=S3) (x:=.cells (zu ((rws zf (U1.set i {U1[i]with goal:=-1,next:=-1})).flatten++J) (0+i*10+7) [int 0])) (Ne.symm hbp)).trans p2
 generalize S3.sO b _=S4 at q3 p3⊢
 have hl3:=hlen (U1.set i {U1[i]with goal:=-1,next:=-1,stuck:=0}) Qaw
 refine jf (i:=ti2) (v:=int 0) (b:=b) (o:=0+i*10+9) (l:=_) rfl rfl rfl q3 (show 0+i*10+9+1<=_ by omega) ?_
 have q4:=Rg (x':=wi U1[i]) (y:=int 0) (j:=9) q3 Qau (by decide) Qav
 rw[Fbx,hidk]at q4
 have p4:=(zi (st:=S4) (x:=.cells (zu ((rws zf (U1.set i {U1[i]with goal:=-1,next:=-1,stuck:=0})).flatten++J) (0+i*10+9) [int 0])) (Ne.symm hbp)).trans p3
 generalize S4.sO b _=S5 at q4 p4⊢
 refine Qd ?_
 have e9:(yy (c.U.take (k+1)) wi w.U).length=w.U.length:=Ag _ _ _
 refine⟨(k+1,S5),?_,⟨by dsimp only;omega,λh=>absurd rfl h,rfl,p4,.inl (.inr ⟨b,cap,J,by rw[e9],q4,by rw[e9,<-e8];exact hc1,by rw[e9,<-e8];exact hc2,hc3⟩)⟩,⟨Tq,Tq,Tq,Tq,?_,Tq,Tv⟩,⟨rfl,rfl,rfl,Tv⟩⟩
 ·show c.U.length-(k+1)<c.U.length-k
  omega
 ·exact Tq
theorem zup:Hz 3 stE stW:=λw hw hn hU c hc hK R h=>I0 (zve w hw hn hU c hc hK) R h
end
section
variable {i j:Nat} {S:Store} {w:Wld} {v:AV}
theorem Qax{p:Prop}(h:p:=by repeat(first|exact Tv|refine⟨rfl,?_⟩|refine⟨za (o:=S.obj p) _ hp rfl,?_⟩|refine⟨⟨i,rfl,za _ (zm hlt) rfl⟩,?_⟩|refine⟨⟨iu,rfl,hiu,rfl⟩,?_⟩|refine⟨za (o:=S.obj b) _ hob (yk (i:=ti50) (row:=zf w.U[iu]) rfl rfl (xn yo hiu) rfl),?_⟩|refine⟨ze (by rw[zn];omega) rfl,?_⟩)):p:=h
theorem Qay{p:Prop}(h:p:=by repeat(first|exact Tv|refine⟨rfl,?_⟩|refine⟨za (o:=S.obj p) _ hp rfl,?_⟩|refine⟨⟨ix,rfl,hix,rfl⟩,?_⟩|refine⟨za (o:=S.obj b) _ hob (yk (i:=ti50) (row:=zf w.U[ix]) rfl rfl (xn yo hix) rfl),?_⟩)):p:=h
theorem Qaz{p:Prop}(h:p:=by rw[Db hlt hall (by rw[hA];decide),hA];decide):p:=h
theorem Qba{p:Prop}(h:p:=by rw[Faf];exact hi2):p:=h
theorem Qbb{p:Prop}(h:p:=by rw[Fbp];rfl):p:=h
theorem Qbc{p:Prop}(h:p:=by rw[hA];decide):p:=h
theorem P9{U:List Unt}{J:List AV}(hi:i<U.length)(hj:j<10){y:AV}(hy:(zf U[i])[j]?=some y):(((rws zf U).flatten++J).drop (0+i*10+j)).head?=some y:=by
 have hd:=xn (f:=zf) (L:=J) yo hi
 rw[<-Fdk,hd,Fb2,Fam (by rw[yo];exact hj)]
 exact hy
theorem mp(hv:RowsQ 10 zf S v w.U)(hU:w.U.length<=1000000)(id:Int)(R:Ja)(h:R (qn (z8 w.U id)) S):Jb 57 [.agg (zw w v),int id] S R:=by
 obtain⟨oa,cap,e,hget⟩:=hv.form
 subst e
 refine Qa (c:=cfg 32) zb Tryz.func57 ?_
 refine AWp.loop (σ:=Nat×AV) ⟨λx=>[(1,.av (int id)),(2,.bx 2 0),(5,.av x.2),(6,.av (int (x.1:Nat)))],λ_=>[(2,zw w (.s (.slice oa w.U.length cap)))],
  λx st'=>x.1<=w.U.length/\App 1 S x.2 (rws yh (z8 (w.U.take x.1) id)) st',λx=>w.U.length-x.1⟩ zb ?_ ?_
 ·exact⟨(0,_),Tv,⟨Fag _,App.start 1 S⟩,⟨Tq,Tq,Tq,Tq,Tv⟩,⟨rfl,Tv⟩⟩
 rintro⟨i,v2⟩ st' ⟨hi,ha⟩
 dsimp only at hi ha⊢
 refine bcd (λh1=>?_) (λh1=>?_)
 rotate_left
 ·have:i=w.U.length:=by omega
  subst this
  rw[Fap]at ha
  exact⟨_,_,ha.le,ha.has,h⟩
 have hlt:i<w.U.length:=by omega
 have hs:=si hlt id
 have hl1:(z8 (w.U.take i) id).length<=1000000:=by
  have h1:=P0 (l:=w.U) i id
  have h2:(z8 w.U id).length<=w.U.length:=by unfold z8;rw[Fa4];exact Fcj _ _
  omega
 obtain⟨b,J,e2,hob⟩:=hget i hlt
 have hob:st'.obj b=some (.cells ((rws zf w.U).flatten++J)):=by rw[ha.obj];exact hob
 subst e2
 refine⟨i,rfl,hlt,?_⟩
 refine Qbm ?_
 refine za (o:=List.head? _) (int w.U[i].inn) (P9 (j:=8) hlt (by decide) rfl) ?_
 refine zy (λc1=>?_) (λc1=>?_)
 ·rw[if_pos c1]at hs
  refine⟨i,rfl,hlt,?_⟩
  refine Qbm ?_
  refine za (o:=List.head? _) (int w.U[i].id) (P9 (j:=0) hlt (by decide) rfl) ?_
  refine⟨by decide,?_⟩
  refine Fu (ie:=ti2) (rows':=[yh w.U[i].id]) ha ?_ ?_ ⟨?_,?_⟩ (λv3 st3 ha3=>?_)
  ·rfl
  ·rfl
  ·simp only[zn,Fas,ti2];omega
  ·simp only[zn,Fas];omega
  refine Qd ?_
  refine⟨(i+1,v3),?_,⟨by dsimp only;omega,?_⟩,Qbh,⟨rfl,Tv⟩⟩
  ·show w.U.length-(i+1)<w.U.length-i
   omega
  ·dsimp only
   rw[hs]
   unfold rws at ha3⊢
   rw[Fbk]
   exact ha3
 ·rw[if_neg c1,Fbv]at hs
  refine Qd ?_
  refine⟨(i+1,v2),?_,⟨by dsimp only;omega,?_⟩,Qbh,⟨rfl,Tv⟩⟩
  ·show w.U.length-(i+1)<w.U.length-i
   omega
  ·dsimp only
   rw[hs]
   exact ha
theorem zu8(hv:RowsQ 10 zf S v w.U)(hU:w.U.length<=1000000)(P id:Int)(R:Ja)(h:R (int (xx w P id)) S):Jb 125 [.agg (zw w v),int P,int id] S R:=
 ACalls.read (ys:=[.agg (zt w),int P,int id]) (Q:=λr=>r=int (xx w P id)) (λOth M W vs sto hr=>by
  obtain⟨hl,h2⟩:=hr
  match vs,hl with
  |[a,b,c],_=>exact Reads.cons (Ch hv sto (h2 0 _ a rfl rfl)) (Reads.cons (xp (h2 1 _ b rfl rfl)) (Reads.cons (xp (h2 2 _ c rfl rfl)) Reads.nil))) (V8 w hU P id _ _ rfl) (λr hr=>hr▸Iw _) (λr hr=>hr▸h)
theorem zu3(w:Wld)(hU:w.U.length<=1000000)(hk:∀u∈w.U,jv u.kind)(c:Cmd)(st:Store)(R:Ja)(h:R (int (vk w c.P c.N)) st):Jb 130 [.agg (zt w),.agg (qi c)] st R:=by
 unfold vk at h
 refine Qa (c:=cfg 29) zb Tryz.func130 ?_
 refine V8 w hU c.P c.N _ _ ?_
 refine Qc zb zsb ?_
 refine zy (λc1=>?_) (λc1=>?_)
 rotate_left
 ·rw[if_neg c1]at h
  refine Qbk ?_
  refine Qbk ?_
  exact ret h
 rw[if_pos c1]at h
 obtain⟨i,hi,hf,hid,hu,_,_⟩:=Ft c1
 rw[hu]at h
 refine⟨V3 w hU c.N _ _ ⟨Qe,?_⟩,Tv⟩
 rw[hf]
 refine⟨i,rfl,za _ (zm hi) ?_⟩
 refine⟨Bj w.U[i].kind (hk _ (Faa hi)) _ _ ⟨Qe,?_⟩,Tv⟩
 refine zy (λc2=>?_) (λc2=>?_)
 ·rw[if_pos c2]at h
  exact ret h
 ·rw[if_neg c2]at h
  rw[<-c1]at h
  exact ret h
theorem nh(hv:RowsQ 10 zf S v w.U)(hU:w.U.length<=1000000)(hk:∀u∈w.U,jv u.kind)(c:Cmd)(R:Ja)(h:R (int (vk w c.P c.N)) S):Jb 130 [.agg (zw w v),.agg (qi c)] S R:=
 ACalls.read (ys:=[.agg (zt w),.agg (qi c)]) (Q:=λr=>r=int (vk w c.P c.N)) (λOth M W vs sto hr=>by
  obtain⟨x,y,rfl,h1,h2⟩:=Ff hr
  exact Reads.cons (Ch hv sto h1) (Reads.cons (xp h2) Reads.nil)) (zu3 w hU hk c _ _ rfl) (λr hr=>hr▸Iw _) (λr hr=>hr▸h)
theorem Cd{b:Nat}{U:List Unt}{J:List AV}{x':Unt}{ys:List AV}(ho:S.obj b=some (.cells ((rws zf U).flatten++J)))(hi:i<U.length)(hj:j+ys.length<=10)(hx:zf x'=zu (zf U[i]) j ys):(S.sO b (.cells (zu ((rws zf U).flatten++J) (0+i*10+j) ys))).obj b=some (.cells ((rws zf (U.set i x')).flatten++J)):=by
 rw[zd,Fbe,Kr (f:=zf) (k:=10) (x':=x') yo hi hj hx]
theorem zt4{p:Nat}(hp:S.obj p=some (.cells (zw w v)))(hv:RowsQ 10 zf S v w.U)(hoff:wj v p)(hmp:z6 w)(hn:∀u∈w.U,u.pos.ok)(c:Cmd)(hcU:c.U.length<=64)(hN:1<=c.N)(R:Ja)
  (h:∀S',ldE w c≠0->R (int (ldE w c)) S') (h0:ldE w c=0->∀S' v',S'.obj p=some (.cells (zw (ldW w c) v'))->RowsQ 10 zf S' v' (ldW w c).U->R (int 0) S'):Jb 82 [ptr p,.agg (qi c)] S R:=by
 have hm:=jd hmp
 have hU:=hm.hU
 obtain⟨oa,cap,e,hget⟩:=hv.form
 subst e
 refine Qb (c:=cfg 135) zb Tryz.func82 ?_
 refine AWp.seq (AWp.of_vc zb ?_)
 refine AWp.seq (AWp.of_vc zb ?_)
 refine Qc zb zpn ?_
 refine Qbm ?_
 refine⟨nh hv (by omega) hm.hk c _ ⟨Qe,?_⟩,Tv⟩
 refine Qbl ?_
 refine AWp.seq (AWp.of_vc zb ?_)
 refine qj (λc1=>?_) (λc1=>?_)
 ·have:=zyz c1
  rw[this]at h
  exact ret (h _ c1)
 obtain⟨hask,hroom⟩:=dk c1
 obtain⟨ix,hix,hfx,hidx,hux,_,_⟩:=Ft hask
 rw[hux]at hroom
 have hkb:=Na w.U[ix].kind
 have hin:(z8 w.U c.N).length<=w.U.length:=by unfold z8;rw[Fa4];exact Fcj _ _
 refine AWp.meetA (σ:=Unit) ⟨λ_=>[(0,.av (ptr p)),(3,.bx 3 0),(6,.bx 6 0)],λ_=>[(3,qi c),(6,zf w.U[ix])],λ_ st'=>st'=S⟩ ?_ ?_
 ·refine AWp.of_vc zb ?_
  refine Qc zb zpj ?_
  refine Qbm ?_
  refine Qbm ?_
  obtain⟨b,J,e2,hob⟩:=hget ix hix
  subst e2
  refine⟨Fc hv (by omega) c.N _ ⟨Qay,?_⟩,⟨Qay,?_⟩,Tv⟩
  ·rw[hfx]
   refine⟨ix,rfl,hix,?_⟩
   refine Qbm ?_
   refine yk (i:=ti50) (row:=zf w.U[ix]) rfl rfl (xn yo hix) ?_
   refine⟨⟨Qay,?_⟩,Tv⟩
   refine Qbl ?_
   exact⟨(),rfl,Qbh,⟨rfl,rfl,Tv⟩⟩
  ·refine⟨Fc hv (by omega) c.N _ ⟨Qay,?_⟩,Tv⟩
   rw[hfx]
   refine⟨ix,rfl,hix,?_⟩
   refine Qbm ?_
   refine yk (i:=ti50) (row:=zf w.U[ix]) rfl rfl (xn yo hix) ?_
   refine Qbl ?_
   exact⟨(),rfl,Qbh,⟨rfl,rfl,Tv⟩⟩
 rintro _ S rfl
 refine AWp.of_vc zb ?_
 refine AWp.loop (σ:=Nat) ⟨λi=>[(0,.av (ptr p)),(3,.bx 3 0),(6,.bx 6 0),(7,.av (int (i:Nat)))],λ_=>[(3,qi c),(6,zf w.U[ix])],
  λi st'=>i<=c.U.length/\st'=S/\∀j,(hj:j<c.U.length)->j<i->ldA w c.P c.N c.U[j]=0,λi=>c.U.length-i⟩ zb ?_ ?_
 ·exact⟨0,Tv,⟨Fag _,rfl,λj _ hj=>by omega⟩,Qbh,⟨rfl,rfl,Tv⟩⟩
 rintro i S ⟨hi,rfl,hall⟩
 refine zh (λh1=>?_) (λh1=>?_)
 ·have hlt:=qq h1
  refine Qc zb zpi ?_
  refine Qbm ?_
  refine⟨i,rfl,za _ (zm hlt) ?_⟩
  refine⟨zu8 hv (by omega) c.P c.U[i] _ ⟨(by repeat(first|exact Tv|refine⟨rfl,?_⟩|refine⟨za (o:=S.obj p) _ hp rfl,?_⟩|refine⟨⟨i,rfl,za _ (zm hlt) rfl⟩,?_⟩)),?_⟩,Tv⟩
  refine Qbl ?_
  refine qj (λc2=>?_) (λc2=>?_)
  ·have hA:ldA w c.P c.N c.U[i]=xx w c.P c.U[i]:=by unfold ldA;rw[if_neg c2]
   have e5:=M8 c1 (by rw[Db hlt hall (by rw[hA];exact c2),hA];exact c2)
   rw[Db hlt hall (by rw[hA];exact c2),hA]at e5
   rw[e5]at h
   exact ret (h _ c2)
  obtain⟨iu,hiu,hfu,hidu,huu,_,_⟩:=Ft c2
  have hA:ldA w c.P c.N c.U[i]=Au w.U[ix] w.U[iu]:=by unfold ldA;rw[if_pos c2,hux,huu]
  obtain⟨b,J,e2,hob⟩:=hget iu hiu
  subst e2
  refine Qc zb zpm ?_
  refine Qbm ?_
  refine Qbm ?_
  refine⟨i,rfl,za _ (zm hlt) ?_⟩
  refine⟨Fc hv (by omega) c.U[i] _ ⟨Qax,?_⟩,⟨Qax,?_⟩,Tv⟩
  ·rw[hfu]
   refine⟨iu,rfl,hiu,?_⟩
   refine Qbm ?_
   refine yk (i:=ti50) (row:=zf w.U[iu]) rfl rfl (xn yo hiu) ?_
   refine⟨⟨Qax,?_⟩,Tv⟩
   refine Qbl ?_
   refine Bj w.U[iu].kind (hm.hk _ (Faa hiu)) _ _ ?_
   refine bcd (λc3=>?_) (λc3=>?_)
   ·have hmo:Au w.U[ix] w.U[iu]=7:=by unfold Au;rw[if_pos c3]
    rw[hmo]at hA
    have e5:=M8 c1 Qaz
    rw[Db hlt hall Qbc,hA]at e5
    rw[e5]at h
    exact ret (h _ (by decide))
   refine V4 w.U[iu].pos w.U[ix].pos (hn _ (Faa hiu)) (hn _ (Faa hix)) _ _ ?_
   refine bcd (λc4=>?_) (λc4=>?_)
   ·have hmo:Au w.U[ix] w.U[iu]=8:=by unfold Au;rw[if_neg c3,if_pos c4]
    rw[hmo]at hA
    have e5:=M8 c1 Qaz
    rw[Db hlt hall Qbc,hA]at e5
    rw[e5]at h
    exact ret (h _ (by decide))
   have hmo:Au w.U[ix] w.U[iu]=0:=by unfold Au;rw[if_neg c3,if_neg c4]
   rw[hmo]at hA
   refine Qd ?_
   refine⟨i+1,?_,⟨by omega,rfl,λj hj hji=>?_⟩,Qbh,⟨rfl,rfl,Tv⟩⟩
   ·show c.U.length-(i+1)<c.U.length-i
    omega
   ·by_cases e:j=i
    ·subst e;exact hA
    ·exact hall j hj (by omega)
  ·refine⟨Fc hv (by omega) c.U[i] _ ⟨Qax,?_⟩,Tv⟩
   rw[hfu]
   refine⟨iu,rfl,hiu,?_⟩
   refine Qbm ?_
   refine yk (i:=ti50) (row:=zf w.U[iu]) rfl rfl (xn yo hiu) ?_
   refine Qbl ?_
   refine Bj w.U[iu].kind (hm.hk _ (Faa hiu)) _ _ ?_
   refine bcd (λc3=>?_) (λc3=>?_)
   ·have hmo:Au w.U[ix] w.U[iu]=7:=by unfold Au;rw[if_pos c3]
    rw[hmo]at hA
    have e5:=M8 c1 Qaz
    rw[Db hlt hall Qbc,hA]at e5
    rw[e5]at h
    exact ret (h _ (by decide))
   refine V4 w.U[iu].pos w.U[ix].pos (hn _ (Faa hiu)) (hn _ (Faa hix)) _ _ ?_
   refine bcd (λc4=>?_) (λc4=>?_)
   ·have hmo:Au w.U[ix] w.U[iu]=8:=by unfold Au;rw[if_neg c3,if_pos c4]
    rw[hmo]at hA
    have e5:=M8 c1 Qaz
    rw[Db hlt hall Qbc,hA]at e5
    rw[e5]at h
    exact ret (h _ (by decide))
   have hmo:Au w.U[ix] w.U[iu]=0:=by unfold Au;rw[if_neg c3,if_neg c4]
   rw[hmo]at hA
   refine Qd ?_
   refine⟨i+1,?_,⟨by omega,rfl,λj hj hji=>?_⟩,Qbh,⟨rfl,rfl,Tv⟩⟩
   ·show c.U.length-(i+1)<c.U.length-i
    omega
   ·by_cases e:j=i
    ·subst e;exact hA
    ·exact hall j hj (by omega)
 have:i=c.U.length:=qv h1 hi
 subst this
 have hzero:j9 (ldA w c.P c.N) c.U=0:=eh λj hj=>hall j hj hj
 have e5:=zyy c1 hzero
 rw[hux]at e5
 have hall:=I9 hzero
 refine Qc zb zpl ?_
 refine Qbm ?_
 refine⟨mp hv (by omega) c.N _ ⟨Qe,?_⟩,Tv⟩
 refine ze (by rw[zn,zn];omega) ?_
 refine⟨Bj w.U[ix].kind (hm.hk _ (Faa hix)) _ _ ⟨Qe,?_⟩,Tv⟩
 refine bcd (λh2=>?_) (λh2=>?_)
 ·rw[zn,zn]at h2
  rw[if_pos h2]at e5
  rw[e5]at h
  exact ret (h _ (by decide))
 rw[zn,zn]at h2
 rw[if_neg h2]at e5
 refine AWp.loop (σ:=Nat×Store) ⟨λx=>[(0,.av (ptr p)),(3,.bx 3 0),(9,.av (int (x.1:Nat)))],λ_=>[(3,qi c)],
  λx st'=>x.1<=c.U.length/\st'=x.2/\x.2.obj p=some (.cells (zw w (.s (.slice oa w.U.length cap))))/\RowsQ 10 zf x.2 (.s (.slice oa w.U.length cap)) (yy (c.U.take x.1) (ldU c.N) w.U),λx=>c.U.length-x.1⟩ zb ?_ ?_
 ·refine⟨(0,S),Tv,⟨Fag _,rfl,hp,?_⟩,Qbh,⟨rfl,Tv⟩⟩
  dsimp only
  rw[Fc8,ll]
  exact hv
 rintro⟨k,S0⟩ S1 ⟨hk,rfl,hp1,hr1⟩
 dsimp only at hk hp1 hr1⊢
 refine zh (λh1=>?_) (λh1=>?_)
 rotate_left
 ·have hkl:k=c.U.length:=qv h1 hk
  subst hkl
  rw[Fap]at hr1
  exact ret (h0 e5 _ _ hp1 hr1)
 have hlt:=qq h1
 obtain⟨iu,hiu,hfu,hidu,huu,_,_⟩:=Ft (rz (hall c.U[k] (Faa hlt))).1
 have hi2:iu<(yy (c.U.take k) (ldU c.N) w.U).length:=by rw[Ag];exact hiu
 have hf2:yx (yy (c.U.take k) (ldU c.N) w.U) c.U[k]=some iu:=by rw[ue (g:=ldU c.N) (λ_=>rfl)];exact hfu
 rcases hr1 with(⟨_,hl0⟩|⟨b,cap',J,e,ho,hc1,hc2,hc3⟩)|⟨_,_,_,hl0⟩
 ·rw[hl0]at hi2;exact absurd hi2 (Fa2 iu)
 rotate_left
 ·rw[hl0]at hi2;exact absurd hi2 (Fa2 iu)
 simp only[AV.s.injEq,Value.slice.injEq]at e
 obtain⟨rfl,e7,rfl⟩:=e
 have hcap:0<cap:=by omega
 have hbp:b≠p:=hoff b _ _ rfl hcap
 refine Qc zb zpk ?_
 refine Qbm ?_
 refine Qbm ?_
 refine⟨k,rfl,za _ (zm hlt) ?_⟩
 refine⟨Fc (w:={w with U:=yy (c.U.take k) (ldU c.N) w.U}) (.inl (.inr ⟨b,cap,J,by rw[e7],ho,hc1,hc2,hc3⟩)) (by rw[Ag];omega) c.U[k] _ ⟨(by repeat(first|exact Tv|refine⟨rfl,?_⟩|refine⟨⟨k,rfl,za _ (zm hlt) rfl⟩,?_⟩|refine⟨za (o:=S1.obj p) _ hp1 rfl,?_⟩)),?_⟩,Tv⟩
 dsimp only
 rw[hf2]
 refine⟨iu,rfl,hiu,?_⟩
 refine Qbl ?_
 have e8:(yy (c.U.take k) (ldU c.N) w.U).length=w.U.length:=Ag _ _ _
 have hidk:(yy (c.U.take k) (ldU c.N) w.U).set iu (ldU c.N (yy (c.U.take k) (ldU c.N) w.U)[iu])=yy (c.U.take (k+1)) (ldU c.N) w.U:=by
  have e5:c.U.take k++[w.U[iu].id]=c.U.take (k+1):=by rw[Fac hlt,hidu]
  have e6:ldU c.N ((yy (c.U.take k) (ldU c.N) w.U)[iu])=ldU c.N w.U[iu]:=by
   rw[Kt hiu]
   split<;>rfl
  rw[e6,lk hm.hr hiu,e5]
 generalize hgU:yy (c.U.take k) (ldU c.N) w.U=U1 at*
 refine jf (i:=ti2) (v:=int c.N) (b:=b) (o:=0+iu*10+8) (l:=(rws zf (U1)).flatten++J) rfl rfl rfl ho (show 0+iu*10+8+1<=_ by rw[Fad,ja yo,e8];omega) ?_
 have q1:=Cd (x':={U1[iu]with inn:=c.N}) (ys:=[int c.N]) (j:=8) ho hi2 (show 8+1<=10 by decide) rfl
 have p1:=(zi (st:=S1) (x:=.cells (zu ((rws zf (U1)).flatten++J) (0+iu*10+8) [int c.N])) (Ne.symm hbp)).trans hp1
 generalize S1.sO b _=S2 at q1 p1⊢
 refine j2 (i:=ti48) (v:=.agg [int 0,int 0]) (xs:=[int 0,int 0]) (b:=b) (o:=0+iu*10+3) (l:=(rws zf (U1.set iu {U1[iu]with inn:=c.N})).flatten++J) rfl rfl rfl q1 (show 0+iu*10+3+2<=_ by rw[Fad,ja yo,Faf,e8];omega) ?_
 have q2:=Cd (x':={U1[iu]with inn:=c.N,pos:=(0,0)}) (ys:=[int 0,int 0]) (j:=3) q1 Qba (by decide) Qbb
 rw[Fbx]at q2
 have p2:=(zi (st:=S2) (x:=.cells (zu ((rws zf (U1.set iu {U1[iu]with inn:=c.N})).flatten++J) (0+iu*10+3) [int 0,int 0])) (Ne.symm hbp)).trans p1
 generalize S2.sO b _=S3 at q2 p2⊢
 refine jf (i:=ti2) (v:=int (-1)) (b:=b) (o:=0+iu*10+5) (l:=(rws zf (U1.set iu {U1[iu]with inn:=c.N,pos:=(0,0)})).flatten++J) rfl rfl rfl q2 (show 0+iu*10+5+1<=_ by rw[Fad,ja yo,Faf,e8];omega) ?_
 have q3:=Cd (x':={U1[iu]with inn:=c.N,pos:=(0,0),goal:=-1}) (ys:=[int (-1)]) (j:=5) q2 Qba (by decide) Qbb
 rw[Fbx]at q3
 have p3:=(zi (st:=S3) (x:=.cells (zu ((rws zf (U1.set iu {U1[iu]with inn:=c.N,pos:=(0,0)})).flatten++J) (0+iu*10+5) [int (-1)])) (Ne.symm hbp)).trans p2
 generalize S3.sO b _=S4 at q3 p3⊢
 refine jf (i:=ti2) (v:=int (-1)) (b:=b) (o:=0+iu*10+6) (l:=(rws zf (U1.set iu {U1[iu]with inn:=c.N,pos:=(0,0),goal:=-1})).flatten++J) rfl rfl rfl q3 (show 0+iu*10+6+1<=_ by rw[Fad,ja yo,Faf,e8];omega) ?_
 have q4:=Cd (x':={U1[iu]with inn:=c.N,pos:=(0,0),goal:=-1,next:=-1}) (ys:=[int (-1)]) (j:=6) q3 Qba (by decide) Qbb
 rw[Fbx]at q4
 have p4:=(zi (st:=S4) (x:=.cells (zu ((rws zf (U1.set iu {U1[iu]with inn:=c.N,pos:=(0,0),goal:=-1})).flatten++J) (0+iu*10+6) [int (-1)])) (Ne.symm hbp)).trans p3
 generalize S4.sO b _=S5 at q4 p4⊢
 refine jf (i:=ti2) (v:=int 0) (b:=b) (o:=0+iu*10+7) (l:=(rws zf (U1.set iu {U1[iu]with inn:=c.N,pos:=(0,0),goal:=-1,next:=-1})).flatten++J) rfl rfl rfl q4 (show 0+iu*10+7+1<=_ by rw[Fad,ja yo,Faf,e8];omega) ?_
 have q5:=Cd (x':={U1[iu]with inn:=c.N,pos:=(0,0),goal:=-1,next:=-1,stuck:=0}) (ys:=[int 0]) (j:=7) q4 Qba (by decide) Qbb
 rw[Fbx]at q5
 have p5:=(zi (st:=S5) (x:=.cells (zu ((rws zf (U1.set iu {U1[iu]with inn:=c.N,pos:=(0,0),goal:=-1,next:=-1})).flatten++J) (0+iu*10+7) [int 0])) (Ne.symm hbp)).trans p4
 generalize S5.sO b _=S6 at q5 p5⊢
 refine jf (i:=ti2) (v:=int 0) (b:=b) (o:=0+iu*10+9) (l:=(rws zf (U1.set iu {U1[iu]with inn:=c.N,pos:=(0,0),goal:=-1,next:=-1,stuck:=0})).flatten++J) rfl rfl rfl q5 (show 0+iu*10+9+1<=_ by rw[Fad,ja yo,Faf,e8];omega) ?_
 have q6:=Cd (x':=ldU c.N U1[iu]) (ys:=[int 0]) (j:=9) q5 Qba (by decide) Qbb
 rw[Fbx]at q6
 have p6:=(zi (st:=S6) (x:=.cells (zu ((rws zf (U1.set iu {U1[iu]with inn:=c.N,pos:=(0,0),goal:=-1,next:=-1,stuck:=0})).flatten++J) (0+iu*10+9) [int 0])) (Ne.symm hbp)).trans p5
 generalize S6.sO b _=S7 at q6 p6⊢
 rw[hidk]at q6
 refine Qd ?_
 have e9:(yy (c.U.take (k+1)) (ldU c.N) w.U).length=w.U.length:=Ag _ _ _
 refine⟨(k+1,S7),?_,⟨by dsimp only;omega,rfl,p6,.inl (.inr ⟨b,cap,J,by rw[e9],q6,by rw[e9,<-e8];exact hc1,by rw[e9,<-e8];exact hc2,hc3⟩)⟩,Qbh,⟨rfl,Tv⟩⟩
 show c.U.length-(k+1)<c.U.length-k
 omega
theorem zvb(w:Wld)(hw:w.fits)(hn:∀u∈w.U,u.pos.ok)(hU:w.U.length<=1000000)(c:Cmd)(hc:c.fits)(hK:c.K=6):Jb 38 [.agg (zt w),.agg (qi c)] Store.empty (DoQ ldE ldW w c):=by
 refine Qa (c:=cfg 97 [6] []) zb Tryz.func38 ?_
 have bad:(¬z6 w\/¬j8 c\/w.players<c.P)->DoQ ldE ldW w c (.tup [.agg (zt w),int 1]) Store.empty:=λhb=>by
  have he:=Gm (E:=ldE) (w:=w) (c:=c) hb
  exact .inl ⟨by rw[he];decide,by rw[he]⟩
 refine F7 w hw hn _ _ (λz hz=>?_)
 refine yd ?_
 refine zh (λc1=>?_) (λc1=>?_)
 rotate_left
 ·exact ret (bad (.inl λhh=>by have:=hz.2 hh;rw[this]at c1;cases c1))
 refine Hr c hc _ _ (λzc hzc=>?_)
 refine yd ?_
 refine zh (λc2=>?_) (λc2=>?_)
 rotate_left
 ·exact ret (bad (.inr (.inl λhh=>by have:=hzc.2 hh;rw[this]at c2;cases c2)))
 refine bcd (λc3=>?_) (λc3=>?_)
 ·exact ret (bad (.inr (.inr (by omega))))
 have hm:=hz.1 c1
 have hcp:=hzc.1 c2
 have he:=Ho (E:=ldE) hm hcp (show c.P<=w.players by omega)
 have hok:=(Cmd.ok6 hK).1 hcp.1
 refine Hq w hw hU _ _ (λv N hv _=>?_)
 rw[Al]
 have hv:=hv.q
 have hoff:=λ(p:Nat) (hp:Fresh N p)=>Dk hv (vx (fresh_iff.1 hp)).1
 obtain⟨oa,cap,e,_⟩:=hv.form
 subst e
 refine λp hp=>?_
 refine j2 (i:=ti27) (v:=.agg (zw w (.s (.slice oa w.U.length cap)))) (xs:=zw w (.s (.slice oa w.U.length cap))) (b:=p) (o:=0) (l:=_) rfl rfl rfl (zd _ _ _) (show 0+8<=8 by decide) ?_
 generalize hS:(N.sO p _).sO p _=S
 have hp2:S.obj p=some (.cells (zw w (.s (.slice oa w.U.length cap)))):=by rw[<-hS];exact zd _ _ _
 have hr2:RowsQ 10 zf S (.s (.slice oa w.U.length cap)) w.U:=by rw[<-hS];exact(hv.set (hoff p hp) _).set (hoff p hp) _
 refine zy (λh=>absurd (hK.symm.trans h) (by decide)) (λ_=>?_)
 refine zy (λh=>absurd (hK.symm.trans h) (by decide)) (λ_=>?_)
 refine zy (λh=>absurd (hK.symm.trans h) (by decide)) (λ_=>?_)
 refine zy (λh=>absurd (hK.symm.trans h) (by decide)) (λ_=>?_)
 refine zy (λh=>absurd (hK.symm.trans h) (by decide)) (λ_=>?_)
 refine zy (λ_=>?_) (λh=>absurd hK h)
 refine zt4 hp2 hr2 (hoff p hp) hm hn c hok.1.1.2 hok.2.1 _ (λS' hE=>?_) (λhE S' v' g1 g2=>?_)
 ·refine qj (λ_=>?_) (λh=>absurd h hE)
  exact ret (.inl ⟨by rw[he];exact hE,by rw[he];rfl⟩)
 ·obtain⟨oa2,cap2,e2,_⟩:=g2.form
  subst e2
  refine Qbm ?_
  exact ret (.inr ⟨he.trans hE,_,g2,rfl⟩)
theorem zum:Hz 6 ldE ldW:=λw hw hn hU c hc hK R h=>I0 (zvb w hw hn hU c hc hK) R h
end
theorem max2_eq(a b:Int):max2 a b=max a b:=by
 unfold max2
 by_cases h:b>a
 ·rw[decide_eq_true h];show b=_;omega
 ·rw[decide_eq_false h];show a=_;omega
theorem zzc{f:FuncId}{xs:List AV}{l:List Int}(h0:Jb f xs Store.empty λr S=>RowsQ 1 yh S r l)(st:Store)(R:Ja)(h:R (qn l) st):Jb f xs st R:=by
 have h1:=h0.frozen (R:=λr=>r=qn l) (by
  rintro r S hv
  exact⟨_,rfl,λOth M w' v' sto hx=>RowsQ.borrow (f:=yh) (k:=1) (λ_=>rfl) (λx y hy=>by simp[yh]at hy;exact⟨_,hy,rfl⟩) hv sto hx⟩)
 have h2:Jb f xs Store.empty λr S=>r=qn l/\S=Store.empty:=
  h1.post (Store.Le.refl _) λr st' hr=>⟨r,Store.empty,AV.le_refl r,(bf st').toLe,hr,rfl⟩
 rw[<-wu st]
 exact ACalls.frame (I2 st) h2 λr S ⟨e,e2⟩ hd=>by subst e e2;rw[wu];exact h
theorem zth{α:Type}{k:Nat}{f:α->List AV}(S:Store):RowsQ k f S (.s (.slice none 0 0)) ([]:List α):=.inl (.inl ⟨rfl,rfl⟩)
theorem ro(i j:Int):max2 (max2 i (0-i)) (max2 j (0-j))=Ka i j:=by
 rw[max2_eq,max2_eq,max2_eq]
 unfold Ka
 omega
theorem ui(p:Nat->Bool)(i:Nat):∀e:Nat,∃m,(List.range (i+e)).filter p=(List.range i).filter p++m
 |0=>⟨[],by simp⟩
 |e+1=>by
  obtain⟨m,hm⟩:=ui p i e
  rw[show i+(e+1)=(i+e)+1 by omega,Fes,Fdn,hm,Fa3]
  exact⟨_,rfl⟩
theorem zom(g:Gnd)(f:Nat->Bool)(x y k d:Int):Fz g f x y k d=(List.range g.T.length).filter (λt=>kj g x y k d t&&f t):=by
 unfold Fz Pb
 rw[List.filter_filter]
 refine List.filter_congr λt _=>?_
 rw[Bool.and_comm]
theorem zs9(g:Gnd)(hg:zr g)(l:List Bld)(hl:l.length<=1000000000000)(hb:∀b∈l,yg b/\onP g b)(c:Int)(hc:c=0\/c=1\/c=2)(size:Int)(hs:0<=size/\size<=3)(goal:Nat)(hgl:goal<g.T.length)(n:Nat)(hn:n<=1000):
  Jb 124 [.agg (zp g),lst 6 zk l,int c,int size,int goal,int n] Store.empty λr S=>RowsQ 1 yh S r (j4 (D8 g (zj g l c size) size (goal:Int) n)):=by
 have hm:=qe hg
 have hg1:=hg.1
 have hg2:=hg.2.1
 have htb:=Bw hg (t:=goal) (by omega)
 have hq:=D4 (t:=goal) hg.1.1
 have hq2:=D5 (t:=goal) hg.1.1
 have hdone:=λ(d:Nat) hh=>zok hg (f:=zj g l c size) (size:=size) (goal:=(goal:Int)) (d:=d) (n:=n) ⟨by omega,by omega⟩ hh
 have hend:D8 g (zj g l c size) size (goal:Int) n=(vw g (zj g l c size) ((goal:Int)%g.W) ((goal:Int)/g.W) (2*size+1) (g.W+g.H+1).toNat).take n:=rfl
 have rg:=V1 g hg l hl hb c hc size hs.1
 unfold C6 at rg
 generalize zj g l c size=f at*
 refine Qa (c:=cfg 111) zb Tryz.func124 ?_
 refine rg _ _ ?_
 obtain⟨k,hk⟩:∃k:Int,2*size+1=k:=⟨_,rfl⟩
 refine Qd ?_
 refine Qd ?_
 refine Qc zb zsi ?_
 refine⟨by omega,?_⟩
 refine⟨by omega,?_⟩
 refine Qd ?_
 refine Qbk ?_
 refine Qbl ?_
 rw[hk]at hdone hend
 generalize hx:(goal:Int)%g.W=x at*
 generalize hy:(goal:Int)/g.W=y at*
 refine AWp.loop (σ:=Nat×AV) ⟨λs=>[(5,.av (int (n:Nat))),(6,.bx 6 0),(13,.av (lst 1 jt (blL g.T.length f))),(14,.av s.2),(15,.av (int k)),(16,.av (int x)),(17,.av (int y)),(18,.av (int (s.1:Nat)))],λ_=>[(6,zp g)],
  λs st'=>(s.1:Int)<=g.W+g.H+1/\RowsQ 1 yh st' s.2 (j4 ((vw g f x y k s.1).take n)),λs=>400-s.1⟩ zb ?_ ?_
 ·refine⟨(0,_),Tv,⟨by dsimp only;omega,?_⟩,⟨Tq,Tq,Tq,Tq,?_,?_,?_,Tq,Tv⟩,⟨rfl,Tv⟩⟩
  ·dsimp only
   show RowsQ 1 yh _ _ (j4 (([]:List Nat).take n))
   rw[List.take_nil]
   exact zth _
  ·rw[<-hk];exact Tq
  ·rw[<-hq];exact Tq
  ·rw[<-hq2];exact Tq
 rintro⟨d,v⟩ st' ⟨hd,hap⟩
 dsimp only at hd hap⊢
 obtain⟨oa,cap,e,_⟩:=hap.form
 subst e
 have hlenT:(j4 ((vw g f x y k d).take n)).length=((vw g f x y k d).take n).length:=K5 _
 refine Qd ?_
 refine bcd (λh1=>?_) (λh1=>?_)
 rotate_left
 ·have e:(g.W+g.H+1).toNat=d:=by omega
  rw[e]at hend
  exact ret (by rw[hend];exact hap)
 refine bcd (λh2=>?_) (λh2=>?_)
 rotate_left
 ·have e:=hdone d (.inl (by rw[hlenT,Fao]at h2;omega))
  exact ret (by rw[<-e];exact hap)
 have hstep:vw g f x y k (d+1)=vw g f x y k d++(List.range g.T.length).filter (λt=>kj g x y k d t&&f t):=by
  rw[<-zom];rfl
 generalize hA:vw g f x y k d=A at*
 refine AWp.loop (σ:=Nat×AV) ⟨λs=>[(5,.av (int (n:Nat))),(6,.bx 6 0),(13,.av (lst 1 jt (blL g.T.length f))),(14,.av s.2),(15,.av (int k)),(16,.av (int x)),(17,.av (int y)),(18,.av (int (d:Nat))),(19,.av (int (s.1:Nat)))],λ_=>[(6,zp g)],
  λs st'=>s.1<=g.T.length/\RowsQ 1 yh st' s.2 (j4 ((A++(List.range s.1).filter (λt=>kj g x y k d t&&f t)).take n)),λs=>g.T.length-s.1⟩ zb ?_ ?_
 ·refine⟨(0,_),Tv,⟨Fag _,?_⟩,⟨Tq,Tq,Tq,Tq,Tq,Tq,Tq,Tq,Tq,Tv⟩,⟨rfl,Tv⟩⟩
  dsimp only
  rw[List.range_zero,List.filter_nil,Fbv]
  exact hap
 rintro⟨i,v2⟩ st2 ⟨hi,hap2⟩
 dsimp only at hi hap2⊢
 obtain⟨oa2,cap2,e2,_⟩:=hap2.form
 subst e2
 have hlenT2:(j4 ((A++(List.range i).filter (λt=>kj g x y k d t&&f t)).take n)).length=((A++(List.range i).filter (λt=>kj g x y k d t&&f t)).take n).length:=K5 _
 have hTl:((A++(List.range i).filter (λt=>kj g x y k d t&&f t)).take n).length<=1000:=by rw[Fao];omega
 have done:(A++(List.range i).filter (λt=>kj g x y k d t&&f t)).take n=(vw g f x y k (d+1)).take n->RowsQ 1 yh st2 (.s (.slice oa2 (j4 ((A++(List.range i).filter (λt=>kj g x y k d t&&f t)).take n)).length cap2)) (j4 ((vw g f x y k (d+1)).take n)):=λe=>by
  rw[<-e];exact hap2
 have hdec0:400-(d+1)<400-d:=by omega
 refine bcd (λh3=>?_) (λh3=>?_)
 rotate_left
 ·rw[zn,xj]at h3
  have hin:i=g.T.length:=by omega
  refine Qd ?_
  exact⟨(d+1,_),hdec0,⟨by dsimp only;omega,done (by rw[hstep,hin])⟩,⟨Tq,Tq,Tq,Tq,Tq,Tq,Tq,Tq,Tv⟩,⟨rfl,Tv⟩⟩
 rw[zn,xj]at h3
 have hlt:i<g.T.length:=by omega
 refine bcd (λh4=>?_) (λh4=>?_)
 rotate_left
 ·refine Qd ?_
  refine⟨(d+1,_),hdec0,⟨by dsimp only;omega,done ?_⟩,⟨Tq,Tq,Tq,Tq,Tq,Tq,Tq,Tq,Tv⟩,⟨rfl,Tv⟩⟩
  obtain⟨m,hm2⟩:=ui (λt=>kj g x y k d t&&f t) i (g.T.length-i)
  rw[show i+(g.T.length-i)=g.T.length by omega]at hm2
  rw[hlenT2,Fao]at h4
  rw[hstep,hm2,<-Fa3]
  exact(Fbl (by omega)).symm
 rw[hlenT2]at h4
 have htb2:=Bw hg (t:=i) (by omega)
 have hp:=D4 (t:=i) hg.1.1
 have hp2:=D5 (t:=i) hg.1.1
 have hrb:kj g x y k d i=decide (Ka ((i:Int)%g.W-x) ((i:Int)/g.W-y)=d/\((i:Int)%g.W-x).tmod k=0/\((i:Int)/g.W-y).tmod k=0):=rfl
 rw[<-hp,<-hp2]at hrb htb2
 have hrs:=Fes (n:=i)
 have hsucc:(List.range (i+1)).filter (λt=>kj g x y k d t&&f t)=(List.range i).filter (λt=>kj g x y k d t&&f t)++[i].filter (λt=>kj g x y k d t&&f t):=by rw[hrs,Fdn]
 have hdec:g.T.length-(i+1)<g.T.length-i:=by omega
 have no:(kj g x y k d i&&f i)=false->RowsQ 1 yh st2 (.s (.slice oa2 (j4 ((A++(List.range i).filter (λt=>kj g x y k d t&&f t)).take n)).length cap2)) (j4 ((A++(List.range (i+1)).filter (λt=>kj g x y k d t&&f t)).take n)):=λhn=>by
  rw[hsucc,show [i].filter (λt=>kj g x y k d t&&f t)=[] by simp[hn],Fbv]
  exact hap2
 have hlt2:i<(blL g.T.length f).length:=by rw[xj];exact hlt
 refine Qc zb zsj ?_
 refine⟨by omega,?_⟩
 refine Qd ?_
 refine⟨by omega,?_⟩
 refine Qd ?_
 refine Qd ?_
 refine Qbk ?_
 refine Qbl ?_
 have hbd:(-128<=((i:Nat):Int).tmod g.W-x/\((i:Nat):Int).tmod g.W-x<=128)/\(-128<=((i:Nat):Int).tdiv g.W-y/\((i:Nat):Int).tdiv g.W-y<=128):=by omega
 generalize((i:Nat):Int).tmod g.W-x=dx at*
 generalize((i:Nat):Int).tdiv g.W-y=dy at*
 refine Qd ?_
 refine Qd ?_
 refine zy (λc1=>?_) (λc1=>?_)
 rotate_left
 ·have c1:¬Ka dx dy=d:=λe=>c1 ((ro dx dy).trans e)
  refine Qd ?_
  exact⟨(i+1,_),hdec,⟨by dsimp only;omega,no (by rw[hrb,decide_eq_false (λhh=>c1 hh.1),Fee])⟩,⟨Tq,Tq,Tq,Tq,Tq,Tq,Tq,Tq,Tq,Tv⟩,⟨rfl,Tv⟩⟩
 have c1:Ka dx dy=d:=(ro dx dy).symm.trans c1
 refine⟨by omega,?_⟩
 refine zy (λc2=>?_) (λc2=>?_)
 rotate_left
 ·refine Qd ?_
  exact⟨(i+1,_),hdec,⟨by dsimp only;omega,no (by rw[hrb,decide_eq_false (λhh=>c2 hh.2.1),Fee])⟩,⟨Tq,Tq,Tq,Tq,Tq,Tq,Tq,Tq,Tq,Tv⟩,⟨rfl,Tv⟩⟩
 refine⟨by omega,?_⟩
 refine zy (λc3=>?_) (λc3=>?_)
 rotate_left
 ·refine Qd ?_
  exact⟨(i+1,_),hdec,⟨by dsimp only;omega,no (by rw[hrb,decide_eq_false (λhh=>c3 hh.2.2),Fee])⟩,⟨Tq,Tq,Tq,Tq,Tq,Tq,Tq,Tq,Tq,Tv⟩,⟨rfl,Tv⟩⟩
 refine⟨i,rfl,za _ (zm hlt2) ?_⟩
 rw[Bb hlt]
 refine zh (λc4=>?_) (λc4=>?_)
 rotate_left
 ·refine Qd ?_
  exact⟨(i+1,_),hdec,⟨by dsimp only;omega,no (by rw[c4,Fe2])⟩,⟨Tq,Tq,Tq,Tq,Tq,Tq,Tq,Tq,Tq,Tv⟩,⟨rfl,Tv⟩⟩
 have hyes:(kj g x y k d i&&f i)=true:=by rw[hrb,decide_eq_true ⟨c1,c2,c3⟩,c4];rfl
 have hsn:=znq (A++(List.range i).filter (λt=>kj g x y k d t&&f t)) i n
 rw[if_pos ((znr _ _).1 (by omega)),Fa3,show [i]=[i].filter (λt=>kj g x y k d t&&f t) by simp[hyes],<-hsucc,show [i].filter (λt=>kj g x y k d t&&f t)=[i] by simp[hyes]]at hsn
 refine⟨by decide,?_⟩
 refine ee (ie:=ti2) rfl (λ_=>rfl) (by decide) hap2 (i:Int) rfl (by rw[hlenT2];omega) (λb cap3 L3 q1 q2 q3 q4=>?_)
 have h9:RowsQ 1 yh (st2.sO b _) _ _:=.inl (.inr ⟨b,cap3,L3,rfl,zd _ _ _,q2,q3,q4⟩)
 refine Qd ?_
 refine⟨(i+1,_),hdec,⟨by dsimp only;omega,?_⟩,⟨Tq,Tq,Tq,Tq,Tq,Tq,Tq,Tq,Tq,Tv⟩,⟨rfl,Tv⟩⟩
 dsimp only
 rw[hsn,zxp,show j4 [i]=[(i:Int)]from rfl]
 exact h9
theorem zs8(g:Gnd)(hg:zr g)(l:List Bld)(hl:l.length<=1000000000000)(hb:∀b∈l,yg b/\onP g b)(c:Int)(hc:c=0\/c=1\/c=2)(size:Int)(hs:0<=size/\size<=3)(goal:Nat)(hgl:goal<g.T.length)(n:Nat)(hn:n<=1000)(st:Store)(R:Ja)(h:R (qn (j4 (D8 g (zj g l c size) size (goal:Int) n))) st):
  Jb 124 [.agg (zp g),lst 6 zk l,int c,int size,int goal,int n] st R:=
 zzc (zs9 g hg l hl hb c hc size hs goal hgl n hn) st R h
theorem zyo{N:Store}{v:AV}{l:List Bld}(hv:RowsQ 6 zk N v l){Oth M:Nat->Nat->Prop}{w:World}(sto:StoreOK N Oth M w){x:Value}(hx:VRel w (λb o=>M b o\/Oth b o) v x):VRel w (λb o=>(M b o\/Oth b o)/\N.obj b=none) (lst 6 zk l) x:=hv.borrow I5 dp sto hx
theorem zw0{w:Wld}(hm:z6 w):∀u∈w.U,u.inn=0->qw u.pos.1 u.pos.2:=λu hu h0=>by
 have hg:=(jd hm).hg
 have hcl:=hm.2.1 u hu h0
 have h1:=hcl.1.1
 have hr:=Bl u.kind
 have h2:=hg.1
 have h3:=hg.2.1
 unfold qw
 omega
end Go.Proofs
namespace Go.Proofs
open Go Go.V
set_option maxRecDepth 20000
set_option maxHeartbeats 4000000
section
variable {i:Nat} {u:Unt} {w:Wld}
theorem p9{U:List Unt}{x:Unt}(h:u∈U.set i x):u=x\/u∈U:=by
 rcases Fez h with h|h
 ·exact .inr h
 ·exact .inl h
theorem zyj(h:MayF w)(hi:i<w.U.length)(hid:w.U[i].id=u.id)(hk:jv u.kind):MayF {w with U:=w.U.set i u}:=
 ⟨h.hg,h.hB,by show(w.U.set i u).length<=_;rw[Faf];exact h.hU,h.hT,h.hb,λx hx=>by
  rcases p9 (show x∈w.U.set i u from hx)with rfl|hx
  ·exact hk
  ·exact h.hk x hx,Pa h.hr hi hid,h.hn1,h.hn2⟩
theorem zdp{c:Cmd}(h:vk w c.P c.N≠0):ulE w c=vk w c.P c.N:=by unfold ulE;rw[if_neg h]
theorem zdo{c:Cmd}(h:vk w c.P c.N=0)(h2:¬(0<=c.T/\c.T<w.G.W*w.G.H)):ulE w c=3:=by unfold ulE;rw[if_pos h,if_neg h2]
theorem zdn{c:Cmd}(h:vk w c.P c.N=0)(h2:0<=c.T/\c.T<w.G.W*w.G.H)(h3:Fp (ya w.G c.T.toNat) (uAt w c.N).pos):ulE w c=8:=by unfold ulE;rw[if_pos h,if_pos h2,if_pos h3]
theorem zdm{c:Cmd}(h:vk w c.P c.N=0)(h2:0<=c.T/\c.T<w.G.W*w.G.H)(h3:¬Fp (ya w.G c.T.toNat) (uAt w c.N).pos)(h4:unl c.T (z8 w.U c.N) w=none):ulE w c=5:=by unfold ulE;rw[if_pos h,if_pos h2,if_neg h3,h4]
theorem zdl{c:Cmd}(h:vk w c.P c.N=0)(h2:0<=c.T/\c.T<w.G.W*w.G.H)(h3:¬Fp (ya w.G c.T.toNat) (uAt w c.N).pos){x:Wld}(h4:unl c.T (z8 w.U c.N) w=some x):ulE w c=0/\ulW w c=x:=by
 unfold ulE ulW
 rw[if_pos h,if_pos h2,if_neg h3,h4]
 exact⟨rfl,rfl⟩
theorem zzo(hr:yq w.U){n id:Int}(h:id∈z8 w.U n):∃i,∃hi:i<w.U.length,yx w.U id=some i:=by
 unfold z8 at h
 obtain⟨u,hu,rfl⟩:=Fae.1 h
 obtain⟨hu,_⟩:=Fbt.1 hu
 obtain⟨i,hi,rfl⟩:=Fak hu
 exact⟨i,hi,Lk hr hi rfl⟩
end
end Go.Proofs
namespace Go.Proofs
open Go Go.V
set_option maxRecDepth 20000
set_option maxHeartbeats 4000000
theorem Qbd{p:Prop}(h:p:=by repeat(first|exact Tv|refine⟨rfl,?_⟩|refine⟨za (o:=S.obj p) _ hp rfl,?_⟩|refine⟨⟨ix,rfl,hix,rfl⟩,?_⟩|refine⟨za (o:=S.obj b) _ hob (yk (i:=ti50) (row:=zf w.U[ix]) rfl rfl (xn yo hix) rfl),?_⟩)):p:=h
theorem mo(g:Gnd)(hg:zr g)(l:List Bld)(hl:l.length<=1000000000000)(hb:∀b∈l,yg b/\onP g b)(c:Int)(hc:c=0\/c=1\/c=2)(size:Int)(hs:0<=size/\size<=3)(goal:Nat)(hgl:goal<g.T.length)(tI:Int)(htI:tI=(goal:Int))(n:Nat)(hn:n<=1000)(st:Store)(R:Ja)(h:R (qn (j4 (D8 g (zj g l c size) size tI n))) st):
  Jb 124 [.agg (zp g),lst 6 zk l,int c,int size,int tI,int n] st R:=by
 subst htI
 exact zs8 g hg l hl hb c hc size hs goal hgl n hn st R h
theorem zsw{S:Store}{p:Nat}{w:Wld}{v:AV}(hp:S.obj p=some (.cells (zw w v)))(hv:RowsQ 10 zf S v w.U)(hoff:wj v p)(hm:MayF w)(hn:∀u∈w.U,u.pos.ok)(c:Cmd)(R:Ja)
  (h:∀S',ulE w c≠0->R (int (ulE w c)) S') (h0:ulE w c=0->∀S' v',S'.obj p=some (.cells (zw (ulW w c) v'))->RowsQ 10 zf S' v' (ulW w c).U->R (int 0) S'):Jb 83 [ptr p,.agg (qi c)] S R:=by
 have hU:=hm.hU
 have hB:=hm.hB
 obtain⟨oa,cap,e,hget⟩:=hv.form
 subst e
 have ha:=qe hm.hg
 refine Qb (c:=cfg 146) zb Tryz.func83 ?_
 refine AWp.seq (AWp.of_vc zb ?_)
 refine AWp.seq (AWp.of_vc zb ?_)
 refine Qc zb zph ?_
 refine Qbm ?_
 refine⟨nh hv (by omega) hm.hk c _ ⟨Qe,?_⟩,Tv⟩
 refine Qbl ?_
 refine AWp.seq (AWp.of_vc zb ?_)
 refine qj (λc1=>?_) (λc1=>?_)
 ·have:=zdp c1
  rw[this]at h
  exact ret (h _ c1)
 obtain⟨hask,hroom⟩:=dk c1
 obtain⟨ix,hix,hfx,hidx,hux,_,_⟩:=Ft hask
 refine AWp.seq (AWp.of_vc zb ?_)
 refine Qc zb zpd ?_
 refine Qbm ?_
 refine⟨Mb w.G c.T hm.hg _ _ (λz hz=>⟨Tv,?_⟩),Tv⟩
 refine yd ?_
 refine zh (λc2=>?_) (λc2=>?_)
 rotate_left
 ·have:=zdo c1 (λhh=>by have:=hz.2 hh;rw[this]at c2;cases c2)
  rw[this]at h
  exact ret (h _ (by decide))
 have htile:=hz.1 c2
 have htn:c.T=((c.T.toNat:Nat):Int):=by omega
 have htl:c.T.toNat<w.G.T.length:=by omega
 refine AWp.meetA (σ:=Unit) ⟨λ_=>[(0,.av (ptr p)),(3,.bx 3 0),(6,.bx 6 0)],λ_=>[(3,qi c),(6,zf w.U[ix])],λ_ st'=>st'=S⟩ ?_ ?_
 ·refine AWp.of_vc zb ?_
  refine Qc zb zpc ?_
  refine Qbm ?_
  refine Qbm ?_
  obtain⟨b,J,e2,hob⟩:=hget ix hix
  subst e2
  refine⟨Fc hv (by omega) c.N _ ⟨Qbd,?_⟩,⟨Qbd,?_⟩,Tv⟩
  ·rw[hfx]
   refine⟨ix,rfl,hix,?_⟩
   refine Qbm ?_
   refine yk (i:=ti50) (row:=zf w.U[ix]) rfl rfl (xn yo hix) ?_
   refine⟨⟨Qbd,?_⟩,Tv⟩
   refine Qbl ?_
   exact⟨(),rfl,Qbh,⟨rfl,rfl,Tv⟩⟩
  ·refine⟨Fc hv (by omega) c.N _ ⟨Qbd,?_⟩,Tv⟩
   rw[hfx]
   refine⟨ix,rfl,hix,?_⟩
   refine Qbm ?_
   refine yk (i:=ti50) (row:=zf w.U[ix]) rfl rfl (xn yo hix) ?_
   refine Qbl ?_
   exact⟨(),rfl,Qbh,⟨rfl,rfl,Tv⟩⟩
 rintro _ S rfl
 refine AWp.of_vc zb ?_
 refine Qc zb zpb ?_
 refine Qbm ?_
 refine⟨Gp w.G hm.hg c.T.toNat htl _ htn _ _ ⟨Qe,?_⟩,Tv⟩
 refine⟨V4 (ya w.G c.T.toNat) w.U[ix].pos (Ry hm.hg htl) (hn _ (Faa hix)) _ _ ⟨Tv,?_⟩,Tv⟩
 refine bcd (λc3=>?_) (λc3=>?_)
 ·have:=zdn c1 htile (by rw[hux];exact c3)
  rw[this]at h
  exact ret (h _ (by decide))
 have e4:=λh4=>zdm (w:=w) (c:=c) c1 htile (by rw[hux];exact c3) h4
 have e5:=λx h4=>zdl (w:=w) (c:=c) c1 htile (by rw[hux];exact c3) (x:=x) h4
 have hids:=λid (hid:id∈z8 w.U c.N)=>zzo (w:=w) hm.hr hid
 have hin:(z8 w.U c.N).length<=w.U.length:=by unfold z8;rw[Fa4];exact Fcj _ _
 refine Qc zb zpa ?_
 refine Qbm ?_
 refine⟨mp hv (by omega) c.N _ ⟨Qe,?_⟩,Tv⟩
 refine Qbl ?_
 generalize z8 w.U c.N=ids at*
 refine AWp.loop (σ:=Nat×Wld×Store) ⟨λx=>[(0,.av (ptr p)),(3,.bx 3 0),(7,.av (qn ids)),(8,.av (int (x.1:Nat)))],λ_=>[(3,qi c)],
  λx st'=>x.1<=ids.length/\st'=x.2.2/\x.2.2.obj p=some (.cells (zw x.2.1 (.s (.slice oa w.U.length cap))))/\RowsQ 10 zf x.2.2 (.s (.slice oa w.U.length cap)) x.2.1.U/\unl c.T (ids.drop x.1) x.2.1=unl c.T ids w/\MayF x.2.1/\(∀u∈x.2.1.U,u.pos.ok)/\x.2.1.U.length=w.U.length/\x.2.1.G=w.G/\∀id,yx x.2.1.U id=yx w.U id,λx=>ids.length-x.1⟩ zb ?_ ?_
 ·exact⟨(0,w,S),Tv,⟨Fag _,rfl,hp,hv,by rw[Fcc],hm,hn,rfl,rfl,λ_=>rfl⟩,Qbh,⟨rfl,Tv⟩⟩
 rintro⟨k,wc,S0⟩ S1 ⟨hk,rfl,hp1,hr1,hun,hm1,hn1,hl1,hG1,hf1⟩
 dsimp only at hk hp1 hr1 hun hm1 hn1 hl1 hG1 hf1⊢
 refine zh (λh1=>?_) (λh1=>?_)
 rotate_left
 ·have hkl:k=ids.length:=qv h1 hk
  subst hkl
  rw[List.drop_length]at hun
  obtain⟨g1,g2⟩:=e5 wc hun.symm
  rw[g2]at h0
  exact ret (h0 g1 _ _ hp1 hr1)
 have hlt:=qq h1
 obtain⟨iu,hiu,hfu⟩:=hids _ (Faa hlt)
 have hiu1:iu<wc.U.length:=by omega
 have hfu1:yx wc.U ids[k]=some iu:=by rw[hf1];exact hfu
 rw[Fe1 hlt]at hun
 have hr9:=hr1
 rcases hr1 with(⟨_,hl0⟩|⟨b,cap',J,e,ho,hc1,hc2,hc3⟩)|⟨_,_,_,hl0⟩
 ·rw[hl0]at hiu1;exact absurd hiu1 (Fa2 iu)
 rotate_left
 ·rw[hl0]at hiu1;exact absurd hiu1 (Fa2 iu)
 simp only[AV.s.injEq,Value.slice.injEq]at e
 obtain⟨rfl,e7,rfl⟩:=e
 have hcap:0<cap:=by omega
 have hbp:b≠p:=hoff b _ _ rfl hcap
 refine Qc zb zpg ?_
 refine Qbm ?_
 refine Qbm ?_
 refine⟨k,rfl,za _ (zm hlt) ?_⟩
 refine⟨Fc hr9 (by omega) ids[k] _ ⟨(by repeat(first|exact Tv|refine⟨rfl,?_⟩|refine⟨⟨k,rfl,za _ (zm hlt) rfl⟩,?_⟩|refine⟨za (o:=S1.obj p) _ hp1 rfl,?_⟩)),?_⟩,Tv⟩
 rw[hfu1]
 refine⟨iu,rfl,hiu,?_⟩
 refine Qbl ?_
 have fld:∀j,(hj:j<10)->∀{y:AV},(zf wc.U[iu])[j]?=some y->(((rws zf wc.U).flatten++J).drop (0+iu*10+j)).head?=some y:=λj hj y hy=>P9 hiu1 hj hy
 refine Qbm ?_
 refine za (o:=List.head? _) (int wc.U[iu].kind) (fld 2 (by decide) rfl) ?_
 refine Bj wc.U[iu].kind (hm1.hk _ (Faa hiu1)) _ _ ?_
 refine Qc zb zpf ?_
 refine Qbm ?_
 refine Qbm ?_
 refine⟨mo wc.G hm1.hg wc.B (by have:=hm1.hB;omega) hm1.hb (yf wc.U[iu].kind) (Gd _) (qg wc.U[iu].kind) (K9 _) c.T.toNat (by rw[hG1];exact htl) c.T htn 64 (by decide) _ _ ⟨Qe,?_⟩,Tv⟩
 refine Qbl ?_
 have hsu:D8 wc.G (zj wc.G wc.B (yf wc.U[iu].kind) (qg wc.U[iu].kind)) (qg wc.U[iu].kind) c.T 64=xz wc (wc.U[iu]'hiu1).kind c.T 64:=rfl
 rw[hsu]
 have hlen:=zol wc wc.U[iu].kind c.T 64
 have hlt3:=λ(t2:Nat) (h2:t2∈xz wc wc.U[iu].kind c.T 64)=>(Vq h2).1
 have hsome:=λ(j:Nat) (hj:j<(xz wc (wc.U[iu]'hiu1).kind c.T 64).length)=>zwp (w:=wc) (u:=wc.U[iu]'hiu1) (tile:=c.T) (j:=j) hj
 have hnone:=zwq (w:=wc) (u:=wc.U[iu]'hiu1) (tile:=c.T)
 generalize xz wc wc.U[iu].kind c.T 64=sl at*
 refine AWp.loop (σ:=Nat×Int) ⟨λx=>[(0,.av (ptr p)),(3,.bx 3 0),(7,.av (qn ids)),(8,.av (int (k:Nat))),(9,.av (.s (.pointer (some ⟨b,0+iu*10,none⟩)))),(11,.av (qn (j4 sl))),(12,.av (int x.2)),(13,.av (int (x.1:Nat)))],λ_=>[(3,qi c)],
  λx st'=>x.1<=sl.length/\st'=S1/\((x.2=-1/\∀j,(hj:j<sl.length)->j<x.1->¬qa wc wc.U[iu].id wc.U[iu].kind (ya wc.G sl[j]))\/∃t2:Nat,x.2=t2/\t2<wc.G.T.length/\Cq wc wc.U[iu] c.T=some t2),λx=>sl.length-x.1⟩ zb ?_ ?_
 ·exact⟨(0,-1),Tv,⟨Fag _,rfl,.inl ⟨rfl,λj _ hj=>by dsimp only at hj;omega⟩⟩,Qbh,⟨rfl,Tv⟩⟩
 rintro⟨j,at1⟩ S1 ⟨hj,rfl,hat⟩
 dsimp only at hj hat⊢
 rcases hat with⟨rfl,hall⟩|⟨t2,rfl,ht2,hso⟩
 ·refine bcd (λc5=>?_) (λc5=>?_)
  rotate_left
  ·rw[zn,K5]at c5
   have hno:=hnone λj' hj'=>hall j' hj' (by omega)
   rw[Sv hiu1 hfu1 hno]at hun
   have g5:=e4 hun.symm
   rw[g5]at h
   exact ret (h _ (by decide))
  rw[zn,K5]at c5
  have hjl:j<sl.length:=by omega
  have hjl2:j<(j4 sl).length:=by rw[K5];exact hjl
  have hsl:=hlt3 _ (Faa hjl)
  have hnat:(j4 sl)[j]'hjl2=((sl[j]:Nat):Int):=Fcf ..
  have hdec:sl.length-(j+1)<sl.length-j:=by omega
  refine Qc zb zpe ?_
  refine Qbm ?_
  refine Qbm ?_
  refine za (o:=List.head? _) (int wc.U[iu].id) (fld 0 (by decide) rfl) ?_
  refine Qbm ?_
  refine za (o:=List.head? _) (int wc.U[iu].kind) (fld 2 (by decide) rfl) ?_
  refine Qbm ?_
  refine⟨j,rfl,za _ (zm hjl2) ?_⟩
  refine⟨Gp wc.G hm1.hg sl[j] hsl _ hnat _ _ ⟨(by repeat(first|exact Tv|refine⟨rfl,?_⟩|refine⟨za (o:=S1.obj p) _ hp1 rfl,?_⟩|refine⟨za (o:=S1.obj b) _ ho (za (o:=List.head? _) _ (fld 0 (by decide) rfl) rfl),?_⟩|refine⟨za (o:=S1.obj b) _ ho (za (o:=List.head? _) _ (fld 2 (by decide) rfl) rfl),?_⟩|refine⟨⟨j,rfl,za _ (zm hjl2) rfl⟩,?_⟩)),?_⟩,Tv⟩
  refine⟨ng hr9 hm1 hn1 wc.U[iu].id wc.U[iu].kind (hm1.hk _ (Faa hiu1)) (ya wc.G sl[j]) (Ry hm1.hg hsl) _ (λz hz=>⟨Tv,?_⟩),Tv⟩
  refine zh (λc6=>?_) (λc6=>?_)
  ·refine⟨j,rfl,za _ (zm hjl2) ?_⟩
   have hout:=hsome j hjl (λi' hi' hii=>hall i' hi' hii) (hz.1 c6)
   refine Qd ?_
   exact⟨(j+1,(j4 sl)[j]'hjl2),hdec,⟨by dsimp only;omega,rfl,.inr ⟨sl[j],hnat,hsl,hout⟩⟩,Qbh,⟨rfl,Tv⟩⟩
  ·refine Qd ?_
   refine⟨(j+1,-1),hdec,⟨by dsimp only;omega,rfl,.inl ⟨rfl,λj' hj' hjj=>?_⟩⟩,Qbh,⟨rfl,Tv⟩⟩
   by_cases e:j'=j
   ·subst e
    intro hh
    have:=hz.2 hh
    rw[this]at c6;cases c6
   ·exact hall j' hj' (by dsimp only at hjj;omega)
 ·rw[Su hiu1 hfu1 hso]at hun
  have hk1:MayF {wc with U:=wc.U.set iu (Be wc.U[iu] (ya wc.G t2))}:=zyj hm1 hiu1 rfl (show jv wc.U[iu].kind from hm1.hk _ (Faa hiu1))
  have hnn:∀u∈wc.U.set iu (Be wc.U[iu] (ya wc.G t2)),u.pos.ok:=λu hu=>by
   rcases p9 hu with rfl|hu
   ·exact Ry hm1.hg ht2
   ·exact hn1 u hu
  have hff:∀id,yx (wc.U.set iu (Be wc.U[iu] (ya wc.G t2))) id=yx w.U id:=λid=>by
   rw[yb1 hm1.hr hiu1 (u:=Be wc.U[iu] (ya wc.G t2)) rfl]
   exact hf1 id
  have hll:(wc.U.set iu (Be wc.U[iu] (ya wc.G t2))).length=w.U.length:=by rw[Faf];exact hl1
  have u1:RowsQ 10 zf S1 (.s (.slice (some ⟨b,0,none⟩) w.U.length cap)) wc.U:=hr9
  refine bcd (λc5=>?_) (λc5=>?_)
  all_goals
   refine Qbm ?_
   refine Gp wc.G hm1.hg t2 ht2 _ rfl _ _ ?_
   refine jf (i:=ti2) (v:=int 0) (b:=b) (o:=0+iu*10+8) (l:=(rws zf wc.U).flatten++J) rfl rfl rfl ho (show 0+iu*10+8+1<=_ by rw[Fad,ja yo];omega) ?_
   have q1:=Cd (x':={wc.U[iu]with inn:=0}) (ys:=[int 0]) (j:=8) ho hiu1 (by decide) rfl
   have p1:=(zi (st:=S1) (x:=.cells (zu ((rws zf wc.U).flatten++J) (0+iu*10+8) [int 0])) (Ne.symm hbp)).trans hp1
   generalize S1.sO b _=S2 at q1 p1⊢
   refine j2 (i:=ti48) (v:=.agg (zo (ya wc.G t2))) (xs:=zo (ya wc.G t2)) (b:=b) (o:=0+iu*10+3) (l:=(rws zf (wc.U.set iu {wc.U[iu]with inn:=0})).flatten++J) rfl rfl rfl q1 (show 0+iu*10+3+2<=_ by rw[Fad,ja yo,Faf];omega) ?_
   have q2:=Cd (x':=Be wc.U[iu] (ya wc.G t2)) (ys:=zo (ya wc.G t2)) (j:=3) q1 (by rw[Faf];exact hiu1) (show 3+2<=10 by decide) (by rw[Fbp];rfl)
   rw[Fbx]at q2
   have p2:=(zi (st:=S2) (x:=.cells (zu ((rws zf (wc.U.set iu {wc.U[iu]with inn:=0})).flatten++J) (0+iu*10+3) (zo (ya wc.G t2)))) (Ne.symm hbp)).trans p1
   generalize S2.sO b _=S3 at q2 p2⊢
   refine Qd ?_
   refine⟨(k+1,{wc with U:=wc.U.set iu (Be wc.U[iu] (ya wc.G t2))},S3),?_,⟨by dsimp only;omega,rfl,p2,.inl (.inr ⟨b,cap,J,by rw[hll],q2,by rw[Faf];exact hc1,by rw[Faf];exact hc2,hc3⟩),hun,hk1,hnn,hll,hG1,hff⟩,Qbh,⟨rfl,Tv⟩⟩
   show ids.length-(k+1)<ids.length-k
   omega
theorem zva(w:Wld)(hw:w.fits)(hn:∀u∈w.U,u.pos.ok)(hU:w.U.length<=1000000)(c:Cmd)(hc:c.fits)(hK:c.K=7):Jb 38 [.agg (zt w),.agg (qi c)] Store.empty (DoQ ulE ulW w c):=by
 refine Qa (c:=cfg 97 [6] []) zb Tryz.func38 ?_
 have bad:(¬z6 w\/¬j8 c\/w.players<c.P)->DoQ ulE ulW w c (.tup [.agg (zt w),int 1]) Store.empty:=λhb=>by
  have he:=Gm (E:=ulE) (w:=w) (c:=c) hb
  exact .inl ⟨by rw[he];decide,by rw[he]⟩
 refine F7 w hw hn _ _ (λz hz=>?_)
 refine yd ?_
 refine zh (λc1=>?_) (λc1=>?_)
 rotate_left
 ·exact ret (bad (.inl λhh=>by have:=hz.2 hh;rw[this]at c1;cases c1))
 refine Hr c hc _ _ (λzc hzc=>?_)
 refine yd ?_
 refine zh (λc2=>?_) (λc2=>?_)
 rotate_left
 ·exact ret (bad (.inr (.inl λhh=>by have:=hzc.2 hh;rw[this]at c2;cases c2)))
 refine bcd (λc3=>?_) (λc3=>?_)
 ·exact ret (bad (.inr (.inr (by omega))))
 have hm:=hz.1 c1
 have hcp:=hzc.1 c2
 have he:=Ho (E:=ulE) hm hcp (show c.P<=w.players by omega)
 refine Hq w hw hU _ _ (λv N hv _=>?_)
 rw[Al]
 have hv:=hv.q
 have hoff:=λ(p:Nat) (hp:Fresh N p)=>Dk hv (vx (fresh_iff.1 hp)).1
 obtain⟨oa,cap,e,_⟩:=hv.form
 subst e
 refine λp hp=>?_
 refine j2 (i:=ti27) (v:=.agg (zw w (.s (.slice oa w.U.length cap)))) (xs:=zw w (.s (.slice oa w.U.length cap))) (b:=p) (o:=0) (l:=_) rfl rfl rfl (zd _ _ _) (show 0+8<=8 by decide) ?_
 generalize hS:(N.sO p _).sO p _=S
 have hp2:S.obj p=some (.cells (zw w (.s (.slice oa w.U.length cap)))):=by rw[<-hS];exact zd _ _ _
 have hr2:RowsQ 10 zf S (.s (.slice oa w.U.length cap)) w.U:=by rw[<-hS];exact(hv.set (hoff p hp) _).set (hoff p hp) _
 refine zy (λh=>absurd (hK.symm.trans h) (by decide)) (λ_=>?_)
 refine zy (λh=>absurd (hK.symm.trans h) (by decide)) (λ_=>?_)
 refine zy (λh=>absurd (hK.symm.trans h) (by decide)) (λ_=>?_)
 refine zy (λh=>absurd (hK.symm.trans h) (by decide)) (λ_=>?_)
 refine zy (λh=>absurd (hK.symm.trans h) (by decide)) (λ_=>?_)
 refine zy (λh=>absurd (hK.symm.trans h) (by decide)) (λ_=>?_)
 refine zy (λ_=>?_) (λh=>absurd hK h)
 refine zsw hp2 hr2 (hoff p hp) (jd hm) hn c _ (λS' hE=>?_) (λhE S' v' g1 g2=>?_)
 ·refine qj (λ_=>?_) (λh=>absurd h hE)
  exact ret (.inl ⟨by rw[he];exact hE,by rw[he];rfl⟩)
 ·obtain⟨oa2,cap2,e2,_⟩:=g2.form
  subst e2
  refine Qbm ?_
  exact ret (.inr ⟨he.trans hE,_,g2,rfl⟩)
theorem zul:Hz 7 ulE ulW:=λw hw hn hU c hc hK R h=>I0 (zva w hw hn hU c hc hK) R h
theorem Qbe{p:Prop}(h:p:=by rw[Faf];exact hiL):p:=h
theorem Qbf{p:Prop}(h:p:=by rw[Fbp];rfl):p:=h
theorem zt3{S:Store}{p:Nat}{w:Wld}{v:AV}(hp:S.obj p=some (.cells (zw w v)))(hv:RowsQ 10 zf S v w.U)(hoff:wj v p)(hm:MayF w)(hn:∀u∈w.U,u.pos.ok)(c:Cmd)(hcU:c.U.length<=64)(R:Ja)
  (h:∀S',mvE w c≠0->R (int (mvE w c)) S') (h0:mvE w c=0->∀S' v',S'.obj p=some (.cells (zw (mvW w c) v'))->RowsQ 10 zf S' v' (mvW w c).U->R (int 0) S'):Jb 78 [ptr p,.agg (qi c)] S R:=by
 have hU:=hm.hU
 have hB:=hm.hB
 obtain⟨oa,cap,e,hget⟩:=hv.form
 subst e
 have ha:=qe hm.hg
 refine Qa (c:=cfg 95) zb Tryz.func78 ?_
 refine Qc zb zpy ?_
 refine Qbm ?_
 refine⟨Mb w.G c.T hm.hg _ _ (λz hz=>⟨Tv,?_⟩),Tv⟩
 refine yd ?_
 refine zh (λc2=>?_) (λc2=>?_)
 rotate_left
 ·have:=pz (w:=w) (c:=c) (λhh=>by have:=hz.2 hh;rw[this]at c2;cases c2)
  rw[this]at h
  exact ret (h _ (by decide))
 have htile:=hz.1 c2
 have htn:c.T=((c.T.toNat:Nat):Int):=by omega
 have htl:c.T.toNat<w.G.T.length:=by omega
 have hE:=py htile
 rw[hE]at h h0
 refine Qc zb zpw ?_
 refine Qbm ?_
 refine⟨nj hv (by omega) c (by omega) _ ⟨Qe,?_⟩,Tv⟩
 refine Qbl ?_
 refine qj (λc3=>?_) (λc3=>?_)
 ·exact ret (h _ c3)
 have hzero:=I9 c3
 refine AWp.loop (σ:=Nat×Store) ⟨λx=>[(0,.av (ptr p)),(3,.bx 3 0),(6,.av (int (x.1:Nat)))],λ_=>[(3,qi c)],
  λx st'=>x.1<=c.U.length/\st'=x.2/\x.2.obj p=some (.cells (zw w (.s (.slice oa w.U.length cap))))/\RowsQ 10 zf x.2 (.s (.slice oa w.U.length cap)) (mvL w c x.1),λx=>c.U.length-x.1⟩ zb ?_ ?_
 ·exact⟨(0,S),Tv,⟨Fag _,rfl,hp,hv⟩,Qbh,⟨rfl,Tv⟩⟩
 rintro⟨k,S0⟩ S1 ⟨hk,rfl,hp1,hr1⟩
 dsimp only at hk hp1 hr1⊢
 refine zh (λh1=>?_) (λh1=>?_)
 rotate_left
 ·have hkl:k=c.U.length:=qv h1 hk
  subst hkl
  exact ret (h0 c3 _ _ hp1 hr1)
 have hlt:=qq h1
 obtain⟨i,hi,hf,hid,hu,how,hin⟩:=Ft (hzero c.U[k] (Faa hlt))
 obtain⟨U1,hgU⟩:∃U1,U1=mvL w c k:=⟨_,rfl⟩
 have hiL:i<U1.length:=by rw[hgU,At];exact hi
 have hf2:yx U1 c.U[k]=some i:=by rw[hgU,zxs hm.hr];exact hf
 have hstep:mvL w c (k+1)=U1.set i (mvG (Ab w c k w.U[i].kind) w.U[i]):=by rw[hgU];exact pr hlt hf hi
 have hcore:mvG 0 U1[i]=mvG 0 w.U[i]:=by subst hgU;exact M4 w c k i hi
 have hlL:U1.length=w.U.length:=by rw[hgU];exact At w c k
 have hlL2:=At w c (k+1)
 have hkd:U1[i].kind=w.U[i].kind:=(Ha hcore).2.2.1
 rw[<-hgU]at hr1
 clear hgU
 have hr9:=hr1
 rcases hr1 with(⟨_,hl0⟩|⟨b,cap',J,e,ho,hc1,hc2,hc3⟩)|⟨_,_,_,hl0⟩
 ·rw[hl0]at hiL;exact absurd hiL (Fa2 i)
 rotate_left
 ·rw[hl0]at hiL;exact absurd hiL (Fa2 i)
 simp only[AV.s.injEq,Value.slice.injEq]at e
 obtain⟨rfl,e7,rfl⟩:=e
 have hcap:0<cap:=by omega
 have hbp:b≠p:=hoff b _ _ rfl hcap
 refine Qc zb zpv ?_
 refine Qbm ?_
 refine Qbm ?_
 refine⟨k,rfl,za _ (zm hlt) ?_⟩
 refine⟨Fc (w:={w with U:=U1}) hr9 (by dsimp only;omega) c.U[k] _ ⟨(by repeat(first|exact Tv|refine⟨rfl,?_⟩|refine⟨⟨k,rfl,za _ (zm hlt) rfl⟩,?_⟩|refine⟨za (o:=S1.obj p) _ hp1 rfl,?_⟩)),?_⟩,Tv⟩
 dsimp only
 rw[hf2]
 refine⟨i,rfl,hi,?_⟩
 refine Qbl ?_
 have fld:∀j,(hj:j<10)->∀{y:AV},(zf U1[i])[j]?=some y->(((rws zf U1).flatten++J).drop (0+i*10+j)).head?=some y:=λj hj y hy=>P9 hiL hj hy
 refine Qbm ?_
 refine za (o:=List.head? _) (int U1[i].kind) (fld 2 (by decide) rfl) ?_
 rw[hkd]
 refine Bj w.U[i].kind (hm.hk _ (Faa hi)) _ _ ?_
 refine Qc zb zpx ?_
 refine Qbm ?_
 refine Qbm ?_
 refine⟨mo w.G hm.hg w.B (by omega) hm.hb (yf w.U[i].kind) (Gd _) (qg w.U[i].kind) (K9 _) c.T.toNat htl c.T htn (rws yh c.U).length (by rw[zn];omega) _ _ ⟨Qe,?_⟩,Tv⟩
 refine Qbl ?_
 have hsu:D8 w.G (zj w.G w.B (yf w.U[i].kind) (qg w.U[i].kind)) (qg w.U[i].kind) c.T (rws yh c.U).length=xz w w.U[i].kind c.T c.U.length:=by rw[zn];rfl
 rw[hsu]
 have e8:U1.length=w.U.length:=hlL
 refine jf (i:=ti2) (v:=int c.T) (b:=b) (o:=0+i*10+5) (l:=(rws zf U1).flatten++J) rfl rfl rfl ho (show 0+i*10+5+1<=_ by rw[Fad,ja yo];omega) ?_
 have q1:=Cd (x':={U1[i]with goal:=c.T}) (ys:=[int c.T]) (j:=5) ho hiL (show 5+1<=10 by decide) rfl
 have p1:=(zi (st:=S1) (x:=.cells (zu ((rws zf U1).flatten++J) (0+i*10+5) [int c.T])) (Ne.symm hbp)).trans hp1
 generalize S1.sO b _=S2 at q1 p1⊢
 refine jf (i:=ti2) (v:=int (-1)) (b:=b) (o:=0+i*10+6) (l:=(rws zf (U1.set i {U1[i]with goal:=c.T})).flatten++J) rfl rfl rfl q1 (show 0+i*10+6+1<=_ by rw[Fad,ja yo,Faf];omega) ?_
 have q2:=Cd (x':={U1[i]with goal:=c.T,next:=-1}) (ys:=[int (-1)]) (j:=6) q1 Qbe (by decide) Qbf
 rw[Fbx]at q2
 have p2:=(zi (st:=S2) (x:=.cells (zu ((rws zf (U1.set i {U1[i]with goal:=c.T})).flatten++J) (0+i*10+6) [int (-1)])) (Ne.symm hbp)).trans p1
 generalize S2.sO b _=S3 at q2 p2⊢
 refine jf (i:=ti2) (v:=int 0) (b:=b) (o:=0+i*10+7) (l:=(rws zf (U1.set i {U1[i]with goal:=c.T,next:=-1})).flatten++J) rfl rfl rfl q2 (show 0+i*10+7+1<=_ by rw[Fad,ja yo,Faf];omega) ?_
 have q3:=Cd (x':={U1[i]with goal:=c.T,next:=-1,stuck:=0}) (ys:=[int 0]) (j:=7) q2 Qbe (by decide) Qbf
 rw[Fbx]at q3
 have p3:=(zi (st:=S3) (x:=.cells (zu ((rws zf (U1.set i {U1[i]with goal:=c.T,next:=-1})).flatten++J) (0+i*10+7) [int 0])) (Ne.symm hbp)).trans p2
 generalize S3.sO b _=S4 at q3 p3⊢
 refine jf (i:=ti2) (v:=int 1) (b:=b) (o:=0+i*10+9) (l:=(rws zf (U1.set i {U1[i]with goal:=c.T,next:=-1,stuck:=0})).flatten++J) rfl rfl rfl q3 (show 0+i*10+9+1<=_ by rw[Fad,ja yo,Faf];omega) ?_
 have q4:=Cd (x':=mvG c.T U1[i]) (ys:=[int 1]) (j:=9) q3 Qbe (by decide) Qbf
 rw[Fbx]at q4
 have p4:=(zi (st:=S4) (x:=.cells (zu ((rws zf (U1.set i {U1[i]with goal:=c.T,next:=-1,stuck:=0})).flatten++J) (0+i*10+9) [int 1])) (Ne.symm hbp)).trans p3
 generalize S4.sO b _=S5 at q4 p4⊢
 have hlen:=K5 (xz w w.U[i].kind c.T c.U.length)
 have fin:∀g,g=Ab w c k w.U[i].kind->U1.set i (mvG g U1[i])=mvL w c (k+1):=λg hg=>by
  rw[hstep,zxu hcore,hg]
 have hdec:c.U.length-(k+1)<c.U.length-k:=by omega
 refine bcd (λc5=>?_) (λc5=>?_)
 ·rw[zn,hlen]at c5
  have hk2:k<(j4 (xz w w.U[i].kind c.T c.U.length)).length:=by rw[hlen];omega
  have hk3:k<(xz w w.U[i].kind c.T c.U.length).length:=by omega
  have hg9:(j4 (xz w w.U[i].kind c.T c.U.length))[k]=Ab w c k w.U[i].kind:=by
   rw[pu hk3];exact Fcf ..
  refine⟨k,rfl,za _ (zm hk2) ?_⟩
  rw[hg9]
  refine jf (i:=ti2) (v:=int (Ab w c k w.U[i].kind)) (b:=b) (o:=0+i*10+5) (l:=(rws zf (U1.set i (mvG c.T U1[i]))).flatten++J) rfl rfl rfl q4 (show 0+i*10+5+1<=_ by rw[Fad,ja yo,Faf];omega) ?_
  have q5:=Cd (x':=mvG (Ab w c k w.U[i].kind) U1[i]) (ys:=[int (Ab w c k w.U[i].kind)]) (j:=5) q4 Qbe (show 5+1<=10 by decide) Qbf
  rw[Fbx,fin _ rfl]at q5
  have p5:=(zi (st:=S5) (x:=.cells (zu ((rws zf (U1.set i (mvG c.T U1[i]))).flatten++J) (0+i*10+5) [int (Ab w c k w.U[i].kind)])) (Ne.symm hbp)).trans p4
  generalize S5.sO b _=S6 at q5 p5⊢
  refine Qd ?_
  exact⟨(k+1,S6),hdec,⟨by dsimp only;omega,rfl,p5,.inl (.inr ⟨b,cap,J,by rw[hlL2],q5,by rw[hlL2];omega,by rw[hlL2,<-e8];exact hc2,hc3⟩)⟩,Qbh,⟨rfl,Tv⟩⟩
 ·rw[zn,hlen]at c5
  have hk3:¬k<(xz w w.U[i].kind c.T c.U.length).length:=by omega
  rw[fin _ (pw hk3).symm]at q4
  refine Qd ?_
  exact⟨(k+1,S5),hdec,⟨by dsimp only;omega,rfl,p4,.inl (.inr ⟨b,cap,J,by rw[hlL2],q4,by rw[hlL2];omega,by rw[hlL2,<-e8];exact hc2,hc3⟩)⟩,Qbh,⟨rfl,Tv⟩⟩
theorem zvf(w:Wld)(hw:w.fits)(hn:∀u∈w.U,u.pos.ok)(hU:w.U.length<=1000000)(c:Cmd)(hc:c.fits)(hK:c.K=2):Jb 38 [.agg (zt w),.agg (qi c)] Store.empty (DoQ mvE mvW w c):=by
 refine Qa (c:=cfg 97 [6] []) zb Tryz.func38 ?_
 have bad:(¬z6 w\/¬j8 c\/w.players<c.P)->DoQ mvE mvW w c (.tup [.agg (zt w),int 1]) Store.empty:=λhb=>by
  have he:=Gm (E:=mvE) (w:=w) (c:=c) hb
  exact .inl ⟨by rw[he];decide,by rw[he]⟩
 refine F7 w hw hn _ _ (λz hz=>?_)
 refine yd ?_
 refine zh (λc1=>?_) (λc1=>?_)
 rotate_left
 ·exact ret (bad (.inl λhh=>by have:=hz.2 hh;rw[this]at c1;cases c1))
 refine Hr c hc _ _ (λzc hzc=>?_)
 refine yd ?_
 refine zh (λc2=>?_) (λc2=>?_)
 rotate_left
 ·exact ret (bad (.inr (.inl λhh=>by have:=hzc.2 hh;rw[this]at c2;cases c2)))
 refine bcd (λc3=>?_) (λc3=>?_)
 ·exact ret (bad (.inr (.inr (by omega))))
 have hm:=hz.1 c1
 have hcp:=hzc.1 c2
 have he:=Ho (E:=mvE) hm hcp (show c.P<=w.players by omega)
 refine Hq w hw hU _ _ (λv N hv _=>?_)
 rw[Al]
 have hv:=hv.q
 have hoff:=λ(p:Nat) (hp:Fresh N p)=>Dk hv (vx (fresh_iff.1 hp)).1
 obtain⟨oa,cap,e,_⟩:=hv.form
 subst e
 refine λp hp=>?_
 refine j2 (i:=ti27) (v:=.agg (zw w (.s (.slice oa w.U.length cap)))) (xs:=zw w (.s (.slice oa w.U.length cap))) (b:=p) (o:=0) (l:=_) rfl rfl rfl (zd _ _ _) (show 0+8<=8 by decide) ?_
 generalize hS:(N.sO p _).sO p _=S
 have hp2:S.obj p=some (.cells (zw w (.s (.slice oa w.U.length cap)))):=by rw[<-hS];exact zd _ _ _
 have hr2:RowsQ 10 zf S (.s (.slice oa w.U.length cap)) w.U:=by rw[<-hS];exact(hv.set (hoff p hp) _).set (hoff p hp) _
 refine zy (λh=>absurd (hK.symm.trans h) (by decide)) (λ_=>?_)
 refine zy (λ_=>?_) (λh=>absurd hK h)
 refine zt3 hp2 hr2 (hoff p hp) (jd hm) hn c ((Cmd.ok2 hK).1 hcp.1).1.1.2 _ (λS' hE=>?_) (λhE S' v' g1 g2=>?_)
 ·refine qj (λ_=>?_) (λh=>absurd h hE)
  exact ret (.inl ⟨by rw[he];exact hE,by rw[he];rfl⟩)
 ·obtain⟨oa2,cap2,e2,_⟩:=g2.form
  subst e2
  refine Qbm ?_
  exact ret (.inr ⟨he.trans hE,_,g2,rfl⟩)
theorem zuq:Hz 2 mvE mvW:=λw hw hn hU c hc hK R h=>I0 (zvf w hw hn hU c hc hK) R h
theorem ye5{w:Wld}(hm:z6 w){c:Cmd}(hc:j8 c)(hk:c.K=4)(hn:¬1099511627776<=w.next):yg (bdB w c)/\∀x∈w.B,x.id<(bdB w c).id:=by
 have hok:=(Cmd.ok4 hk).1 hc.1
 have mf:=jd hm
 have:=mf.hn1
 have hP:=hc.2.1
 refine⟨⟨by unfold bdB;dsimp only;omega,hP,hok.2.1,hok.2.2⟩,λx hx=>?_⟩
 have:=(hm.1.1.2.2 x hx).2
 exact this
theorem yds(l:List Bld)(hl:l.length<=1000000)(R:Ja)(h:∀v N,RowsO 6 zk N v l->R v N):Jb 41 [lst 6 zk l] Store.empty R:=by
 refine Qa (c:=cfg 19) zb Tryz.func41 ?_
 refine AWp.loop (σ:=Nat×AV×Store) ⟨λs=>[(0,.av (lst 6 zk l)),(3,.av s.2.1),(4,.av (int s.1))],λ_=>[],λs st'=>s.1<=l.length/\st'=s.2.2/\RowsO 6 zk s.2.2 s.2.1 (l.take s.1),λs=>l.length-s.1⟩ zb ?_ ?_
 ·exact⟨(0,_,Store.empty),Tv,⟨Fag _,rfl,.inl ⟨rfl,rfl⟩⟩,⟨Tq,Tq,Tq,Tv⟩,Tv⟩
 ·rintro⟨i,v,N⟩ st' ⟨hi,rfl,ha⟩
  dsimp only at hi ha⊢
  refine zh (λh1=>?_) (λh1=>?_)
  ·have hlt:i<l.length:=qq h1
   refine⟨i,rfl,za _ (zm hlt) ?_⟩
   refine⟨by decide,?_⟩
   refine N6 (ie:=ti144) rfl (λ_=>rfl) (by decide) ha l[i] rfl (by rw[Fao];omega) (λb cap L q1 q2 q3 q4=>?_)
   refine⟨⟨by omega,by omega⟩,?_⟩
   refine⟨(i+1,_,_),?_,⟨hlt,rfl,?_⟩,⟨Tq,Tq,Tq,Tv⟩,Tv⟩
   ·show l.length-(i+1)<l.length-i
    omega
   ·dsimp only
    rw[Fac hlt]
    exact .inr ⟨b,cap,L,rfl,zd _ _ _,q2,q3,q4⟩
  ·have hge:i=l.length:=qv h1 hi
   subst hge
   rw[Fap]at ha
   exact ret (h _ _ ha)
theorem zal(l:List Bld)(hl:l.length<=1000000)(st:Store)(R:Ja)(h:∀v N,RowsO 6 zk N v l->zl N st->R v (N.un st)):Jb 41 [lst 6 zk l] st R:=by
 rw[<-wu st]
 exact ACalls.frame (I2 st) (yds l hl (λv N=>RowsO 6 zk N v l) λv N hv=>hv) λv N hv hd=>h v N hv hd
theorem rq{f:FuncId}{xs:List AV}{q:Prop}{a b:Value}{l2:List Bld}(h0:Jb f xs Store.empty λr S=>(¬q/\r=.tup [.s (.slice none 0 0),.s a])\/(q/\∃v,RowsQ 6 zk S v l2/\r=.tup [v,.s b]))(st:Store)(R:Ja)
  (h:¬q->R (.tup [.s (.slice none 0 0),.s a]) st) (hq:q->R (.tup [lst 6 zk l2,.s b]) st):Jb f xs st R:=by
 have h1:=h0.frozen (R:=λr=>(¬q/\r=.tup [.s (.slice none 0 0),.s a])\/(q/\r=.tup [lst 6 zk l2,.s b])) (by
  rintro r S (⟨h1,rfl⟩|⟨h1,v,hv,rfl⟩)
  ·exact⟨_,.inl ⟨h1,rfl⟩,λOth M w' v' sto hx=>xp hx⟩
  ·refine⟨_,.inr ⟨h1,rfl⟩,λOth M w' v' sto hx=>?_⟩
   cases hx with
   |tup _ c2 hl hc2=>
    refine .tup _ c2 hl λi x y hx hy=>?_
    match i with
    |0=>simp only[Far,Fal]at hx;subst hx;exact zyo hv sto (hc2 0 _ y rfl hy)
    |1=>simp only[Faz,Far,Fal]at hx;subst hx;exact xp (hc2 1 _ y rfl hy)
    |i+2=>simp at hx)
 have h2:Jb f xs Store.empty λr S=>((¬q/\r=.tup [.s (.slice none 0 0),.s a])\/(q/\r=.tup [lst 6 zk l2,.s b]))/\S=Store.empty:=
  h1.post (Store.Le.refl _) λr st' hr=>⟨r,Store.empty,AV.le_refl r,(bf st').toLe,hr,rfl⟩
 rw[<-wu st]
 exact ACalls.frame (I2 st) h2 λr S ⟨e,e2⟩ hd=>by
  subst e2
  rw[wu]
  rcases e with⟨q,rfl⟩|⟨q,rfl⟩
  ·exact h q
  ·exact hq q
theorem zvm(g:Gnd)(hg:zr g)(l:List Bld)(hl:l.length<=256)(hlb:∀b∈l,yg b/\onP g b)(b:Bld)(hb:yg b)(hid:∀x∈l,x.id<b.id):
  Jb 126 [.agg (zp g),lst 6 zk l,.agg (zk b)] Store.empty λr S=>(¬kl g l b=0/\r=.tup [.s (.slice none 0 0),.s (.int .i64 (kl g l b))])\/(kl g l b=0/\∃v,RowsQ 6 zk S v (l++[b])/\r=.tup [v,.s (.int .i64 0)]):=by
 have bad:∀n:Int,n≠0->kl g l b=n->∀st,∃r st',AV.le (.tup [.s (.slice none 0 0),int n]) r/\Store.Has st st'/\((¬kl g l b=0/\r=.tup [.s (.slice none 0 0),.s (.int .i64 (kl g l b))])\/(kl g l b=0/\∃v,RowsQ 6 zk st' v (l++[b])/\r=.tup [v,.s (.int .i64 0)])):=λn hn e st=>
  ret (.inl ⟨by rw[e];exact hn,by rw[e];rfl⟩)
 refine Qa (c:=cfg 75) zb Tryz.func126 ?_
 refine lf b _ _ (λz hz=>?_)
 refine yd ?_
 refine zh (λc1=>?_) (λc1=>by have:=hz.2 hb;rw[this]at c1;cases c1)
 refine mz g b hg hb _ _ (λz hz=>?_)
 refine yd ?_
 refine zh (λc2=>?_) (λc2=>?_)
 rotate_left
 ·have hno:¬onP g b:=λhh=>by have:=hz.2 hh;rw[this]at c2;cases c2
  exact bad 3 (by decide) (by unfold kl;rw[if_pos hno]) _
 have hon:=hz.1 c2
 refine AWp.loop (σ:=Nat) ⟨λi=>[(1,.av (lst 6 zk l)),(3,.bx 3 0),(5,.bx 5 0),(8,.av (int (i:Nat)))],λ_=>[(3,zp g),(5,zk b)],
  λi st'=>i<=l.length/\st'=Store.empty/\∀j,(hj:j<l.length)->j<i->¬Ah l[j] b,λi=>l.length-i⟩ zb ?_ ?_
 ·exact⟨0,Tv,⟨Fag _,rfl,λj _ hj=>by omega⟩,Qbh,⟨rfl,rfl,Tv⟩⟩
 rintro i st' ⟨hi,rfl,hno⟩
 refine zh (λh1=>?_) (λh1=>?_)
 ·have hlt:=qq h1
  have hbi:=hlb l[i] (Faa hlt)
  have hidi:=hid l[i] (Faa hlt)
  refine Qc zb zsf ?_
  refine⟨i,rfl,za _ (zm hlt) ?_⟩
  refine zy (λc3=>absurd c3 (by omega)) (λc3=>?_)
  refine⟨i,rfl,za _ (zm hlt) ?_⟩
  refine⟨rd g hg l[i] b hbi ⟨hb,hon⟩ _ _ (λz hz=>⟨Tv,?_⟩),Tv⟩
  refine zh (λc4=>?_) (λc4=>?_)
  ·have hex:∃x∈l,Ah x b:=⟨l[i],Faa hlt,hz.1 c4⟩
   exact bad 12 (by decide) (by unfold kl;rw[if_neg (λh=>h hon),if_pos hex]) _
  refine Qd ?_
  refine⟨i+1,?_,⟨by omega,rfl,λj hj hji=>?_⟩,Qbh,⟨rfl,rfl,Tv⟩⟩
  ·show l.length-(i+1)<l.length-i
   omega
  ·by_cases e:j=i
   ·subst e
    exact λhh=>by have:=hz.2 hh;rw[this]at c4;cases c4
   ·exact hno j hj (by omega)
 have hil:i=l.length:=qv h1 hi
 subst hil
 have hnex:¬∃x∈l,Ah x b:=λ⟨x,hx,h2⟩=>by
  obtain⟨j,hj,rfl⟩:=Fak hx
  exact hno j hj hj h2
 refine m7 g hg b ⟨hb,hon⟩ _ _ (λz hz=>?_)
 refine yd ?_
 refine zh (λc4=>?_) (λc4=>?_)
 rotate_left
 ·have hno:¬C8 g b:=λhh=>by have:=hz.2 hh;rw[this]at c4;cases c4
  exact bad 5 (by decide) (by unfold kl;rw[if_neg (λh=>h hon),if_neg hnex,if_pos hno]) _
 have hfi:=hz.1 c4
 have hlen:((rws zk l).length:Int)=(l.length:Int):=by rw[zn]
 refine bcd (λc5=>?_) (λc5=>?_)
 ·exact bad 4 (by decide) (by unfold kl;rw[if_neg (λh=>h hon),if_neg hnex,if_neg (λh=>h hfi),if_pos (by omega)]) _
 have h0:kl g l b=0:=by unfold kl;rw[if_neg (λh=>h hon),if_neg hnex,if_neg (λh=>h hfi),if_neg (by omega)]
 refine AWp.loop (σ:=Nat) ⟨λi=>[(1,.av (lst 6 zk l)),(5,.bx 5 0),(9,.av (int (i:Nat)))],λ_=>[(5,zk b)],
  λi st'=>i<=l.length/\st'=Store.empty,λi=>l.length-i⟩ zb ?_ ?_
 ·exact⟨0,Tv,⟨Fag _,rfl⟩,Qbh,⟨rfl,Tv⟩⟩
 rintro i st' ⟨hi,rfl⟩
 refine Qc zb zsh ?_
 refine zh (λh1=>?_) (λh1=>?_)
 ·have hlt:=qq h1
  have hidi:=hid l[i] (Faa hlt)
  refine⟨i,rfl,za _ (zm hlt) ?_⟩
  refine bcd (λc6=>?_) (λc6=>absurd hidi c6)
  refine Qd ?_
  refine⟨i+1,?_,⟨by omega,rfl⟩,Qbh,⟨rfl,Tv⟩⟩
  show l.length-(i+1)<l.length-i
  omega
 have hil:i=l.length:=qv h1 hi
 subst hil
 refine Qc zb zsg ?_
 refine⟨0,l.length,rfl,rfl,Fag _,by rw[zn];exact Faj _,?_⟩
 refine⟨by decide,?_⟩
 refine⟨ACalls.le (ys:=[lst 6 zk l]) ⟨by rw[Fcc,<-zn (f:=zk) l,Fap];exact Tt,Tv⟩ (zal l (by omega) _ _ (λv N hv hd=>⟨Qe,?_⟩)),Tv⟩
 have hvQ:RowsQ 6 zk (N.un Store.empty) v l:=hv.q.unL hd
 refine⟨ee (ie:=ti144) rfl I5 (by decide) hvQ b rfl (by omega) (λb2 cap2 L2 q1 q2 q3 q4=>⟨Tv,?_⟩),Tv⟩
 have hv2:RowsQ 6 zk ((N.un Store.empty).sO b2 (.cells ((rws zk (l++[b])).flatten++L2))) (.s (.slice (some ⟨b2,0,none⟩) (l++[b]).length cap2)) (l++[b]):=.inl (.inr ⟨b2,cap2,L2,rfl,zd _ _ _,q2,q3,q4⟩)
 refine Qbl ?_
 refine⟨l.length,l.length,rfl,by rw[zn];rfl,Faj _,by rw[zn];exact Faj _,?_⟩
 refine yfi (ie:=ti144) rfl I5 (by decide) hv2 (by simp) ?_ (by rw[Fad,Fas];omega) (λv' st' hv'=>?_)
 ·rw[Fdl (by rw[Fao,zn];omega)];rfl
 exact ret (.inr ⟨h0,_,hv',rfl⟩)
theorem zu6(g:Gnd)(hg:zr g)(l:List Bld)(hl:l.length<=256)(hlb:∀b∈l,yg b/\onP g b)(b:Bld)(hb:yg b)(hid:∀x∈l,x.id<b.id)(st:Store)(R:Ja)
  (h:¬kl g l b=0->R (.tup [.s (.slice none 0 0),int (kl g l b)]) st) (h0:kl g l b=0->R (.tup [lst 6 zk (l++[b]),int 0]) st):Jb 126 [.agg (zp g),lst 6 zk l,.agg (zk b)] st R:=
 rq (zvm g hg l hl hlb b hb hid) st R h h0
theorem zu4{S:Store}{p:Nat}{w:Wld}{v:AV}(hp:S.obj p=some (.cells (zw w v)))(hv:RowsQ 10 zf S v w.U)(hoff:wj v p)(hm:z6 w)(hn:∀u∈w.U,u.pos.ok)(c:Cmd)(hc:j8 c)(hk:c.K=4)(R:Ja)
  (h:∀S',bdE w c≠0->R (int (bdE w c)) S') (h0:bdE w c=0->∀S' v',S'.obj p=some (.cells (zw (bdW w c) v'))->RowsQ 10 zf S' v' (bdW w c).U->R (int 0) S'):Jb 80 [ptr p,.agg (qi c)] S R:=by
 have mf:=jd hm
 have hg:=mf.hg
 have hg1:=hg.1
 have hg2:=hg.2.1
 have hn2:=mf.hn2
 have hn1:=mf.hn1
 have hU:=mf.hU
 have hpl:=zw0 hm
 have hok:=(Cmd.ok4 hk).1 hc.1
 have hT:=hok.1
 unfold Cn at hT
 have ha:=qe hg
 obtain⟨oa,cap,e,hget⟩:=hv.form
 subst e
 have hq2:c.T.tdiv w.G.W=c.T/w.G.W:=Fa7 hT.1
 have hq3:0<=c.T/w.G.W/\c.T/w.G.W<=c.T:=⟨Fcb hT.1 (by omega),Fdj _ hT.1⟩
 have bad:∀n:Int,n≠0->bdE w c=n->∀S,R (int n) S:=λn hn e S=>by
  have:=h S (by rw[e];exact hn)
  rw[e]at this
  exact this
 refine Qa (c:=cfg 116) zb Tryz.func80 ?_
 refine Qbm ?_
 refine Mb w.G c.T hg _ _ (λz hz=>?_)
 refine yd ?_
 refine zh (λc1=>?_) (λc1=>?_)
 rotate_left
 ·have hno:¬(0<=c.T/\c.T<w.G.W*w.G.H):=λhh=>by have:=hz.2 hh;rw[this]at c1;cases c1
  exact ret (bad 3 (by decide) (by unfold bdE;rw[if_pos hno]) _)
 have ht:=hz.1 c1
 refine Qbm ?_
 refine bcd (λc2=>?_) (λc2=>?_)
 ·exact ret (bad 4 (by decide) (by unfold bdE;rw[if_neg (λhh=>hh ht),if_pos (by omega)]) _)
 have hnx:¬1099511627776<=w.next:=by omega
 obtain⟨hbp,hid⟩:=ye5 hm hc hk hnx
 refine Qc zb zps ?_
 refine Qbm ?_
 refine⟨by omega,?_⟩
 refine⟨by omega,?_⟩
 refine ze (by rw[hq2];omega) ?_
 refine⟨⟨?_,?_⟩,Tv⟩
 ·repeat(first|exact Tv|refine⟨rfl,?_⟩|refine⟨za (o:=S.obj p) _ hp rfl,?_⟩|refine⟨⟨by omega,rfl⟩,?_⟩|refine⟨⟨by omega,ze (by rw[hq2];omega) rfl⟩,?_⟩)
 refine Qbl ?_
 refine Qc zb zpr ?_
 refine Qbm ?_
 refine⟨zu6 w.G hg w.B mf.hB mf.hb (bdB w c) hbp hid _ _ (λhe=>⟨?_,?_⟩) (λhe=>⟨?_,?_⟩),Tv⟩
 ·repeat(first|exact Tv|refine⟨rfl,?_⟩|refine⟨za (o:=S.obj p) _ hp rfl,?_⟩)
 ·refine Qbl ?_
  refine Qbl ?_
  refine qj (λ_=>?_) (λhh=>absurd hh he)
  have e1:bdE w c=kl w.G w.B (bdB w c):=by unfold bdE;rw[if_neg (λhh=>hh ht),if_neg hnx,if_neg he]
  have:=h S (by rw[e1];exact he)
  rw[e1]at this
  exact ret this
 ·repeat(first|exact Tv|refine⟨rfl,?_⟩|refine⟨za (o:=S.obj p) _ hp rfl,?_⟩)
 refine Qbl ?_
 refine Qbl ?_
 have hon:onP w.G (bdB w c):=Classical.byContradiction λhh=>by
  unfold kl at he
  rw[if_pos hh]at he
  cases he
 have e1:bdE w c=(by classical exact if M5 w (bdB w c)then 5 else 0):=by
  unfold bdE
  rw[if_neg (λhh=>hh ht),if_neg hnx,if_pos he]
 obtain⟨b,hB⟩:∃b,bdB w c=b:=⟨_,rfl⟩
 rw[hB]at hbp hid hon he e1
 have yes:M5 w b->R (int 5) S:=λhh=>bad 5 (by decide) (by rw[e1,if_pos hh]) _
 refine AWp.loop (σ:=Nat) ⟨λt=>[(0,.av (ptr p)),(5,.bx 5 0),(6,.bx 6 0),(7,.av (lst 6 zk (w.B++[b]))),(9,.av (int (t:Nat)))],λ_=>[(5,zp w.G),(6,zk b)],
  λt st'=>(t:Int)<=w.G.W*w.G.H/\st'=S/\∀t',t'<t->jj w.G b t'->∀u∈w.U,u.inn=0->¬jh w.G t' u.pos (zv u.kind),λt=>w.G.T.length-t⟩ zb ?_ ?_
 ·exact⟨0,Tv,⟨by omega,rfl,λt' ht'=>absurd ht' (Fa2 _)⟩,⟨Tq,Tq,Tq,by rw[<-hB];exact Tq,Tq,Tv⟩,⟨rfl,by rw[<-hB];rfl,Tv⟩⟩
 rintro t st' ⟨htl,rfl,hno⟩
 refine Qd ?_
 refine bcd (λh1=>?_) (λh1=>?_)
 rotate_left
 ·have hnm:¬M5 w b:=by
   rintro⟨t',⟨h2,h3⟩,u,hu,h4,h5⟩
   exact hno t' (by omega) h3 u hu h4 h5
  have hz0:bdE w c=0:=by rw[e1,if_neg hnm]
  refine jf (i:=ti25) (v:=lst 6 zk (w.B++[b])) (b:=p) (o:=6) (l:=zw w (.s (.slice oa w.U.length cap))) rfl rfl rfl hp (show 6+1<=8 by decide) ?_
  have hp2:(st'.sO p (.cells (zu (zw w (.s (.slice oa w.U.length cap))) 6 [lst 6 zk (w.B++[b])]))).obj p=some (.cells (zw {w with B:=w.B++[b]} (.s (.slice oa w.U.length cap)))):=zd _ _ _
  have hr2:=hv.set hoff (.cells (zu (zw w (.s (.slice oa w.U.length cap))) 6 [lst 6 zk (w.B++[b])]))
  generalize st'.sO p _=S2 at hp2 hr2⊢
  refine Qbm ?_
  refine ze (by dsimp only;omega) ?_
  refine jf (i:=ti2) (v:=int (w.next+1)) (b:=p) (o:=2) (l:=zw {w with B:=w.B++[b]} (.s (.slice oa w.U.length cap))) rfl rfl rfl hp2 (show 2+1<=8 by decide) ?_
  subst hB
  exact ret (h0 hz0 _ _ (zd _ _ _) (hr2.set hoff _))
 have htW:(t:Int)<w.G.W*w.G.H:=h1
 refine AWp.loop (σ:=Nat) ⟨λi=>[(0,.av (ptr p)),(5,.bx 5 0),(6,.bx 6 0),(7,.av (lst 6 zk (w.B++[b]))),(9,.av (int (t:Nat))),(10,.av (int (i:Nat)))],λ_=>[(5,zp w.G),(6,zk b)],
  λi st2=>i<=w.U.length/\st2=st'/\(0<i->jj w.G b t)/\∀j,(hj:j<w.U.length)->j<i->w.U[j].inn=0->¬jh w.G t w.U[j].pos (zv w.U[j].kind),λi=>w.U.length-i⟩ zb ?_ ?_
 ·exact⟨0,Tv,⟨Fag _,rfl,λhh=>absurd hh (Fdg _),λj _ hj=>absurd hj (Fa2 _)⟩,Qbh,⟨rfl,rfl,Tv⟩⟩
 rintro i st2 ⟨hi,rfl,hhas,hnk⟩
 have next:(jj w.G b t->∀u∈w.U,u.inn=0->¬jh w.G t u.pos (zv u.kind))->∀t',t'<t+1->jj w.G b t'->∀u∈w.U,u.inn=0->¬jh w.G t' u.pos (zv u.kind):=λhh t' ht'=>by
  by_cases e:t'=t
  ·subst e;exact hh
  ·exact hno t' (by omega)
 refine Qbm ?_
 refine bcd (λh2=>?_) (λh2=>?_)
 rotate_left
 ·have hil:i=w.U.length:=by omega
  subst hil
  refine Qd ?_
  refine⟨t+1,?_,⟨by omega,rfl,next λ_ u hu h3 h4=>?_⟩,Qbh,⟨rfl,rfl,Tv⟩⟩
  ·show w.G.T.length-(t+1)<w.G.T.length-t
   omega
  ·obtain⟨j,hj,rfl⟩:=Fak hu
   exact hnk j hj hj h3 h4
 have hlt:i<w.U.length:=by omega
 refine s8 w.G hg b ⟨hbp,hon⟩ t htW _ _ (λz hz=>?_)
 refine zh (λc4=>?_) (λc4=>?_)
 rotate_left
 ·have hnh:¬jj w.G b t:=λhh=>by have:=hz.2 hh;rw[this]at c4;cases c4
  refine Qd ?_
  refine⟨t+1,?_,⟨by omega,rfl,next λhh=>absurd hh hnh⟩,Qbh,⟨rfl,rfl,Tv⟩⟩
  show w.G.T.length-(t+1)<w.G.T.length-t
  omega
 have hh:=hz.1 c4
 obtain⟨bb,J,rfl,hob⟩:=hget i hlt
 refine Qbm ?_
 refine⟨i,rfl,hlt,?_⟩
 refine Qbm ?_
 refine yk (i:=ti50) (row:=zf w.U[i]) rfl rfl (xn yo hlt) ?_
 have step:(w.U[i].inn=0->¬jh w.G t w.U[i].pos (zv w.U[i].kind))->∀j,(hj:j<w.U.length)->j<i+1->w.U[j].inn=0->¬jh w.G t w.U[j].pos (zv w.U[j].kind):=λq j hj hji=>by
  by_cases e:j=i
  ·subst e;exact q
  ·exact hnk j hj (by omega)
 have hui:=Faa hlt
 have hkr:=Bl w.U[i].kind
 refine Qc zb zpt ?_
 refine zy (λc5=>?_) (λc5=>?_)
 ·refine⟨Bj w.U[i].kind (mf.hk _ hui) _ _ ⟨Qe,?_⟩,Tv⟩
  refine⟨rb w.G hg t htW w.U[i].pos (hpl _ hui c5) (zv w.U[i].kind) ⟨hkr.1,by omega⟩ _ _ ⟨Tv,?_⟩,Tv⟩
  refine bcd (λc6=>?_) (λc6=>?_)
  ·exact ret (yes ⟨t,⟨htW,hh⟩,w.U[i],hui,c5,c6⟩)
  refine Qd ?_
  refine⟨i+1,?_,⟨by omega,rfl,λ_=>hh,step λ_=>c6⟩,Qbh,⟨rfl,rfl,Tv⟩⟩
  show w.U.length-(i+1)<w.U.length-i
  omega
 ·refine Qbk ?_
  refine Qbl ?_
  refine Qd ?_
  refine⟨i+1,?_,⟨by omega,rfl,λ_=>hh,step λq=>absurd q c5⟩,Qbh,⟨rfl,rfl,Tv⟩⟩
  show w.U.length-(i+1)<w.U.length-i
  omega
theorem zvd(w:Wld)(hw:w.fits)(hn:∀u∈w.U,u.pos.ok)(hU:w.U.length<=1000000)(c:Cmd)(hc:c.fits)(hK:c.K=4):Jb 38 [.agg (zt w),.agg (qi c)] Store.empty (DoQ bdE bdW w c):=by
 refine Qa (c:=cfg 97 [6] []) zb Tryz.func38 ?_
 have bad:(¬z6 w\/¬j8 c\/w.players<c.P)->DoQ bdE bdW w c (.tup [.agg (zt w),int 1]) Store.empty:=λhb=>by
  have he:=Gm (E:=bdE) (w:=w) (c:=c) hb
  exact .inl ⟨by rw[he];decide,by rw[he]⟩
 refine F7 w hw hn _ _ (λz hz=>?_)
 refine yd ?_
 refine zh (λc1=>?_) (λc1=>?_)
 rotate_left
 ·exact ret (bad (.inl λhh=>by have:=hz.2 hh;rw[this]at c1;cases c1))
 refine Hr c hc _ _ (λzc hzc=>?_)
 refine yd ?_
 refine zh (λc2=>?_) (λc2=>?_)
 rotate_left
 ·exact ret (bad (.inr (.inl λhh=>by have:=hzc.2 hh;rw[this]at c2;cases c2)))
 refine bcd (λc3=>?_) (λc3=>?_)
 ·exact ret (bad (.inr (.inr (by omega))))
 have hm:=hz.1 c1
 have hcp:=hzc.1 c2
 have he:=Ho (E:=bdE) hm hcp (show c.P<=w.players by omega)
 refine Hq w hw hU _ _ (λv N hv _=>?_)
 rw[Al]
 have hv:=hv.q
 have hoff:=λ(p:Nat) (hp:Fresh N p)=>Dk hv (vx (fresh_iff.1 hp)).1
 obtain⟨oa,cap,e,_⟩:=hv.form
 subst e
 refine λp hp=>?_
 refine j2 (i:=ti27) (v:=.agg (zw w (.s (.slice oa w.U.length cap)))) (xs:=zw w (.s (.slice oa w.U.length cap))) (b:=p) (o:=0) (l:=_) rfl rfl rfl (zd _ _ _) (show 0+8<=8 by decide) ?_
 generalize hS:(N.sO p _).sO p _=S
 have hp2:S.obj p=some (.cells (zw w (.s (.slice oa w.U.length cap)))):=by rw[<-hS];exact zd _ _ _
 have hr2:RowsQ 10 zf S (.s (.slice oa w.U.length cap)) w.U:=by rw[<-hS];exact(hv.set (hoff p hp) _).set (hoff p hp) _
 refine zy (λh=>absurd (hK.symm.trans h) (by decide)) (λ_=>?_)
 refine zy (λh=>absurd (hK.symm.trans h) (by decide)) (λ_=>?_)
 refine zy (λh=>absurd (hK.symm.trans h) (by decide)) (λ_=>?_)
 refine zy (λ_=>?_) (λh=>absurd hK h)
 refine zu4 hp2 hr2 (hoff p hp) hm hn c hcp hK _ (λS' hE=>?_) (λhE S' v' g1 g2=>?_)
 ·refine qj (λ_=>?_) (λh=>absurd h hE)
  exact ret (.inl ⟨by rw[he];exact hE,by rw[he];rfl⟩)
 ·obtain⟨oa2,cap2,e2,_⟩:=g2.form
  subst e2
  refine Qbm ?_
  exact ret (.inr ⟨he.trans hE,_,g2,rfl⟩)
theorem zuo:Hz 4 bdE bdW:=λw hw hn hU c hc hK R h=>I0 (zvd w hw hn hU c hc hK) R h
end Go.Proofs
namespace Go.Proofs
open Go Go.V
set_option maxRecDepth 20000
set_option maxHeartbeats 4000000
theorem ycn{w:Wld}{c:Cmd}{i:Nat}(h:Ce w.B c.N=some i)(hi:i<w.B.length):drE w c=if w.B[i].owner=c.P then 0 else 6:=by
 unfold drE
 rw[h]
 simp[Fa9,hi]
theorem zuz(l:List Bld)(hl:l.length<=256)(id:Int)(i:Nat)(hf:Ce l id=some i):Jb 129 [lst 6 zk l,int id] Store.empty λr S=>∃v,RowsQ 6 zk S v (l.eraseIdx i)/\r=.tup [v,.s (.bool true)]:=by
 have hf0:=hf
 unfold Ce at hf0
 rw[Fbd]at hf0
 obtain⟨hil,hid,hbefore⟩:=hf0
 refine Qa (c:=cfg 31) zb Tryz.func129 ?_
 refine AWp.loop (σ:=Nat) ⟨λk=>[(0,.av (lst 6 zk l)),(1,.av (int id)),(6,.av (int (k:Nat)))],λ_=>[],
  λk st'=>k<=i/\st'=Store.empty,λk=>l.length-k⟩ zb ?_ ?_
 ·exact⟨0,Tv,⟨Fag _,rfl⟩,Qbh,Tv⟩
 rintro k st' ⟨hk,rfl⟩
 have hlt:k<l.length:=by omega
 refine zh (λh1=>?_) (λh1=>?_)
 rotate_left
 ·have h1:=of_decide_eq_false h1
  rw[zn]at h1
  omega
 refine⟨k,rfl,za _ (zm hlt) ?_⟩
 refine zy (λc1=>?_) (λc1=>?_)
 ·have hki:k=i:=by
   by_cases e:k=i
   ·exact e
   ·exact absurd (decide_eq_true c1) (hbefore k (by omega))
  subst hki
  refine⟨0,k,rfl,rfl,Fag _,by rw[zn];omega,?_⟩
  refine ACalls.le (ys:=[lst 6 zk (l.take k)]) ⟨by unfold lst rws;rw[Fcc,List.map_take];exact Tt,Tv⟩ (zal (l.take k) (by rw[Fao];omega) _ _ (λv N hv hd=>?_))
  have hvQ:RowsQ 6 zk (N.un Store.empty) v (l.take k):=hv.q.unL hd
  refine Qd ?_
  refine⟨k+1,l.length,rfl,by rw[zn];rfl,by omega,by rw[zn];exact Faj _,?_⟩
  refine yfh (ie:=ti144) rfl I5 (by decide) hvQ (l.drop (k+1)) ?_ (by rw[Fao,Fdi];omega) (λv' st' hv'=>?_)
  ·rw[Fbr (by rw[zn];exact Faj _)]
   unfold rws
   rw[List.map_drop]
   rfl
  rw[<-List.eraseIdx_eq_take_drop_succ]at hv'
  exact ret ⟨_,hv',rfl⟩
 ·have hki:k≠i:=λe=>by
   subst e
   exact c1 (of_decide_eq_true hid)
  refine Qd ?_
  refine⟨k+1,?_,⟨by omega,rfl⟩,Qbh,Tv⟩
  show l.length-(k+1)<l.length-k
  omega
theorem zuy(l:List Bld)(hl:l.length<=256)(id:Int)(i:Nat)(hf:Ce l id=some i)(st:Store)(R:Ja)(h:R (.tup [lst 6 zk (l.eraseIdx i),V.bool true]) st):Jb 129 [lst 6 zk l,int id] st R:=
 rq (q:=True) (a:=.bool false) (b:=.bool true) ((zuz l hl id i hf).imp λr S hr=>.inr ⟨Tv,hr⟩) st R (λhh=>absurd trivial hh) (λ_=>h)
theorem zux{S:Store}{p:Nat}{w:Wld}{v:AV}(hp:S.obj p=some (.cells (zw w v)))(hv:RowsQ 10 zf S v w.U)(hoff:wj v p)(hm:MayF w)(c:Cmd)(R:Ja)
  (h:∀S',drE w c≠0->R (int (drE w c)) S') (h0:drE w c=0->∀S' v',S'.obj p=some (.cells (zw (drW w c) v'))->RowsQ 10 zf S' v' (drW w c).U->R (int 0) S'):Jb 81 [ptr p,.agg (qi c)] S R:=by
 have hB:=hm.hB
 obtain⟨oa,cap,e,hget⟩:=hv.form
 subst e
 refine Qa (c:=cfg 50) zb Tryz.func81 ?_
 refine AWp.loop (σ:=Nat) ⟨λi=>[(0,.av (ptr p)),(3,.bx 3 0),(5,.av (int (i:Nat)))],λ_=>[(3,qi c)],
  λi st'=>i<=w.B.length/\st'=S/\∀j,(hj:j<w.B.length)->j<i->w.B[j].id≠c.N,λi=>w.B.length-i⟩ zb ?_ ?_
 ·exact⟨0,Tv,⟨Fag _,rfl,λj _ hj=>by omega⟩,Qbh,⟨rfl,Tv⟩⟩
 rintro i st' ⟨hi,rfl,hno⟩
 refine Qbm ?_
 refine zh (λh1=>?_) (λh1=>?_)
 rotate_left
 ·have hil:i=w.B.length:=qv h1 hi
  subst hil
  have hf:Ce w.B c.N=none:=by
   unfold Ce
   rw[Fbo]
   intro x hx
   obtain⟨j,hj,rfl⟩:=Fak hx
   exact decide_eq_false (hno j hj hj)
  have he:drE w c=3:=by unfold drE;rw[hf]
  have:=h st' (by rw[he];decide)
  rw[he]at this
  exact ret this
 have hlt:=qq h1
 refine Qc zb zpq ?_
 refine Qbm ?_
 refine⟨i,rfl,za _ (zm hlt) ?_⟩
 refine qj (λc1=>?_) (λc1=>?_)
 ·refine Qd ?_
  refine⟨i+1,?_,⟨by omega,rfl,λj hj hji=>?_⟩,Qbh,⟨rfl,Tv⟩⟩
  ·show w.B.length-(i+1)<w.B.length-i
   omega
  ·by_cases e:j=i
   ·subst e;exact c1
   ·exact hno j hj (by omega)
 have hf:Ce w.B c.N=some i:=by
  unfold Ce
  rw[Fbd]
  exact⟨hlt,decide_eq_true c1,λj hj=>by simpa using hno j (by omega) hj⟩
 have he:=ycn hf hlt
 refine Qc zb zpp ?_
 refine Qbm ?_
 refine⟨i,rfl,za _ (zm hlt) ?_⟩
 refine qj (λc2=>?_) (λc2=>?_)
 ·rw[if_neg c2]at he
  have:=h st' (by rw[he];decide)
  rw[he]at this
  exact ret this
 rw[if_pos c2]at he
 have hW2:drW w c={w with B:=w.B.eraseIdx i}:=by unfold drW;rw[hf]
 refine Qc zb zpo ?_
 refine Qbm ?_
 refine⟨zuy w.B hB c.N i hf _ _ ⟨?_,?_⟩,Tv⟩
 ·repeat(first|exact Tv|refine⟨rfl,?_⟩|refine⟨za (o:=st'.obj p) _ hp rfl,?_⟩)
 refine⟨?_,Tv⟩
 refine za _ rfl (j5 rfl (jz (v:=lst 6 zk (w.B.eraseIdx i)) rfl rfl rfl rfl ?_))
 refine jf (i:=ti25) (v:=lst 6 zk (w.B.eraseIdx i)) (b:=p) (o:=6) (l:=zw w (.s (.slice oa w.U.length cap))) rfl rfl rfl hp (show 6+1<=8 by decide) ?_
 have hp3:(st'.sO p (.cells (zu (zw w (.s (.slice oa w.U.length cap))) 6 [lst 6 zk (w.B.eraseIdx i)]))).obj p=some (.cells (zw {w with B:=w.B.eraseIdx i} (.s (.slice oa w.U.length cap)))):=zd _ _ _
 have hr3:=hv.set hoff (.cells (zu (zw w (.s (.slice oa w.U.length cap))) 6 [lst 6 zk (w.B.eraseIdx i)]))
 refine⟨Tv,?_⟩
 exact ret (h0 he _ _ (by rw[hW2];exact hp3) (by rw[hW2];exact hr3))
theorem zvc(w:Wld)(hw:w.fits)(hn:∀u∈w.U,u.pos.ok)(hU:w.U.length<=1000000)(c:Cmd)(hc:c.fits)(hK:c.K=5):Jb 38 [.agg (zt w),.agg (qi c)] Store.empty (DoQ drE drW w c):=by
 refine Qa (c:=cfg 97 [6] []) zb Tryz.func38 ?_
 have bad:(¬z6 w\/¬j8 c\/w.players<c.P)->DoQ drE drW w c (.tup [.agg (zt w),int 1]) Store.empty:=λhb=>by
  have he:=Gm (E:=drE) (w:=w) (c:=c) hb
  exact .inl ⟨by rw[he];decide,by rw[he]⟩
 refine F7 w hw hn _ _ (λz hz=>?_)
 refine yd ?_
 refine zh (λc1=>?_) (λc1=>?_)
 rotate_left
 ·exact ret (bad (.inl λhh=>by have:=hz.2 hh;rw[this]at c1;cases c1))
 refine Hr c hc _ _ (λzc hzc=>?_)
 refine yd ?_
 refine zh (λc2=>?_) (λc2=>?_)
 rotate_left
 ·exact ret (bad (.inr (.inl λhh=>by have:=hzc.2 hh;rw[this]at c2;cases c2)))
 refine bcd (λc3=>?_) (λc3=>?_)
 ·exact ret (bad (.inr (.inr (by omega))))
 have hm:=hz.1 c1
 have hcp:=hzc.1 c2
 have he:=Ho (E:=drE) hm hcp (show c.P<=w.players by omega)
 refine Hq w hw hU _ _ (λv N hv _=>?_)
 rw[Al]
 have hv:=hv.q
 have hoff:=λ(p:Nat) (hp:Fresh N p)=>Dk hv (vx (fresh_iff.1 hp)).1
 obtain⟨oa,cap,e,_⟩:=hv.form
 subst e
 refine λp hp=>?_
 refine j2 (i:=ti27) (v:=.agg (zw w (.s (.slice oa w.U.length cap)))) (xs:=zw w (.s (.slice oa w.U.length cap))) (b:=p) (o:=0) (l:=_) rfl rfl rfl (zd _ _ _) (show 0+8<=8 by decide) ?_
 generalize hS:(N.sO p _).sO p _=S
 have hp2:S.obj p=some (.cells (zw w (.s (.slice oa w.U.length cap)))):=by rw[<-hS];exact zd _ _ _
 have hr2:RowsQ 10 zf S (.s (.slice oa w.U.length cap)) w.U:=by rw[<-hS];exact(hv.set (hoff p hp) _).set (hoff p hp) _
 refine zy (λh=>absurd (hK.symm.trans h) (by decide)) (λ_=>?_)
 refine zy (λh=>absurd (hK.symm.trans h) (by decide)) (λ_=>?_)
 refine zy (λh=>absurd (hK.symm.trans h) (by decide)) (λ_=>?_)
 refine zy (λh=>absurd (hK.symm.trans h) (by decide)) (λ_=>?_)
 refine zy (λ_=>?_) (λh=>absurd hK h)
 refine zux hp2 hr2 (hoff p hp) (jd hm) c _ (λS' hE=>?_) (λhE S' v' g1 g2=>?_)
 ·refine qj (λ_=>?_) (λh=>absurd h hE)
  exact ret (.inl ⟨by rw[he];exact hE,by rw[he];rfl⟩)
 ·obtain⟨oa2,cap2,e2,_⟩:=g2.form
  subst e2
  refine Qbm ?_
  exact ret (.inr ⟨he.trans hE,_,g2,rfl⟩)
theorem zun:Hz 5 drE drW:=λw hw hn hU c hc hK R h=>I0 (zvc w hw hn hU c hc hK) R h
theorem zvh(w:Wld)(hw:w.fits)(hn:∀u∈w.U,u.pos.ok)(hU:w.U.length<=1000000)(c:Cmd)(hc:c.fits)(hK:¬j8 c):Jb 38 [.agg (zt w),.agg (qi c)] Store.empty λr S=>r=.tup [.agg (zt (doW aE aW w c)),int (doE aE w c)]/\S=Store.empty:=by
 have he:=Gm (E:=aE) (w:=w) (c:=c) (.inr (.inl hK))
 have hw2:doW aE aW w c=w:=cg (by rw[he];decide)
 rw[he,hw2]
 refine Qa (c:=cfg 97 [6] []) zb Tryz.func38 ?_
 refine F7 w hw hn _ _ (λz hz=>?_)
 refine yd ?_
 refine zh (λc1=>?_) (λc1=>?_)
 rotate_left
 ·exact ret ⟨rfl,rfl⟩
 refine Hr c hc _ _ (λzc hzc=>?_)
 refine yd ?_
 refine zh (λc2=>absurd (hzc.1 c2) hK) (λc2=>?_)
 exact ret ⟨rfl,rfl⟩
theorem zuk(k:Int):Hz k aE aW:=by
 intro w hw hn hU c hc hk R h
 by_cases hcp:j8 c
 ·rcases W0 hcp with q|q|q|q|q|q|q
  ·obtain⟨e1,e2⟩:=I1 (a1 (w:=w) q)
   rw[e1,e2]at h
   exact zur w hw hn hU c hc q R h
  ·obtain⟨e1,e2⟩:=I1 (a2 (w:=w) q)
   rw[e1,e2]at h
   exact zuq w hw hn hU c hc q R h
  ·obtain⟨e1,e2⟩:=I1 (a3 (w:=w) q)
   rw[e1,e2]at h
   exact zup w hw hn hU c hc q R h
  ·obtain⟨e1,e2⟩:=I1 (a4 (w:=w) q)
   rw[e1,e2]at h
   exact zuo w hw hn hU c hc q R h
  ·obtain⟨e1,e2⟩:=I1 (a5 (w:=w) q)
   rw[e1,e2]at h
   exact zun w hw hn hU c hc q R h
  ·obtain⟨e1,e2⟩:=I1 (a6 (w:=w) q)
   rw[e1,e2]at h
   exact zum w hw hn hU c hc q R h
  ·obtain⟨e1,e2⟩:=I1 (a7 (w:=w) q)
   rw[e1,e2]at h
   exact zul w hw hn hU c hc q R h
 ·exact(zvh w hw hn hU c hc hcp).imp λr S ⟨e1,e2⟩=>by subst e1 e2;exact h
theorem Qbg{p:Prop}(h:p:=by repeat(first|exact Tv|refine⟨rfl,?_⟩|refine⟨⟨i,rfl,za _ (zm hlt) rfl⟩,?_⟩)):p:=h
theorem zu9(w:Wld)(hw:w.fits)(hn:∀u∈w.U,u.pos.ok)(hU:w.U.length<=1000000)(c:Cmd)(hc:c.fits)(st:Store)(R:Ja)(h:R (.tup [.agg (zt (doW aE aW w c)),int (doE aE w c)]) st):Jb 38 [.agg (zt w),.agg (qi c)] st R:=
 Il (Q:=λr=>r=.tup [.agg (zt (doW aE aW w c)),int (doE aE w c)]) (zuk c.K w hw hn hU c hc rfl (λr _=>r=.tup [.agg (zt (doW aE aW w c)),int (doE aE w c)]) rfl) st R λr hr=>hr▸h
theorem zwf{w:Wld}(h:playW w)(c:Cmd):playW (doW aE aW w c):=by
 by_cases he:doE aE w c=0
 ·rw[uz he]
  exact⟨zyh he,yga h.2 he⟩
 ·rw[cg he]
  exact h
theorem zx1(s:Scr)(hn:∀u∈s.W.U,u.pos.ok)(hfs:∀c∈s.L,c.sized):Jb 11 [.agg (Kv s)] Store.empty λr _=>r=V.bool true:=by
 refine Qa (c:=cfg 69) zb Tryz.func11 ?_
 refine zz1 s hfs _ _ (λz hz=>?_)
 cases z with
 |true=>exact ret rfl
 |false=>
  obtain⟨hng,hl60,hf⟩:=hz rfl
  unfold Nk at hng
  have hfit:s.W.fits:=⟨by unfold Gnd.fits;omega,by omega,by omega⟩
  refine F7 s.W hfit hn _ _ (λy hy=>?_)
  refine yd ?_
  refine zh (λc1=>?_) (λc1=>?_)
  rotate_left
  ·exact ret rfl
  have hpl:playW s.W:=⟨hy.1 c1,hn⟩
  refine ybg 2 (by decide) _ (λN fb hF=>?_)
  refine Wm _ _ _ ?_
  refine zak s.W hfit _ _ ?_
  refine AWp.loop (σ:=Nat×Wld) ⟨λx=>[(1,.bx 1 0),(3,.av (ptr fb)),(5,.bx 5 0),(6,.av (int (x.1:Nat)))],λx=>[(1,Kv s),(5,zt x.2)],λx S=>x.1<=s.L.length/\playW x.2/\∃k:Nat,FldAny fb 2 (k:Nat) S/\k<=x.1*1000000,λx=>s.L.length-x.1⟩ zb ?_ ?_
  ·exact⟨(0,s.W),Tv,⟨Fag _,hpl,0,hF,Fag _⟩,Qbh,⟨rfl,rfl,Tv⟩⟩
  clear hF hpl
  rintro⟨i,w⟩ S ⟨hi,hpl,k,hF,hk⟩
  dsimp only at hi hpl hk⊢
  refine zh (λh1=>?_) (λh1=>ff _ _ (ret rfl))
  have hlt:i<s.L.length:=qq h1
  refine bcd (λh2=>?_) (λh2=>ff _ _ (ret rfl))
  have hm0:=jd hpl.1
  have hpd:=zwf hpl s.L[i]
  have hap:=λst2 R2=>zu9 w hm0.fits hpl.2 hpl.sizes.2.2 s.L[i] (hf _ (Faa hlt)) st2 R2
  generalize doW aE aW w s.L[i]=w2 at*
  generalize doE aE w s.L[i]=e2 at*
  have hm2:=jd hpd.1
  have hU2:=hm2.hU
  obtain⟨hpa,hla⟩:=yfx hpd
  have hra:=λst2 R2=>zvl w2 hpd st2 R2
  have hma:=λR2 hb ho=>zyn (w:=w2) hm2.fits hpd.2 hF (by omega) R2 hb ho
  generalize Dz w2=x at*
  refine Qc zb zsk ?_
  refine⟨i,rfl,za _ (zm hlt) ?_⟩
  refine⟨hap _ _ ⟨Qbg,?_⟩,Tv⟩
  refine⟨⟨Qbg,?_⟩,Tv⟩
  refine hma _ (λhb=>absurd hpd.1 hb) (λ_ N' hF'=>?_)
  refine hra _ _ ?_
  refine Wm _ _ _ ?_
  have hfx:=(jd hpa.1).fits
  refine yb9 x hfx _ _ ?_
  refine zak x hfx _ _ ?_
  refine Qd ?_
  exact⟨(i+1,x),(show s.L.length-(i+1)<s.L.length-i by omega),⟨hlt,hpa,_,hF',by dsimp only;omega⟩,⟨Tq,Tq,Tq,Tq,Tv⟩,⟨rfl,rfl,Tv⟩⟩
theorem zx0(s:Scr)(hn:∀u∈s.W.U,u.pos.ok)(hfs:∀c∈s.L,c.sized)(st:Store)(R:Ja)(h:R (V.bool true) st):Jb 11 [.agg (Kv s)] st R:=
 Il (zx1 s hn hfs) st R λr hr=>hr▸h
end Go.Proofs
