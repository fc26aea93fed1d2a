/- Ground of laws of thronglaw25: contracts and plain lemmas; no condition beyond the row's own. -/
import Derived.Test.YtdfpifbbcigelaaGreatKE
set_option linter.unusedSimpArgs false
set_option linter.unusedVariables false
namespace Go.V
section
variable {t i:Nat} {w:Wld} {tile id:Int} {u:Unt}
def y9(g:Gnd)(t:Nat):Vc:=(tx g t+32768,ty g t+32768)
theorem zxt{g:Gnd}(hg:zp g)(ht:t<g.T.length):(y9 g t).ok:=by
 have ha:=qm hg
 have:=Oq hg (t:=t) (by omega)
 unfold y9 Vc.ok ya
 dsimp only
 omega
def Db(w:Wld)(k tile:Int)(n:Nat):List Nat:=zmu w.G (zt w.G w.B (yx k) (jk k)) (jk k) tile n
theorem Wz(g:Gnd)(f:Nat->Bool)(x y k:Int):∀d t,t∈Lj g f x y k d->t<g.T.length/\f t=true
 |0,t,h=>by cases h
 |d+1,t,h=>by
  rcases Fai.1 (show t∈Lj g f x y k d++O6 g f x y k d from h)with h|h
  ·exact Wz g f x y k d t h
  ·unfold O6 br at h
   obtain⟨h1,h2⟩:=Fbo.1 h
   exact⟨Fbb.1 (Fbo.1 h1).1,h2⟩
theorem Wy{k:Int}{n:Nat}(h:t∈Db w k tile n):t<w.G.T.length/\zt w.G w.B (yx k) (jk k) t=true:=Wz _ _ _ _ _ _ _ (List.mem_of_mem_take h)
open Classical in
noncomputable def Fh(w:Wld)(u:Unt)(tile:Int):Option Nat:=(Db w u.kind tile 64).find? λt=>decide (qv w u.id u.kind (y9 w.G t))
open Classical in
theorem cu(h:Fh w u tile=some t):t∈Db w u.kind tile 64/\qv w u.id u.kind (y9 w.G t):=by
 unfold Fh at h
 exact⟨Fcw h,by have:=Fd0 h;exact of_decide_eq_true this⟩
def D4(u:Unt)(p:Vc):Unt:={u with pos:=p,inn:=0}
noncomputable def unl(tile:Int):List Int->Wld->Option Wld
 |[],w=>some w
 |id::l,w=>match qj w.U id with
  |none=>none
  |some i=>match Fh w (w.U.getD i unt0) tile with
   |none=>none
   |some t=>unl tile l {w with U:=w.U.set i (D4 (w.U.getD i unt0) (y9 w.G t))}
theorem V1{l:List Int}(hi:i<w.U.length)(hf:qj w.U id=some i)(ho:Fh w w.U[i] tile=none):unl tile (id::l) w=none:=by
 show(match qj w.U id with|none=>none|some i=>_)=_
 rw[hf]
 dsimp only
 rw[show w.U.getD i unt0=w.U[i] by simp[Fa6,hi],ho]
theorem Vz{l:List Int}(hi:i<w.U.length)(hf:qj w.U id=some i)(ho:Fh w w.U[i] tile=some t):unl tile (id::l) w=unl tile l {w with U:=w.U.set i (D4 w.U[i] (y9 w.G t))}:=by
 show(match qj w.U id with|none=>none|some i=>_)=_
 rw[hf]
 dsimp only
 rw[show w.U.getD i unt0=w.U[i] by simp[Fa6,hi],ho]
open Classical in
noncomputable def ulE(w:Wld)(c:Cmd):Int:=
 if F9 w c.P c.N=0 then
  (if 0<=c.T/\c.T<w.G.W*w.G.H then
   (if R7 (y9 w.G c.T.toNat) (uAt w c.N).pos then 8 else(match unl c.T (z7 w.U c.N) w with|none=>5|some _=>0))
  else 3)
 else F9 w c.P c.N
noncomputable def ulW(w:Wld)(c:Cmd):Wld:=(unl c.T (z7 w.U c.N) w).getD w
def Dt(L:List Ent)(u:Unt):List Ent:=if u.inn=0 then yr L u.id++[(u.id,u.pos)]else yr L u.id
theorem zq6{L:List Ent}(hF:wz w L)(hr:yh w.U)(hi:i<w.U.length)(hid:w.U[i].id=u.id):wz {w with U:=w.U.set i u} (Dt L u):=by
 have old:∀e,e∈yr L u.id↔∃j,∃hj:j<w.U.length,j≠i/\w.U[j].inn=0/\e=(w.U[j].id,w.U[j].pos):=λe=>by
  rw[mem_dropId,hF e]
  constructor
  ·rintro⟨⟨x,hx,h0,rfl⟩,hne⟩
   obtain⟨j,hj,rfl⟩:=Fan hx
   exact⟨j,hj,λe=>hne (by subst e;exact hid),h0,rfl⟩
  ·rintro⟨j,hj,hji,h0,rfl⟩
   refine⟨⟨w.U[j],Fab hj,h0,rfl⟩,λe=>hji ?_⟩
   have e:w.U[j].id=u.id:=e
   by_cases h1:j<i
   ·have:=Bj hr h1 hi;omega
   ·by_cases h2:i<j
    ·have:=Bj hr h2 hj;omega
    ·omega
 intro e
 have key:(∃y∈w.U.set i u,y.inn=0/\e=(y.id,y.pos))↔(u.inn=0/\e=(u.id,u.pos))\/∃j,∃hj:j<w.U.length,j≠i/\w.U[j].inn=0/\e=(w.U[j].id,w.U[j].pos):=by
  constructor
  ·rintro⟨y,hy,h0,he⟩
   obtain⟨j,hj,rfl⟩:=Fan hy
   rw[Fa4]at hj
   rw[Fci]at h0 he
   split at h0
   ·rename_i hh
    rw[if_pos hh]at he
    exact .inl ⟨h0,he⟩
   ·rename_i hh
    rw[if_neg hh]at he
    exact .inr ⟨j,hj,Ne.symm hh,h0,he⟩
  ·rintro(⟨h0,he⟩|⟨j,hj,hji,h0,he⟩)
   ·exact⟨u,List.mem_set hi u,h0,he⟩
   ·refine⟨w.U[j],?_,h0,he⟩
    have hj2:j<(w.U.set i u).length:=by rw[Fa4];exact hj
    have:(w.U.set i u)[j]=w.U[j]:=by rw[Fci,if_neg (Ne.symm hji)]
    rw[<-this]
    exact Fab hj2
 show e∈Dt L u↔∃y∈w.U.set i u,y.inn=0/\e=(y.id,y.pos)
 rw[key]
 unfold Dt
 split
 ·rename_i h0
  rw[Fai,old,Fb3]
  constructor
  ·rintro(h|h)
   ·exact .inr h
   ·exact .inl ⟨h0,h⟩
  ·rintro(h|h)
   ·exact .inr h.2
   ·exact .inl h
 ·rename_i h0
  rw[old]
  exact⟨.inr,λh=>h.resolve_left λhh=>h0 hh.1⟩
theorem zq7{L:List Ent}(hn:(L.map (·.1)).Nodup)(hF:wz w L):L.length<=w.U.length:=by
 have:=Fbm (l₂:=w.U.map (·.id)) hn (λid hid=>by
  obtain⟨e,he,rfl⟩:=Fad.1 hid
  obtain⟨u,hu,_,rfl⟩:=(hF e).1 he
  exact Fad.2 ⟨u,hu,rfl⟩)
 rw[Fa5,Fa5]at this
 exact this
theorem bp{U:List Unt}(hr:yh U)(hi:i<U.length)(hid:U[i].id=u.id):yh (U.set i u):=by
 intro j hj h0
 rw[Fa4]at hj
 have:=hr j hj h0
 have id':∀k,(hk:k<U.length)->((U.set i u)[k]'(by rw[Fa4];exact hk)).id=U[k].id:=λk hk=>by
  rw[Fci]
  split
  ·rename_i e;subst e;exact hid.symm
  ·rfl
 rw[id' _ (by omega),id' _ hj]
 exact this
end
section
variable {w:Wld} {k:Nat} {kd:Int}
def mvG(g:Int)(u:Unt):Unt:={u with goal:=g,next:=-1,stuck:=0,state:=1}
def Aq(w:Wld)(c:Cmd)(k:Nat)(kd:Int):Int:=match(Db w kd c.T c.U.length)[k]? with|some t=>(t:Int)|none=>c.T
def mvL(w:Wld)(c:Cmd):Nat->List Unt
 |0=>w.U
 |k+1=>match qj w.U (c.U.getD k 0)with
  |some i=>(mvL w c k).set i (mvG (Aq w c k (w.U.getD i unt0).kind) (w.U.getD i unt0))
  |none=>mvL w c k
def mvE(w:Wld)(c:Cmd):Int:=if 0<=c.T/\c.T<w.G.W*w.G.H then Ca (jr w c.P) c.U else 3
def mvW(w:Wld)(c:Cmd):Wld:={w with U:=mvL w c c.U.length}
theorem zrr{c:Cmd}{i:Nat}(hk:k<c.U.length)(hf:qj w.U c.U[k]=some i)(hi:i<w.U.length):mvL w c (k+1)=(mvL w c k).set i (mvG (Aq w c k w.U[i].kind) w.U[i]):=by
 show(match qj w.U (c.U.getD k 0)with|some i=>_|none=>_)=_
 rw[show c.U.getD k 0=c.U[k] by simp[Fa6,hk],hf]
 dsimp only
 rw[show w.U.getD i unt0=w.U[i] by simp[Fa6,hi]]
theorem Ch(w:Wld)(c:Cmd):∀k,(mvL w c k).length=w.U.length
 |0=>rfl
 |k+1=>by
  show(match qj w.U (c.U.getD k 0)with|some i=>_|none=>_:List Unt).length=_
  cases qj w.U (c.U.getD k 0)with
  |none=>exact Ch w c k
  |some i=>dsimp only;rw[Fa4];exact Ch w c k
theorem P6(w:Wld)(c:Cmd):∀k j,(hj:j<w.U.length)->mvG 0 ((mvL w c k)[j]'(by rw[Ch];exact hj))=mvG 0 w.U[j]
 |0,j,hj=>rfl
 |k+1,j,hj=>by
  have ih:=P6 w c k j hj
  have key:∀L:List Unt,(hL:j<L.length)->L=mvL w c (k+1)->mvG 0 L[j]=mvG 0 w.U[j]:=λL hL e=>by
   have e2:mvL w c (k+1)=(match qj w.U (c.U.getD k 0)with
    |some i=>(mvL w c k).set i (mvG (Aq w c k (w.U.getD i unt0).kind) (w.U.getD i unt0))
    |none=>mvL w c k):=rfl
   rw[e2]at e
   cases hf:qj w.U (c.U.getD k 0)with
   |none=>rw[hf]at e;subst e;exact ih
   |some i=>
    rw[hf]at e
    obtain⟨hi,_⟩:=Kj hf
    subst e
    rw[Fci]
    split
    ·rename_i e3;subst e3
     rw[show w.U.getD i unt0=w.U[i] by simp[Fa6,hi]]
     rfl
    ·exact ih
  exact key _ (by rw[Ch];exact hj) rfl
theorem Ha{a b:Unt}(h:mvG 0 a=mvG 0 b):a.id=b.id/\a.owner=b.owner/\a.kind=b.kind/\a.pos=b.pos/\a.inn=b.inn:=by
 refine⟨?_,?_,?_,?_,?_⟩
 ·have:=congrArg Unt.id h
  exact this
 ·have:=congrArg Unt.owner h
  exact this
 ·have:=congrArg Unt.kind h
  exact this
 ·have:=congrArg Unt.pos h
  exact this
 ·have:=congrArg Unt.inn h
  exact this
theorem zrs{c:Cmd}{u:Unt}(h:u∈mvL w c k):∃x∈w.U,u.id=x.id/\u.owner=x.owner/\u.kind=x.kind/\u.pos=x.pos/\u.inn=x.inn:=by
 obtain⟨j,hj,rfl⟩:=Fan h
 have hj2:=hj
 rw[Ch]at hj2
 exact⟨w.U[j],Fab hj2,Ha (P6 w c k j hj2)⟩
theorem zrx{c:Cmd}(h:¬(0<=c.T/\c.T<w.G.W*w.G.H)):mvE w c=3:=by unfold mvE;rw[if_neg h]
theorem zrw{c:Cmd}(h:0<=c.T/\c.T<w.G.W*w.G.H):mvE w c=Ca (jr w c.P) c.U:=by unfold mvE;rw[if_pos h]
theorem zrt{c:Cmd}(h:k<(Db w kd c.T c.U.length).length):Aq w c k kd=((Db w kd c.T c.U.length)[k]:Nat):=by
 unfold Aq
 rw[Faa h]
theorem zrv{c:Cmd}(h:¬k<(Db w kd c.T c.U.length).length):Aq w c k kd=c.T:=by
 unfold Aq
 rw[Fbi (by omega)]
end
section
variable {w:Wld}
noncomputable def aE(w:Wld)(c:Cmd):Int:=if c.K=1 then spE w c else if c.K=2 then mvE w c else if c.K=3 then stE w c else if c.K=4 then bdE w c else if c.K=5 then drE w c else if c.K=6 then ldE w c else ulE w c
noncomputable def aW(w:Wld)(c:Cmd):Wld:=if c.K=1 then spW w c else if c.K=2 then mvW w c else if c.K=3 then stW w c else if c.K=4 then bdW w c else if c.K=5 then drW w c else if c.K=6 then ldW w c else ulW w c
theorem a1{c:Cmd}(h:c.K=1):aE w c=spE w c/\aW w c=spW w c:=by unfold aE aW;rw[h];exact⟨rfl,rfl⟩
theorem a2{c:Cmd}(h:c.K=2):aE w c=mvE w c/\aW w c=mvW w c:=by unfold aE aW;rw[h];exact⟨rfl,rfl⟩
theorem a3{c:Cmd}(h:c.K=3):aE w c=stE w c/\aW w c=stW w c:=by unfold aE aW;rw[h];exact⟨rfl,rfl⟩
theorem a4{c:Cmd}(h:c.K=4):aE w c=bdE w c/\aW w c=bdW w c:=by unfold aE aW;rw[h];exact⟨rfl,rfl⟩
theorem a5{c:Cmd}(h:c.K=5):aE w c=drE w c/\aW w c=drW w c:=by unfold aE aW;rw[h];exact⟨rfl,rfl⟩
theorem a6{c:Cmd}(h:c.K=6):aE w c=ldE w c/\aW w c=ldW w c:=by unfold aE aW;rw[h];exact⟨rfl,rfl⟩
theorem a7{c:Cmd}(h:c.K=7):aE w c=ulE w c/\aW w c=ulW w c:=by unfold aE aW;rw[h];exact⟨rfl,rfl⟩
theorem ey{c:Cmd}(h:Ct c):c.K=1\/c.K=2\/c.K=3\/c.K=4\/c.K=5\/c.K=6\/c.K=7:=Classical.byContradiction λhn=>by
 have hn:c.K≠1/\c.K≠2/\c.K≠3/\c.K≠4/\c.K≠5/\c.K≠6/\c.K≠7:=by omega
 exact Cmd.ok0 hn.1 hn.2.1 hn.2.2.1 hn.2.2.2.1 hn.2.2.2.2.1 hn.2.2.2.2.2.1 hn.2.2.2.2.2.2 h.1
theorem iq{E:Wld->Cmd->Int}{c:Cmd}(h:doE E w c=0):zw w/\Ct c/\c.P<=w.players/\E w c=0:=by
 have hb:¬(¬zw w\/¬Ct c\/w.players<c.P):=λhb=>by rw[zwe hb]at h;cases h
 have h1:zw w:=Classical.byContradiction λhh=>hb (.inl hh)
 have h2:Ct c:=Classical.byContradiction λhh=>hb (.inr (.inl hh))
 have h3:c.P<=w.players:=Int.not_lt.1 λhh=>hb (.inr (.inr hh))
 refine⟨h1,h2,h3,?_⟩
 rw[zwd h1 h2 h3]at h
 exact h
theorem V2{tile:Int}:∀(l:List Int) (w x:Wld),yh w.U->unl tile l w=some x->x.tick=w.tick/\x.players=w.players/\x.next=w.next/\x.G=w.G/\x.B=w.B/\∃h:x.U.length=w.U.length,∀j,(hj:j<w.U.length)->x.U[j].id=w.U[j].id/\x.U[j].owner=w.U[j].owner/\x.U[j].kind=w.U[j].kind/\(x.U[j]=w.U[j]\/∃t,t<w.G.T.length/\x.U[j].pos=y9 w.G t)
 |[],w,x,hr,h=>by
  have:w=x:=Option.some.inj h
  subst this
  exact⟨rfl,rfl,rfl,rfl,rfl,rfl,λj hj=>⟨rfl,rfl,rfl,.inl rfl⟩⟩
 |id::l,w,x,hr,h=>by
  cases hf:qj w.U id with
  |none=>
   have:unl tile (id::l) w=none:=by
    show(match qj w.U id with|none=>none|some i=>_)=_
    rw[hf]
   rw[this]at h;cases h
  |some i=>
   obtain⟨hi,_⟩:=Kj hf
   cases ho:Fh w w.U[i] tile with
   |none=>rw[V1 hi hf ho]at h;cases h
   |some t=>
    rw[Vz hi hf ho]at h
    have ht:=(Wy (cu ho).1).1
    obtain⟨h0,h1,h2,h3,h4,h5,h6⟩:=V2 l _ x (bp hr hi (u:=D4 w.U[i] (y9 w.G t)) rfl) h
    have hl:(w.U.set i (D4 w.U[i] (y9 w.G t))).length=w.U.length:=Fa4
    refine⟨h0,h1,h2,h3,h4,h5.trans hl,λj hj=>?_⟩
    obtain⟨k1,k2,k3,k4⟩:=h6 j (by rw[hl];exact hj)
    by_cases e:i=j
    ·subst e
     have e9:(w.U.set i (D4 w.U[i] (y9 w.G t)))[i]'(by rw[hl];exact hj)=D4 w.U[i] (y9 w.G t):=List.getElem_set_self _
     dsimp only at k1 k2 k3 k4
     rw[e9]at k1 k2 k3 k4
     refine⟨k1,k2,k3,.inr ?_⟩
     rcases k4 with k4|⟨t2,k4,k5⟩
     ·exact⟨t,ht,by rw[k4];rfl⟩
     ·exact⟨t2,k4,k5⟩
    ·have e9:(w.U.set i (D4 w.U[i] (y9 w.G t)))[j]'(by rw[hl];exact hj)=w.U[j]:=List.getElem_set_ne e _
     dsimp only at k1 k2 k3 k4
     rw[e9]at k1 k2 k3 k4
     exact⟨k1,k2,k3,k4⟩
theorem V3{c:Cmd}(hr:yh w.U):(ulW w c).tick=w.tick/\(ulW w c).players=w.players/\(ulW w c).next=w.next/\(ulW w c).G=w.G/\(ulW w c).B=w.B/\∃h:(ulW w c).U.length=w.U.length,∀j,(hj:j<w.U.length)->(ulW w c).U[j].id=w.U[j].id/\(ulW w c).U[j].owner=w.U[j].owner/\(ulW w c).U[j].kind=w.U[j].kind/\((ulW w c).U[j]=w.U[j]\/∃t,t<w.G.T.length/\(ulW w c).U[j].pos=y9 w.G t):=by
 have key:∀x:Wld,ulW w c=x->x.tick=w.tick/\x.players=w.players/\x.next=w.next/\x.G=w.G/\x.B=w.B/\∃h:x.U.length=w.U.length,∀j,(hj:j<w.U.length)->x.U[j].id=w.U[j].id/\x.U[j].owner=w.U[j].owner/\x.U[j].kind=w.U[j].kind/\(x.U[j]=w.U[j]\/∃t,t<w.G.T.length/\x.U[j].pos=y9 w.G t):=λx hx=>by
  unfold ulW at hx
  cases h:unl c.T (z7 w.U c.N) w with
  |none=>
   rw[h]at hx
   have:w=x:=hx
   subst this
   exact⟨rfl,rfl,rfl,rfl,rfl,rfl,λj hj=>⟨rfl,rfl,rfl,.inl rfl⟩⟩
  |some y=>
   rw[h]at hx
   have:y=x:=hx
   subst this
   exact V2 _ _ _ hr h
 exact key _ rfl
theorem W4{l:List Int}{g:Unt->Unt}{U:List Unt}{u:Unt}(h:u∈qw l g U):∃x∈U,u=x\/u=g x:=by
 unfold qw at h
 obtain⟨x,hx,rfl⟩:=Fad.1 h
 refine⟨x,hx,?_⟩
 split
 ·exact .inr rfl
 ·exact .inl rfl
theorem zzu{c:Cmd}(hn:∀u∈w.U,u.pos.ok)(h:doE aE w c=0):∀u∈(aW w c).U,u.pos.ok:=by
 obtain⟨hm,hc,hp,he⟩:=iq h
 have z0:Vc.ok (0,0):=by unfold Vc.ok ya;decide
 intro u hu
 rcases ey hc with k|k|k|k|k|k|k
 ·rw[(a1 k).2]at hu
  rcases Fai.1 (show u∈w.U++[spU w c]from hu)with hu|hu
  ·exact hn u hu
  ·rw[Fb3]at hu
   subst hu
   have:=(Cmd.ok1 k).1 hc.1
   have:=this.2
   show Vc.ok (c.X,c.Y)
   unfold k7 at this
   unfold Vc.ok ya
   dsimp only
   omega
 ·rw[(a2 k).2]at hu
  obtain⟨x,hx,_,_,_,e,_⟩:=zrs (show u∈mvL w c c.U.length from hu)
  rw[e];exact hn x hx
 ·rw[(a3 k).2]at hu
  obtain⟨x,hx,rfl|rfl⟩:=W4 (show u∈qw c.U Pc w.U from hu)
  ·exact hn _ hx
  ·exact hn x hx
 ·rw[(a4 k).2]at hu
  exact hn u hu
 ·rw[(a5 k).2]at hu
  unfold drW at hu
  cases hf:Hq w.B c.N with
  |none=>rw[hf]at hu;exact hn u hu
  |some i=>rw[hf]at hu;exact hn u hu
 ·rw[(a6 k).2]at hu
  obtain⟨x,hx,rfl|rfl⟩:=W4 (show u∈qw c.U (ldU c.N) w.U from hu)
  ·exact hn _ hx
  ·exact z0
 ·rw[(a7 k).2]at hu
  obtain⟨_,_,_,_,_,hl,hf⟩:=V3 (c:=c) hm.1.2.1
  obtain⟨j,hj,rfl⟩:=Fan hu
  obtain⟨_,_,_,e|⟨t,ht,e⟩⟩:=hf j (by omega)
  ·rw[e];exact hn _ (Fab _)
  ·rw[e];exact zxt hm.1.1.2.1.1 ht
theorem zv8(w:Wld)(c:Cmd):(drW w c).tick=w.tick/\(drW w c).players=w.players/\(drW w c).next=w.next/\(drW w c).G=w.G/\(drW w c).U=w.U/\(drW w c).B.length<=w.B.length:=by
 unfold drW
 cases Hq w.B c.N with
 |none=>exact⟨rfl,rfl,rfl,rfl,rfl,Fak _⟩
 |some i=>exact⟨rfl,rfl,rfl,rfl,rfl,List.length_eraseIdx_le _ _⟩
end
instance(g:Gnd)(t:Nat)(p:Vc)(r:Int):Decidable (ve g t p r):=by unfold ve;infer_instance
instance(g:Gnd)(b:Bld):Decidable (Cr g b):=by unfold Cr;infer_instance
instance(g:Gnd)(b:Bld):Decidable (onP g b):=by unfold onP;infer_instance
instance(b:Bld):Decidable (yv b):=by unfold yv;infer_instance
instance(a b:Bld):Decidable (At a b):=by unfold At;infer_instance
instance(l:List Bld):Decidable (Lq l):=by unfold Lq;infer_instance
instance(l:List Bld):Decidable (Nq l):=by unfold Nq;infer_instance
instance(g:Gnd):Decidable (zp g):=by unfold zp;infer_instance
instance(g:Gnd)(l:List Bld):Decidable (Gb g l):=by unfold Gb;infer_instance
instance(g:Gnd)(l:List Bld)(c:Int)(p:Vc)(r:Int):Decidable (wj g l c p r):=by unfold wj;infer_instance
instance(w:Wld)(id k:Int)(p:Vc):Decidable (qv w id k p):=by unfold qv;infer_instance
instance(k:Int):Decidable (Fq k):=by unfold Fq;infer_instance
instance(g:Gnd)(t:Int):Decidable (wc g t):=by unfold wc;infer_instance
instance(w:Wld)(u:Unt):Decidable (xh w u):=by unfold xh;infer_instance
instance(w:Wld):Decidable (Kb w):=by unfold Kb;infer_instance
instance(l:List Unt):Decidable (yh l):=by unfold yh;infer_instance
instance(w:Wld):Decidable (H7 w):=by unfold H7;infer_instance
instance(w:Wld)(u:Unt):Decidable (Bk w u):=by unfold Bk;infer_instance
instance(w:Wld):Decidable (zw w):=by unfold zw;infer_instance
instance(x y:Int):Decidable (k7 x y):=by unfold k7;infer_instance
instance(t:Int):Decidable (Gn t):=by unfold Gn;infer_instance
instance(t:Int):Decidable (idP t):=by unfold idP;infer_instance
instance(l:List Int):Decidable (Gk l):=by unfold Gk;infer_instance
instance(w:Wld):Decidable (Ke w):=by unfold Ke;infer_instance
def q9(a b:Vc):Vc:=(yq a.1 b.1,yq a.2 b.2)
def xx(v:Vc):Vc:=(nrm v.1,nrm v.2)
def vw(v:Vc)(k:Nat):Vc:=(v.1.tdiv (2^k:Nat),v.2.tdiv (2^k:Nat))
def Lp(m:Int):Nat->Int->Int
 |0,r=>r
 |b+1,r=>Lp m b (if(r+(2^b:Nat))*(r+(2^b:Nat))<=m then r+(2^b:Nat)else r)
def xp(m:Int):Int:=Lp m 63 0
theorem zpp{m:Int}(hm:0<=m):∀(b:Nat) (r:Int),0<=r->r*r<=m->(r+(2^b:Nat)=9223372036854775808\/m<(r+(2^b:Nat))*(r+(2^b:Nat)))->r+(2^b:Nat)<=9223372036854775808->Cm m (Lp m b r):=by
 intro b
 induction b with
 |zero=>
  intro r h0 h1 h2 h3
  refine⟨h0,?_,h1,?_⟩
  ·simp only[Nat.pow_zero]at h3
   show r<=_
   omega
  ·show r=_\/_
   simp only[Nat.pow_zero]at h2
   rcases h2 with h2|h2
   ·exact .inl (by omega)
   ·exact .inr h2
 |succ b ih=>
  intro r h0 h1 h2 h3
  have hp:(2^(b+1):Nat)=2^b+2^b:=by rw[Nat.pow_succ];omega
  have hq:0<2^b:=Nat.pow_pos (by decide)
  rw[hp]at h2 h3
  generalize hB:2^b=B at*
  show Cm m (Lp m b (if _ then _ else _))
  rw[hB]
  split
  ·rename_i hle
   refine ih (r+(B:Nat)) (by omega) hle ?_ (by omega)
   rw[Int.add_assoc,show((B:Nat):Int)+(B:Nat)=((B+B:Nat):Int) by omega]
   exact h2
  ·rename_i hle
   exact ih r h0 h1 (.inr (by omega)) (by omega)
theorem G4{m:Int}(hm:0<=m):Cm m (xp m):=zpp hm 63 0 (by decide) (by simpa using hm) (.inl (by decide)) (by decide)
theorem bm{m r:Int}(hm:0<=m)(h:Cm m r):r=xp m:=zs0 h (G4 hm)
def Cs(c most long:Int):Int:=if c<0 then -((-c)*most/long)else c*most/long
def qz(v:Vc)(most:Int):Vc:=
 if xp (sqr v)<=max most 0 then xx v else(Cs (nrm v.1) (max most 0) (xp (sqr v)),Cs (nrm v.2) (max most 0) (xp (sqr v)))
def Gm(p q:Vc)(speed:Int):Vc:=qz (qf q p) speed
def ka(p:Vc)(r:Int)(q:Vc):Vc:=
 if near p q r then qz (if qf p q=(0,0)then(65536,0)else qf p q) (r-xp (sqr (qf p q)))else(0,0)
instance(w:Wld)(id k:Int)(p:Vc):Decidable (qv w id k p):=by unfold qv wj;infer_instance
def j7(w:Wld)(u:Unt)(v:Vc):Nat->Nat->Option (Nat×Vc)
 |0,_=>none
 |n+1,k=>if vw v k=(0,0)then none else if qv w u.id u.kind (q9 u.pos (vw v k))then some (k,q9 u.pos (vw v k))else j7 w u v n (k+1)
def yb(w:Wld)(u:Unt):Wld:={w with U:=w.U.map λx=>if x.id=u.id then u else x}
def D6(w:Wld)(u:Unt)(v:Vc):Int:=match j7 w u (xx v) 5 0 with|none=>5|some (k,_)=>(k:Int)
def jt(w:Wld)(u:Unt)(v:Vc):Wld:=match j7 w u (xx v) 5 0 with|none=>w|some (_,p)=>yb w {u with pos:=p}
def Dl(w:Wld)(u:Unt):Vc:=w.U.foldl (λv x=>if x.inn=0/\x.id≠u.id then q9 v (ka u.pos (zq u.kind+zq x.kind+16384) x.pos)else v) (0,0)
def Bt(w:Wld)(u:Unt):Wld:=jt w u (qz (Dl w u) ((jj u.kind).tdiv 4))
def ko(s:Int)(u:Unt):Unt:={u with goal:=-1,next:=-1,stuck:=0,state:=s}
def okU(w:Wld)(u:Unt)(t:Nat):Bool:=zt w.G w.B (yx u.kind) (jk u.kind) t
def Fo(w:Wld)(u:Unt)(own:Nat):Bool:=
 decide (u.next=-1)||decide (u.pos=y9 w.G u.next.toNat)|| !okU w u u.next.toNat||(decide (u.next≠own)&& !(Bp w.G own).contains u.next)
noncomputable def wg(w:Wld)(u:Unt)(own:Nat):Int:=
 if u.pos≠y9 w.G own then own else
  (let way:=qq w.G (okU w u) (yx u.kind) (jm w.G (okU w u) (yx u.kind) u.goal.toNat) own
   if way<0 then -1 else zz w.G own way.toNat)
def wt(w:Wld)(u:Unt):Wld:=
 if D6 (yb w {u with stuck:=0}) {u with stuck:=0} (Gm u.pos (y9 w.G u.next.toNat) (jj u.kind))<5 then jt (yb w {u with stuck:=0}) {u with stuck:=0} (Gm u.pos (y9 w.G u.next.toNat) (jj u.kind))
 else if u.stuck+1=8 then yb w (ko 4 u)else yb w {u with stuck:=u.stuck+1,next:=-1}
noncomputable def Ad(w:Wld)(u:Unt):Wld:=
 if u.pos=y9 w.G u.goal.toNat then yb w (ko 2 u)
 else if Fo w u (j8 w.G u.pos)then
  (if wg w u (j8 w.G u.pos)<0 then yb w (ko 3 u)else wt w {u with next:=wg w u (j8 w.G u.pos)})
 else wt w u
noncomputable def ki(w:Wld)(u:Unt):Wld:=if u.goal=-1 then Bt w u else Ad w u
theorem Wt(x y:Int):(x-y)*(x-y)=(y-x)*(y-x):=by
 have:y-x=-(x-y):=by omega
 rw[this,Fdh]
theorem mr{g:Gnd}(hg:zp g){l:List Bld}{c c':Int}{p q:Vc}{k k':Int}(hp:wj g l c p (zq k))(hq:wj g l c' q (zq k')):kb p (zq k) q (zq k')=kb q (zq k') p (zq k):=by
 have b1:=Mu hg hp
 have b2:=Mu hg hq
 have r1:=Ff k
 have r2:=Ff k'
 unfold kb
 rw[P0 (by omega) (by omega) (by omega) (by omega) (by omega),P0 (by omega) (by omega) (by omega) (by omega) (by omega),Wt p.1,Wt p.2,Int.add_comm (zq k)]
theorem Sn{w w':Wld}{id k:Int}{p:Vc}(hG:w'.G=w.G)(hB:w'.B=w.B)(h:∀v∈w'.U,v.inn=0->v.id≠id->∃x∈w.U,x.inn=0/\x.id≠id/\x.pos=v.pos/\x.kind=v.kind)(hc:qv w id k p):qv w' id k p:=by
 refine⟨by rw[hG,hB];exact hc.1,λv hv h0 hid=>?_⟩
 obtain⟨x,hx,e1,e2,e3,e4⟩:=h v hv h0 hid
 rw[<-e3,<-e4]
 exact hc.2 x hx e1 e2
theorem fi(l:List Unt)(id:Int):z7 l id=((l.map λu=>(u.inn,u.id)).filter λx=>x.1==id).map (·.2):=by
 unfold z7
 rw[List.filter_map,List.map_map]
 rfl
theorem zte{U U':List Unt}(hl:U'.length=U.length)(h:∀j,(hj:j<U.length)->(U'[j]'(by omega)).inn=U[j].inn/\(U'[j]'(by omega)).id=U[j].id)(id:Int):z7 U' id=z7 U id:=by
 rw[fi,fi]
 have:(U'.map λu=>(u.inn,u.id))=U.map λu=>(u.inn,u.id):=by
  apply Fed (by rw[Fa5,Fa5];exact hl)
  intro j h1 h2
  rw[Fa5]at h1 h2
  rw[Fcj,Fcj,(h j h2).1,(h j h2).2]
 rw[this]
theorem bq{U U':List Unt}(hl:U'.length=U.length)(h:∀j,(hj:j<U.length)->(U'[j]'(by omega)).id=U[j].id)(hr:yh U):yh U':=by
 intro j hj h0
 rw[hl]at hj
 have:=hr j hj h0
 rw[h _ (by omega),h _ hj]
 exact this
theorem ztd{l:List Unt}{u:Unt}(hu:u∈l):u.id∈z7 l u.inn:=by
 unfold z7
 exact Fad.2 ⟨u,Fbo.2 ⟨hu,by simp⟩,rfl⟩
theorem Rc{w:Wld}(hm:zw w){U:List Unt}(hl:U.length=w.U.length)(h1:∀j,(hj:j<w.U.length)->mvG 0 (U[j]'(by omega))=mvG 0 w.U[j])(h2:∀j,(hj:j<w.U.length)->w.U[j].inn≠0->U[j]'(by omega)=w.U[j])(h3:∀j,(hj:j<w.U.length)->xh w (U[j]'(by omega))):zw {w with U:=U}:=by
 obtain⟨⟨hh,hr,hu⟩,hc,hd⟩:=hm
 have same:=λj hj=>Ha (h1 j hj)
 have back:∀v∈U,∃j,∃hj:j<w.U.length,v=U[j]'(by omega):=λv hv=>by
  obtain⟨j,hj,rfl⟩:=Fan hv
  exact⟨j,by omega,rfl⟩
 have hin:=zte hl (λj hj=>⟨(same j hj).2.2.2.2,(same j hj).1⟩)
 refine⟨⟨⟨hh.1,⟨hh.2.1.1,hh.2.1.2.1,by show U.length<=_;rw[hl];exact hh.2.1.2.2⟩,hh.2.2⟩,bq hl (λj hj=>(same j hj).1) hr,λv hv=>?_⟩,λv hv h0=>?_,λv hv h0=>?_⟩
 ·obtain⟨j,hj,rfl⟩:=back v hv
  refine⟨h3 j hj,λb hb=>?_⟩
  rw[(same j hj).1]
  exact(hu _ (Fab hj)).2 b hb
 ·obtain⟨j,hj,rfl⟩:=back v hv
  obtain⟨e1,_,e3,e4,e5⟩:=same j hj
  rw[e1,e3,e4]
  refine Sn (w:=w) rfl rfl (λx hx hx0 hxi=>?_) (hc _ (Fab hj) (by rw[<-e5];exact h0))
  obtain⟨k,hk,rfl⟩:=back x hx
  obtain⟨f1,_,f3,f4,f5⟩:=same k hk
  exact⟨_,Fab hk,by rw[<-f5];exact hx0,by rw[<-f1];exact hxi,f4.symm,f3.symm⟩
 ·obtain⟨j,hj,rfl⟩:=back v hv
  have e5:=(same j hj).2.2.2.2
  rw[e5]at h0
  rw[h2 j hj h0]
  obtain⟨x,hx,g1,g2,g3,g4⟩:=hd _ (Fab hj) h0
  obtain⟨k,hk,rfl⟩:=Fan hx
  obtain⟨f1,f2,f3,f4,f5⟩:=same k hk
  refine⟨U[k]'(by omega),Fab _,by rw[f1];exact g1,⟨by rw[f5];exact g2.1,by rw[f2];exact g2.2⟩,?_,g4⟩
  show((z7 U _).length:Int)<=_
  rw[hin,f3]
  exact g3
theorem gz{q:Unt->Bool}{x:Unt}(hx:q x=false):∀(U:List Unt) (i:Nat),((U.set i x).filter q).length<=(U.filter q).length
 |[],_=>Fak _
 |a::l,0=>by
  rw[List.set_cons_zero,Fck,Fck]
  simp only[hx,Fag,if_false]
  split
  ·rw[Fbc];omega
  ·exact Fak _
 |a::l,i+1=>by
  rw[List.set_cons_succ,Fck,Fck]
  have:=gz hx l i
  split
  ·simp only[Fbc];omega
  ·exact this
theorem eh{w:Wld}(hm:zw w){i:Nat}(hi:i<w.U.length){p:Vc}(hp:qv w w.U[i].id w.U[i].kind p):zw {w with U:=w.U.set i {w.U[i]with pos:=p,inn:=0}}:=by
 obtain⟨⟨hh,hr,hu⟩,hc,hd⟩:=hm
 have hg:=hh.2.1.1
 have hl:(w.U.set i {w.U[i]with pos:=p,inn:=0}).length=w.U.length:=Fa4
 have get:∀j,(hj:j<w.U.length)->(w.U.set i {w.U[i]with pos:=p,inn:=0})[j]'(by omega)=if i=j then{w.U[i]with pos:=p,inn:=0}else w.U[j]:=λj hj=>Fci ..
 have back:∀v∈w.U.set i {w.U[i]with pos:=p,inn:=0},v={w.U[i]with pos:=p,inn:=0}\/∃j,∃hj:j<w.U.length,j≠i/\v=w.U[j]:=λv hv=>by
  obtain⟨j,hj,rfl⟩:=Fan hv
  rw[hl]at hj
  rw[get j hj]
  split
  ·exact .inl rfl
  ·rename_i e;exact .inr ⟨j,hj,Ne.symm e,rfl⟩
 have idne:∀j,(hj:j<w.U.length)->j≠i->w.U[j].id≠w.U[i].id:=λj hj hne e=>by
  rcases Fd5 j i with q|q|q
  ·have:=Bj hr q hi;omega
  ·exact hne q
  ·have:=Bj hr q hj;omega
 have hself:xh w {w.U[i]with pos:=p,inn:=0}/\∀b∈w.B,b.id≠w.U[i].id:=⟨(hu _ (Fab hi)).1,(hu _ (Fab hi)).2⟩
 refine⟨⟨⟨hh.1,⟨hh.2.1.1,hh.2.1.2.1,by show(w.U.set i _).length<=_;rw[hl];exact hh.2.1.2.2⟩,hh.2.2⟩,bp hr hi rfl,λv hv=>?_⟩,λv hv h0=>?_,λv hv h0=>?_⟩
 ·rcases back v hv with rfl|⟨j,hj,_,rfl⟩
  ·exact hself
  ·exact hu _ (Fab hj)
 ·rcases back v hv with rfl|⟨j,hj,hne,rfl⟩
  ·refine Sn (w:=w) rfl rfl (λx hx hx0 hxi=>?_) hp
   rcases back x hx with rfl|⟨k,hk,_,rfl⟩
   ·exact absurd rfl hxi
   ·exact⟨_,Fab hk,hx0,hxi,rfl,rfl⟩
  ·have hcj:=hc _ (Fab hj) h0
   refine⟨hcj.1,λx hx hx0 hxi=>?_⟩
   rcases back x hx with rfl|⟨k,hk,_,rfl⟩
   ·have:=hp.2 _ (Fab hj) h0 (idne j hj hne)
    rw[mr hg hp.1 hcj.1]at this
    exact this
   ·exact hcj.2 _ (Fab hk) hx0 hxi
 ·rcases back v hv with rfl|⟨j,hj,hne,rfl⟩
  ·exact absurd rfl h0
  obtain⟨x,hx,g1,g2,g3,g4⟩:=hd _ (Fab hj) h0
  obtain⟨k,hk,rfl⟩:=Fan hx
  have hle:((z7 (w.U.set i {w.U[i]with pos:=p,inn:=0}) w.U[j].inn).length:Int)<=xn w.U[k].kind:=by
   have h9:=gz (q:=λu=>u.inn==w.U[j].inn) (x:={w.U[i]with pos:=p,inn:=0}) (by
    show((0:Int)==w.U[j].inn)=false
    simpa using λe=>h0 e.symm) w.U i
   unfold z7 at g3⊢
   rw[Fa5]at g3⊢
   omega
  by_cases e:k=i
  ·subst e
   exact⟨{w.U[k]with pos:=p,inn:=0},List.mem_set hi _,g1,⟨rfl,g2.2⟩,hle,g4⟩
  ·refine⟨w.U[k],?_,g1,g2,hle,g4⟩
   have:(w.U.set i {w.U[i]with pos:=p,inn:=0})[k]'(by omega)=w.U[k]:=by rw[get k hk,if_neg (Ne.symm e)]
   rw[<-this]
   exact Fab _
theorem ed{tile:Int}:∀(l:List Int) (w x:Wld),zw w->unl tile l w=some x->zw x
 |[],w,x,hm,h=>by
  have:w=x:=Option.some.inj h
  subst this
  exact hm
 |id::l,w,x,hm,h=>by
  cases hf:qj w.U id with
  |none=>
   have:unl tile (id::l) w=none:=by
    show(match qj w.U id with|none=>none|some i=>_)=_
    rw[hf]
   rw[this]at h;cases h
  |some i=>
   obtain⟨hi,_⟩:=Kj hf
   cases ho:Fh w w.U[i] tile with
   |none=>rw[V1 hi hf ho]at h;cases h
   |some t=>
    rw[Vz hi hf ho]at h
    exact ed l _ x (eh hm hi (cu ho).2) h
section
variable {w:Wld} {i:Nat} {u:Unt} {s:Int}
theorem Fg(hr:yh w.U)(hi:i<w.U.length)(hid:u.id=w.U[i].id):yb w u={w with U:=w.U.set i u}:=by
 unfold yb
 congr 1
 refine Fed (by simp) λj h1 h2=>?_
 have hj:j<w.U.length:=by simpa using h1
 rw[Fcj,Fci]
 by_cases e:i=j
 ·subst e
  rw[if_pos hid.symm,if_pos rfl]
 ·rw[if_neg e,if_neg]
  intro hx
  rcases Nat.lt_or_gt_of_ne e with h|h
  ·have:=Iq hr h hj;omega
  ·have:=Iq hr h hi;omega
theorem Lv(hr:yh w.U)(hi:i<w.U.length)(hid:u.id=w.U[i].id):∃h2:i<(yb w u).U.length,(yb w u).U[i]=u:=by
 rw[Fg hr hi hid]
 exact⟨by simpa using hi,by simp⟩
theorem Lu(w:Wld)(u:Unt):(yb w u).U.length=w.U.length:=by simp[yb]
theorem cj(hr:yh w.U)(hi:i<w.U.length)(hid:u.id=w.U[i].id){j:Nat}(hj:j<w.U.length)(hij:j≠i):(yb w u).U[j]'(by rw[Lu];exact hj)=w.U[j]:=by
 have h:=Fg hr hi hid
 have:(yb w u).U=w.U.set i u:=by rw[h]
 simp only[this]
 rw[Fci,if_neg (Ne.symm hij)]
theorem Ma(hm:zw w)(hi:i<w.U.length)(h0:w.U[i].inn=0)(h1:mvG 0 u=mvG 0 w.U[i])(h2:xh w u):zw (yb w u):=by
 have hid:u.id=w.U[i].id:=(Ha h1).1
 rw[Fg hm.1.2.1 hi hid]
 have get:∀j,(hj:j<w.U.length)->(w.U.set i u)[j]'(by simpa using hj)=if i=j then u else w.U[j]:=λj hj=>Fci ..
 refine Rc hm (by simp) (λj hj=>?_) (λj hj hn=>?_) (λj hj=>?_)
 ·rw[get j hj]
  split
  ·rename_i e;subst e;exact h1
  ·rfl
 ·rw[get j hj]
  split
  ·rename_i e;subst e;exact absurd h0 hn
  ·rfl
 ·rw[get j hj]
  split
  ·exact h2
  ·exact(hm.1.2.2 _ (Fab hj)).1
theorem K8{v:Vc}:∀(n k:Nat) {r:Nat×Vc},j7 w u v n k=some r->qv w u.id u.kind r.2/\(k<=r.1/\r.1<k+n)/\r.2=q9 u.pos (vw v r.1)
 |0,k,r,h=>by cases h
 |n+1,k,r,h=>by
  unfold j7 at h
  split at h
  ·cases h
  ·split at h
   ·cases h
    exact⟨‹_›,by omega,rfl⟩
   ·obtain⟨h1,h2,h3⟩:=K8 n (k+1) h
    exact⟨h1,by omega,h3⟩
theorem ee(hm:zw w)(hi:i<w.U.length)(h0:w.U[i].inn=0)(v:Vc):zw (jt w w.U[i] v):=by
 unfold jt
 cases h:j7 w w.U[i] (xx v) 5 0 with
 |none=>exact hm
 |some r=>
  obtain⟨k,p⟩:=r
  dsimp only
  obtain⟨h1,_,_⟩:=K8 5 0 h
  rw[Fg (u:={w.U[i]with pos:=p}) hm.1.2.1 hi rfl]
  have:=eh hm hi h1
  have e:({w.U[i]with pos:=p,inn:=0}:Unt)={w.U[i]with pos:=p}:=by rw[<-h0]
  rw[e]at this
  exact this
theorem Oi(hm:zw w)(hi:i<w.U.length):xh w w.U[i]:=(hm.1.2.2 _ (Fab hi)).1
theorem pk(h:xh w u)(hs:s=2\/s=3\/s=4):xh w (ko s u):=by
 obtain⟨⟨a1,a2,a3⟩,_,_,_⟩:=h
 refine⟨⟨a1,a2,a3⟩,⟨.inl rfl,.inl rfl,by show(0:Int)<=0/\(0:Int)<8;omega⟩,⟨by show 0<=s/\s<=4;omega,?_⟩,λ_=>⟨rfl,rfl⟩⟩
 show s=1↔(-1:Int)≠-1
 omega
theorem K5(h:xh w u)(hg:u.goal≠-1){nx st:Int}(hn:wc w.G nx)(hs:0<=st/\st<8):xh w {u with next:=nx,stuck:=st}:=by
 obtain⟨⟨a1,a2,a3⟩,⟨b1,b2,b3⟩,c,d⟩:=h
 exact⟨⟨a1,a2,a3⟩,⟨b1,hn,hs⟩,c,λe=>absurd e hg⟩
theorem Re(hm:zw w)(hi:i<w.U.length)(h0:w.U[i].inn=0)(hs:s=2\/s=3\/s=4)(hu:mvG 0 u=mvG 0 w.U[i])(hup:xh w u):zw (yb w (ko s u)):=
 Ma hm hi h0 (by rw[<-hu];rfl) (pk hup hs)
theorem ef(hm:zw w)(hi:i<w.U.length)(h0:w.U[i].inn=0)(hu:mvG 0 u=mvG 0 w.U[i])(hup:xh w u)(hg:u.goal≠-1):zw (wt w u):=by
 have hid:u.id=w.U[i].id:=(Ha hu).1
 have hin:u.inn=w.U[i].inn:=(Ha hu).2.2.2.2
 unfold wt
 split
 ·have hp:xh w {u with stuck:=0}:=K5 hup hg hup.2.1.2.1 (by omega)
  have hm2:zw (yb w {u with stuck:=0}):=Ma hm hi h0 (by rw[<-hu];rfl) hp
  obtain⟨h2,e⟩:=Lv (u:={u with stuck:=0}) hm.1.2.1 hi hid
  have:=ee hm2 h2 (by rw[e];exact hin.trans h0) (Gm u.pos (y9 w.G u.next.toNat) (jj u.kind))
  rw[e]at this
  exact this
 ·split
  ·exact Re hm hi h0 (.inr (.inr rfl)) hu hup
  ·rename_i h8
   have:=hup.2.1.2.2
   exact Ma hm hi h0 (by rw[<-hu];rfl) (K5 hup hg (.inl rfl) (by omega))
theorem dh(hm:zw w)(hi:i<w.U.length)(h0:w.U[i].inn=0):(0<=w.U[i].pos.1/\w.U[i].pos.1<w.G.W*65536)/\(0<=w.U[i].pos.2/\w.U[i].pos.2<w.G.H*65536):=by
 have:=Mu hm.1.1.2.1.1 (hm.2.1 _ (Fab hi) h0).1
 have:=this.1
 have:=this.2
 omega
theorem Ps(hm:zw w)(hi:i<w.U.length)(h0:w.U[i].inn=0):j8 w.G w.U[i].pos<w.G.T.length:=(Wb hm.1.1.2.1.1 (dh hm hi h0)).2.1
theorem Ow{g:Gnd}(hg:zp g){t:Nat}(h:t<g.T.length):wc g (t:Int):=.inr (by have:=hg.2.2.1;omega)
theorem ol(g:Gnd)(ok:Nat->Bool)(c:Int)(d:Nat->Int)(t:Nat):qq g ok c d t=-1\/∃way:Nat,way<8/\qq g ok c d t=way/\0<qa g ok c t way:=by
 unfold qq
 split
 ·exact .inl rfl
 ·cases h:(List.range 8).find? λway=>decide (0<qa g ok c t way/\0<=d (zz g t way).toNat/\qa g ok c t way+d (zz g t way).toNat=d t)with
  |none=>exact .inl rfl
  |some way=>
   have h1:=Fcw h
   have h2:=Fd0 h
   exact .inr ⟨way,by simpa using h1,rfl,(of_decide_eq_true h2).1⟩
theorem Py(hg:zp w.G){own:Nat}(ho:own<w.G.T.length):wc w.G (wg w u own):=by
 unfold wg
 split
 ·exact Ow hg ho
 ·dsimp only
  rcases ol w.G (okU w u) (yx u.kind) (jm w.G (okU w u) (yx u.kind) u.goal.toNat) own with h|⟨way,h1,h2,_⟩
  ·rw[h,if_pos (by decide)];exact .inl rfl
  ·rw[h2,if_neg (by omega)]
   rcases Nm hg (t:=own) (way:=way) h1 with h3|⟨x,h3,h4⟩
   ·rw[Fba,h3];exact .inl rfl
   ·rw[Fba,h3];exact Ow hg h4
theorem zsd(hm:zw w)(hi:i<w.U.length)(h0:w.U[i].inn=0)(hg:w.U[i].goal≠-1):zw (Ad w w.U[i]):=by
 have hu:=Oi hm hi
 unfold Ad
 split
 ·exact Re hm hi h0 (.inl rfl) rfl hu
 ·split
  ·split
   ·exact Re hm hi h0 (.inr (.inl rfl)) rfl hu
   ·exact ef hm hi h0 (u:={w.U[i]with next:=wg w w.U[i] (j8 w.G w.U[i].pos)}) rfl (K5 hu hg (Py hm.1.1.2.1.1 (Ps hm hi h0)) hu.2.1.2.2) hg
  ·exact ef hm hi h0 rfl hu hg
theorem zr6(hm:zw w)(hi:i<w.U.length)(h0:w.U[i].inn=0):zw (ki w w.U[i]):=by
 unfold ki
 split
 ·exact ee hm hi h0 _
 ·exact zsd hm hi h0 ‹_›
end
section
variable {a b m L c:Int}
theorem Ih(ha:0<=a)(h:a<=b):a*a<=b*b:=Fbn h h ha (by omega)
theorem zmh{p q:Int}(hp:0<=p)(h:p<q):p*p<q*q:=
 Int.lt_of_le_of_lt (Fdw (Int.le_of_lt h) hp) (Int.mul_lt_mul_of_pos_right h (by omega))
theorem Hb(a b c d:Int):a*b*(c*d)=a*c*(b*d):=by ac_rfl
theorem zww{x y s:Int}(hx:0<=x)(hy:0<=y)(hm:0<=m)(hmL:m<L)(hs:x*x+y*y<(L+1)*(L+1))(ha:a=x*m/L)(hb:b=y*m/L):a*a+b*b<(m+1)*(m+1):=by
 have hL:0<L:=by omega
 have a1:a*L<=x*m:=by rw[ha];exact Int.ediv_mul_le _ (by omega)
 have b1:b*L<=y*m:=by rw[hb];exact Int.ediv_mul_le _ (by omega)
 have a0:0<=a:=by rw[ha];exact Fc0 (Fa2 hx hm) (by omega)
 have b0:0<=b:=by rw[hb];exact Fc0 (Fa2 hy hm) (by omega)
 have a2:=Ih (Fa2 a0 (by omega:(0:Int)<=L)) a1
 have b2:=Ih (Fa2 b0 (by omega:(0:Int)<=L)) b1
 have e1:(a*a+b*b)*(L*L)=a*L*(a*L)+b*L*(b*L):=by
  rw[Feb,Hb a a L L,Hb b b L L]
 have e2:x*m*(x*m)+y*m*(y*m)=(x*x+y*y)*(m*m):=by
  rw[Feb,Hb x x m m,Hb y y m m]
 have h1:(a*a+b*b)*(L*L)<=(x*x+y*y)*(m*m):=by rw[e1,<-e2];exact Int.add_le_add a2 b2
 refine Int.not_le.1 λhle=>?_
 have h2:(m+1)*(m+1)*(L*L)<=(x*x+y*y)*(m*m):=Int.le_trans (Int.mul_le_mul_of_nonneg_right hle (Fa2 (by omega) (by omega))) h1
 have h3:(x*x+y*y)*(m*m)<=((L+1)*(L+1))*(m*m):=Int.mul_le_mul_of_nonneg_right (by omega) (Fa2 hm hm)
 have e3:(m+1)*(m+1)*(L*L)=((m+1)*L)*((m+1)*L):=Hb ..
 have e4:((L+1)*(L+1))*(m*m)=((L+1)*m)*((L+1)*m):=Hb ..
 have h4:((L+1)*m)*((L+1)*m)<((m+1)*L)*((m+1)*L):=by
  have k1:(L+1)*m<(m+1)*L:=by
   rw[Feb,Feb,Fcv L m];omega
  have k0:0<=(L+1)*m:=Fa2 (by omega) hm
  exact zmh k0 k1
 omega
def j9(v:Vc):Prop:=(-1125899906842624<=v.1/\v.1<=1125899906842624)/\(-1125899906842624<=v.2/\v.2<=1125899906842624)
theorem Fa{v:Vc}(h:j9 v):sqr v=v.1*v.1+v.2*v.2/\xx v=v/\0<=sqr v/\sqr v<(xp (sqr v)+1)*(xp (sqr v)+1):=by
 obtain⟨h1,h2⟩:=h
 have e:sqr v=v.1*v.1+v.2*v.2:=by unfold sqr;rw[Nn (by omega),Nn (by omega)]
 have p1:0<=v.1*v.1:=by rcases Int.le_total 0 v.1 with h|h;exact Fa2 h h;rw[<-Fdh];exact Fa2 (by omega) (by omega)
 have p2:0<=v.2*v.2:=by rcases Int.le_total 0 v.2 with h|h;exact Fa2 h h;rw[<-Fdh];exact Fa2 (by omega) (by omega)
 have b:∀x:Int,-1125899906842624<=x/\x<=1125899906842624->x*x<=1125899906842624*1125899906842624:=λx hx=>by
  rcases Int.le_total 0 x with h|h
  ·exact Ih h hx.2
  ·rw[<-Fdh];exact Ih (by omega) (by omega)
 have b1:=b _ h1
 have b2:=b _ h2
 have h0:0<=sqr v:=by omega
 refine⟨e,?_,h0,?_⟩
 ·unfold xx;rw[xj (by omega),xj (by omega)]
 ·obtain⟨r0,r1,r2,r3⟩:=G4 h0
  rcases r3 with r3|r3
  ·rw[r3]at r2;omega
  ·exact r3
theorem H4(x:Int):x*x=(x.natAbs:Int)*x.natAbs:=by rw[<-Int.natCast_mul,Int.natAbs_mul_self]
theorem Sj(hm:0<=m)(hL:0<L):((Cs c m L).natAbs:Int)=(c.natAbs:Int)*m/L:=by
 have q:∀z:Int,0<=z->0<=z*m/L:=λz hz=>Fc0 (Fa2 hz hm) (by omega)
 unfold Cs
 split
 ·have:=q (-c) (by omega)
  rw[show(c.natAbs:Int)=-c by omega];omega
 ·have:=q c (by omega)
  rw[show(c.natAbs:Int)=c by omega];omega
theorem M9(hm:0<=m)(hmL:m<L):(Cs c m L).natAbs<=c.natAbs:=by
 have h1:=Sj (c:=c) hm (show 0<L by omega)
 have h2:(c.natAbs:Int)*m/L<=c.natAbs:=by
  have:(c.natAbs:Int)*m<=c.natAbs*L:=Fdw (by omega) (by omega)
  exact Int.le_trans (Int.ediv_le_ediv (by omega) this) (by rw[Int.mul_ediv_cancel _ (by omega)];exact Fcl _)
 omega
theorem lm{v:Vc}(hs:j9 v)(hm:0<=m):j9 (qz v m)/\(qz v m).1*(qz v m).1+(qz v m).2*(qz v m).2<(m+1)*(m+1):=by
 obtain⟨e,en,h0,h1⟩:=Fa hs
 have hmx:max m 0=m:=by omega
 have n1:nrm v.1=v.1:=congrArg Prod.fst en
 have n2:nrm v.2=v.2:=congrArg Prod.snd en
 have r0:=(G4 h0).1
 unfold qz
 rw[hmx]
 split
 ·rename_i hle
  rw[en]
  refine⟨hs,?_⟩
  have:=Ih (show 0<=xp (sqr v)+1 by omega) (show xp (sqr v)+1<=m+1 by omega)
  omega
 ·rename_i hgt
  rw[n1,n2]
  have hmL:m<xp (sqr v):=by omega
  have c1:=M9 (c:=v.1) hm hmL
  have c2:=M9 (c:=v.2) hm hmL
  refine⟨?_,?_⟩
  ·unfold j9 at hs⊢
   dsimp only
   omega
  ·dsimp only
   rw[H4 (Cs v.1 _ _),H4 (Cs v.2 _ _)]
   refine zww (s:=0) (x:=v.1.natAbs) (y:=v.2.natAbs) (by omega) (by omega) hm hmL ?_ (Sj hm (by omega)) (Sj hm (by omega))
   rw[<-H4,<-H4]
   omega
theorem fx(x:Int)(k:Nat):(x.tdiv (2^k:Nat)).natAbs<=x.natAbs:=by
 rw[Int.natAbs_tdiv]
 exact Nat.div_le_self _ _
def qg(p:Vc):Prop:=(0<=p.1/\p.1<=8388608)/\(0<=p.2/\p.2<=8388608)
theorem Kl(ha:-2251799813685248<=a/\a<=2251799813685248)(hb:-2251799813685248<=b/\b<=2251799813685248):yq a b=a+b:=by
 unfold yq jg
 rw[xj (by omega),xj (by omega),if_neg (by omega),if_neg (by omega)]
theorem N8{p q:Vc}(hp:qg p)(hq:qg q):qf q p=(q.1-p.1,q.2-p.2)/\j9 (qf q p):=by
 obtain⟨p1,p2⟩:=hp
 obtain⟨q1,q2⟩:=hq
 have e:=Vo (a:=q) (b:=p) (by omega) (by omega) (by omega) (by omega)
 refine⟨e,?_⟩
 rw[e]
 unfold j9
 dsimp only
 omega
theorem Po{p q:Vc}(hp:qg p)(hq:qg q){r:Int}(hr:0<r):-16777216<=(ka p r q).1/\(ka p r q).1<=16777216/\-16777216<=(ka p r q).2/\(ka p r q).2<=16777216:=by
 obtain⟨e,hs⟩:=N8 hq hp
 unfold ka
 split
 ·rename_i hn
  generalize hm:r-xp (sqr (qf p q))=m
  have hv:∀w:Vc,j9 w->(w.1.natAbs<=16777216/\w.2.natAbs<=16777216)->-16777216<=(qz w m).1/\(qz w m).1<=16777216/\-16777216<=(qz w m).2/\(qz w m).2<=16777216:=by
   intro w hw hb
   obtain⟨_,en,_,_⟩:=Fa hw
   have n1:nrm w.1=w.1:=congrArg Prod.fst en
   have n2:nrm w.2=w.2:=congrArg Prod.snd en
   unfold qz
   split
   ·rw[en];omega
   ·rename_i hgt
    rw[n1,n2]
    have c1:=M9 (c:=w.1) (m:=max m 0) (L:=xp (sqr w)) (by omega) (by omega)
    have c2:=M9 (c:=w.2) (m:=max m 0) (L:=xp (sqr w)) (by omega) (by omega)
    dsimp only
    omega
  obtain⟨p1,p2⟩:=hp
  obtain⟨q1,q2⟩:=hq
  split
  ·exact hv _ (by unfold j9;decide) (by decide)
  ·refine hv _ hs ?_
   rw[e]
   dsimp only
   omega
 ·decide
theorem ztn{w:Wld}{u:Unt}(hu:qg u.pos)(h:∀x∈w.U,x.inn=0->qg x.pos)(hl:w.U.length<=4096):j9 (Dl w u):=by
 have key:∀(l:List Unt) (v:Vc) (B:Nat),(∀x∈l,x.inn=0->qg x.pos)->B+l.length<=4096->(v.1.natAbs<=B*16777216/\v.2.natAbs<=B*16777216)->
   j9 (l.foldl (λv x=>if x.inn=0/\x.id≠u.id then q9 v (ka u.pos (zq u.kind+zq x.kind+16384) x.pos)else v) v):=by
  intro l
  induction l with
  |nil=>
   intro v B _ hB hv
   unfold j9
   simp only[List.length_nil]at hB
   simp only[List.foldl_nil]
   omega
  |cons x l ih=>
   intro v B hx hB hv
   simp only[Fbc]at hB
   rw[Fce]
   refine ih _ (B+1) (λy hy=>hx y (Faz _ hy)) (by omega) ?_
   split
   ·rename_i hc
    have r1:=Ff u.kind
    have r2:=Ff x.kind
    have:=Po hu (hx x Fbd hc.1) (r:=zq u.kind+zq x.kind+16384) (by omega)
    generalize ka u.pos (zq u.kind+zq x.kind+16384) x.pos=z at*
    have e:q9 v z=(v.1+z.1,v.2+z.2):=by
     unfold q9
     rw[Kl (by omega) (by omega),Kl (by omega) (by omega)]
    rw[e]
    dsimp only
    omega
   ·exact⟨Fdc hv.1 (Fa3 _ (Fdn B)),Fdc hv.2 (Fa3 _ (Fdn B))⟩
 unfold Dl
 refine key w.U (0,0) 0 h (by omega) ⟨?_,?_⟩
 ·show(0:Int).natAbs<=_;simp
 ·show(0:Int).natAbs<=_;simp
end
section
variable {w:Wld} {i:Nat} {u:Unt}
theorem ci(w:Wld){a b:Unt}(h:a.id=b.id):yb (yb w a) b=yb w b:=by
 unfold yb
 simp only[List.map_map]
 congr 1
 refine Fbt λx _=>?_
 simp only[Function.comp]
 by_cases e:x.id=a.id
 ·rw[if_pos e,if_pos h,if_pos (e.trans h)]
 ·rw[if_neg e]
theorem zqj(hr:yh w.U)(hi:i<w.U.length):yb w w.U[i]=w:=by
 rw[Fg hr hi rfl]
 congr 1
 exact List.set_getElem_self hi
theorem zpt(hr:yh w.U)(hi:i<w.U.length)(hid:u.id=w.U[i].id):yh (yb w u).U:=by
 refine bq (Lu w u) (λj hj=>?_) hr
 by_cases e:j=i
 ·subst e
  obtain⟨_,h⟩:=Lv hr hi hid
  rw[h];exact hid
 ·rw[cj hr hi hid hj e]
def Gh(u u':Unt):Prop:=u'.id=u.id/\u'.kind=u.kind/\(u'.pos=u.pos\/∃(v:Vc) (m:Int) (k:Nat),j9 v/\0<=m/\m<=jj u.kind/\u'.pos=q9 u.pos (vw (xx (qz v m)) k))
theorem Li(k:Int):8192<=jj k/\jj k<=24576:=by unfold jj;split<;>(try split)<;>(try split)<;>omega
theorem V6(hr:yh w.U)(hi:i<w.U.length){v:Vc}{m:Int}(hs:j9 v)(hm:0<=m)(hm2:m<=jj w.U[i].kind):∃u',jt w w.U[i] (qz v m)=yb w u'/\Gh w.U[i] u':=by
 unfold jt
 cases h:j7 w w.U[i] (xx (qz v m)) 5 0 with
 |none=>exact⟨w.U[i],(zqj hr hi).symm,rfl,rfl,.inl rfl⟩
 |some r=>
  obtain⟨k,p⟩:=r
  obtain⟨_,_,h3⟩:=K8 5 0 h
  exact⟨_,rfl,rfl,rfl,.inr ⟨v,m,k,hs,hm,hm2,h3⟩⟩
theorem I3(hm:zw w)(hu:u∈w.U)(h0:u.inn=0):qg u.pos:=by
 have:=Mu hm.1.1.2.1.1 (hm.2.1 u hu h0).1
 unfold qg
 omega
theorem ls{g:Gnd}(hg:zp g){t:Nat}(ht:t<g.T.length):qg (y9 g t):=by
 obtain⟨⟨h1,h2⟩,⟨h3,h4⟩,h5,_⟩:=hg
 have a:=Int.emod_nonneg (t:Int) (show g.W≠0 by omega)
 have b:=Int.emod_lt_of_pos (t:Int) (show 0<g.W by omega)
 have c:0<=(t:Int)/g.W:=Fc0 (by omega) (by omega)
 have d:(t:Int)/g.W<g.H:=Int.ediv_lt_of_lt_mul (by omega) (by rw[Fcv];omega)
 unfold qg y9 tx ty
 dsimp only
 omega
theorem Wl(hm:zw w)(hi:i<w.U.length)(h0:w.U[i].inn=0)(hu:mvG 0 u=mvG 0 w.U[i])(ht:u.next.toNat<w.G.T.length):∃u',wt w u=yb w u'/\Gh w.U[i] u':=by
 obtain⟨f1,f2,f3,f4,f5⟩:=Ha hu
 have hmp:=I3 hm (Fab hi) h0
 have same:∀u':Unt,u'.id=u.id->u'.kind=u.kind->u'.pos=u.pos->∃u2,yb w u'=yb w u2/\Gh w.U[i] u2:=λu' a b c=>⟨u',rfl,a.trans f1,b.trans f3,.inl (c.trans f4)⟩
 unfold wt
 split
 ·obtain⟨h2,e⟩:=Lv (u:={u with stuck:=0}) hm.1.2.1 hi f1
  have hr2:=zpt (u:={u with stuck:=0}) hm.1.2.1 hi f1
  have hs:=(N8 (p:=u.pos) (q:=y9 w.G u.next.toNat) (by rw[f4];exact hmp) (ls hm.1.1.2.1.1 ht)).2
  have hsp:=Li u.kind
  obtain⟨u2,e2,k1,k2,k3⟩:=V6 hr2 h2 (v:=qf (y9 w.G u.next.toNat) u.pos) (m:=jj u.kind) hs (by omega) (by rw[e];exact Fcl _)
  rw[e]at e2 k1 k2 k3
  refine⟨u2,?_,k1.trans f1,k2.trans f3,?_⟩
  ·unfold Gm
   rw[e2]
   exact ci w k1.symm
  ·rw[<-f4,<-f3];exact k3
 ·split
  ·exact same _ rfl rfl rfl
  ·exact same _ rfl rfl rfl
theorem zre(hg:zp w.G){own:Nat}(ho:own<w.G.T.length)(h:¬wg w u own<0):(wg w u own).toNat<w.G.T.length:=by
 have:=Py hg (u:=u) ho
 have:=hg.2.2.1
 unfold wc at*
 omega
theorem zuj(hm:zw w)(hi:i<w.U.length)(h0:w.U[i].inn=0)(hg:w.U[i].goal≠-1):∃u',Ad w w.U[i]=yb w u'/\Gh w.U[i] u':=by
 have hu:=Oi hm hi
 have hgn:=hm.1.1.2.1.1
 unfold Ad
 split
 ·exact⟨_,rfl,rfl,rfl,.inl rfl⟩
 ·split
  ·split
   ·exact⟨_,rfl,rfl,rfl,.inl rfl⟩
   ·rename_i hn
    exact Wl hm hi h0 (u:={w.U[i]with next:=wg w w.U[i] (j8 w.G w.U[i].pos)}) rfl (zre hgn (Ps hm hi h0) hn)
  ·rename_i hl
   refine Wl hm hi h0 rfl ?_
   have hne:w.U[i].next≠-1:=λe=>hl (by unfold Fo;simp[e])
   have:=hu.2.1.2.1
   have:=hgn.2.2.1
   unfold wc at*
   omega
theorem po(hm:zw w)(hi:i<w.U.length)(h0:w.U[i].inn=0):∃u',ki w w.U[i]=yb w u'/\Gh w.U[i] u':=by
 unfold ki
 split
 ·have hsp:=Li w.U[i].kind
  have e:(jj w.U[i].kind).tdiv 4=jj w.U[i].kind/4:=Fa7 (by omega)
  unfold Bt
  rw[e]
  exact V6 hm.1.2.1 hi (ztn (I3 hm (Fab hi) h0) (λx hx h=>I3 hm hx h) hm.1.1.2.1.2.2) (by omega) (by omega)
 ·exact zuj hm hi h0 ‹_›
end
structure MayF(w:Wld):Prop where
 hg:zp w.G
 hB:w.B.length<=256
 hU:w.U.length<=4096
 hT:w.G.T.length<=16384
 hb:∀b∈w.B,yv b/\onP w.G b
 hk:∀u∈w.U,Fq u.kind
 hr:yh w.U
 hn1:1<=w.next
 hn2:w.next<=1099511627776
theorem Cj{w:Wld}(h:zw w):MayF w:=by
 obtain⟨⟨hh,hok⟩,_⟩:=h
 have hbl:=hh.2.1.2.1
 have ha:=qm hh.2.1.1
 exact⟨hh.2.1.1,hbl.1,hh.2.1.2.2,by omega,λb hb=>⟨(hbl.2.2.1 b hb).1,(hbl.2.2.1 b hb).2.1⟩,λu hu=>(hok.2 u hu).1.1.2.2,hok.1,hh.1.2.2.1,hh.1.2.2.2⟩
theorem MayF.fits{w:Wld}(h:MayF w):w.fits:=⟨by unfold Gnd.fits;have:=h.hT;omega,by have:=h.hB;omega,by have:=h.hU;omega⟩
theorem ff(k:Int):0<=jk k/\jk k<=3:=by unfold jk;split<;>decide
structure Scr24 where
 W:Wld
 I:List Int
 V:List Vc
def Scr24.good(s:Scr24):Prop:=(∀u∈s.W.U,u.pos.ok)/\(∀n∈s.I,ya n)/\∀v∈s.V,v.ok
theorem o6(a b:Vc):(q9 a b).ok:=by
 have h1:=Ng (nrm a.1+nrm b.1)
 have h2:=Ng (nrm a.2+nrm b.2)
 exact⟨⟨by show _<=jg _;omega,by show jg _<=_;omega⟩,⟨by show _<=jg _;omega,by show jg _<=_;omega⟩⟩
def playW(w:Wld):Prop:=zw w/\∀u∈w.U,u.pos.ok
theorem playW.sizes{w:Wld}(h:playW w):w.G.T.length<=1000000/\w.B.length<=1000000/\w.U.length<=1000000:=by
 have f:=Cj h.1
 have:=f.hB
 have:=f.hU
 have:=f.hT
 omega
theorem ny{u u':Unt}(h:Gh u u')(hu:u.pos.ok):u'.pos.ok:=by
 rcases h.2.2 with e|⟨v,m,k,_,_,_,e⟩
 ·rw[e];exact hu
 ·rw[e];exact o6 _ _
theorem zqg{w:Wld}{u:Unt}(hw:∀x∈w.U,x.pos.ok)(hu:u.pos.ok):∀x∈(yb w u).U,x.pos.ok:=by
 intro x hx
 unfold yb at hx
 obtain⟨y,hy,rfl⟩:=Fad.1 hx
 split
 ·exact hu
 ·exact hw y hy
section
variable {w:Wld} {i:Nat}
open Classical in
noncomputable def goN(w:Wld):Nat->Wld
 |0=>w
 |i+1=>if h:i<(goN w i).U.length then(if(goN w i).U[i].inn=0 then ki (goN w i) (goN w i).U[i]else goN w i)else goN w i
noncomputable def xe(w:Wld):Wld:=goN w w.U.length
theorem zqp(h:playW w)(hi:i<w.U.length)(h0:w.U[i].inn=0):playW (ki w w.U[i])/\(ki w w.U[i]).U.length=w.U.length/\(ki w w.U[i]).G=w.G/\(ki w w.U[i]).B=w.B:=by
 obtain⟨u',h1,h2⟩:=po h.1 hi h0
 refine⟨⟨zr6 h.1 hi h0,?_⟩,?_,?_,?_⟩
 ·rw[h1]
  exact zqg h.2 (ny h2 (h.2 _ (Fab hi)))
 ·rw[h1,Lu]
 ·rw[h1];rfl
 ·rw[h1];rfl
theorem Ms(h:playW w):∀i,playW (goN w i)/\(goN w i).U.length=w.U.length/\(goN w i).G=w.G/\(goN w i).B=w.B
 |0=>⟨h,rfl,rfl,rfl⟩
 |i+1=>by
  obtain⟨h1,h2,h3,h4⟩:=Ms h i
  unfold goN
  by_cases hi:i<(goN w i).U.length
  ·rw[dif_pos hi]
   by_cases h0:(goN w i).U[i].inn=0
   ·rw[if_pos h0]
    obtain⟨q1,q2,q3,q4⟩:=zqp h1 hi h0
    exact⟨q1,q2.trans h2,q3.trans h3,q4.trans h4⟩
   ·rw[if_neg h0]
    exact⟨h1,h2,h3,h4⟩
  ·rw[dif_neg hi]
   exact⟨h1,h2,h3,h4⟩
theorem zum(hi:i<(goN w i).U.length)(h0:(goN w i).U[i].inn=0):goN w (i+1)=ki (goN w i) (goN w i).U[i]:=by
 rw[goN,dif_pos hi,if_pos h0]
theorem zul(hi:i<(goN w i).U.length)(h0:(goN w i).U[i].inn≠0):goN w (i+1)=goN w i:=by
 rw[goN,dif_pos hi,if_neg h0]
theorem zzf(h:playW w):playW (xe w)/\(xe w).U.length=w.U.length:=⟨(Ms h _).1,(Ms h _).2.1⟩
end
section
variable {x:Unt} {w:Wld}
theorem Kd{U:List Unt}{v:Unt}(h:v∈U++[x]):v∈U\/v=x:=by
 rcases Fai.1 h with h|h
 ·exact .inl h
 ·exact .inr (Fb3.1 h)
theorem zpu{U:List Unt}(hr:yh U)(hx:∀u∈U,u.id<x.id):yh (U++[x]):=by
 intro j hj h0
 have hj2:j<U.length+1:=by rw[Faj]at hj;exact hj
 by_cases e:j<U.length
 ·rw[Fbl (by omega),Fbl e]
  exact hr j e h0
 ·have ej:j=U.length:=by omega
  subst ej
  rw[Fbl (by omega),Fda (Fak _)]
  simp only[Nat.sub_self,Fdi]
  exact hx _ (Fab (by omega))
theorem zr9{c:Cmd}(hm:zw w)(hc:Ct c)(hp:c.P<=w.players)(hk:c.K=1)(h:spE w c=0):zw (spW w c):=by
 have hn:¬Ke w:=λhf=>by unfold spE at h;rw[if_pos hf]at h;cases h
 have hcl:qv w 0 c.N (c.X,c.Y):=Classical.byContradiction λhh=>by unfold spE at h;rw[if_neg hn,if_neg hh]at h;cases h
 unfold Ke at hn
 have hn1:w.U.length<4096:=by omega
 have hn2:w.next<1099511627776:=by omega
 obtain⟨⟨hh,hr,hu⟩,hcc,hd⟩:=hm
 have hg:=hh.2.1.1
 have hN:=((Cmd.ok1 hk).1 hc.1).1
 have hl:(w.U++[spU w c]).length=w.U.length+1:=by rw[Faj];rfl
 have hnx:=hh.1.2.2.1
 have upu:∀v,xh w v->xh (spW w c) v:=λv hv=>⟨⟨⟨hv.1.1.1,by show v.id<w.next+1;have:=hv.1.1.2;omega⟩,hv.1.2⟩,hv.2⟩
 have hin:∀id,id≠0->z7 (w.U++[spU w c]) id=z7 w.U id:=λid hid=>by
  unfold z7
  rw[List.filter_append]
  have:[spU w c].filter (λu=>u.inn==id)=[]:=by
   rw[Fck]
   have e:((spU w c).inn==id)=false:=by show((0:Int)==id)=false;simpa using λe=>hid e.symm
   rw[e]
   rfl
  rw[this,Fcf]
 refine⟨⟨⟨⟨hh.1.1,hh.1.2.1,by show 1<=w.next+1/\w.next+1<=_;omega⟩,⟨hg,hh.2.1.2.1,by show(w.U++[spU w c]).length<=_;omega⟩,λb hb=>⟨(hh.2.2 b hb).1,by show b.id<w.next+1;have:=(hh.2.2 b hb).2;omega⟩⟩,?_,λv hv=>?_⟩,λv hv h0=>?_,λv hv h0=>?_⟩
 ·exact zpu hr λu hu2=>(hu u hu2).1.1.1.2
 ·rcases Kd hv with hv|rfl
  ·exact⟨upu v (hu v hv).1,(hu v hv).2⟩
  ·refine⟨⟨⟨⟨hnx,by show w.next<w.next+1;omega⟩,⟨hc.2.1.1,hp⟩,hN⟩,⟨.inl rfl,.inl rfl,by show(0:Int)<=0/\(0:Int)<8;decide⟩,⟨by show(0:Int)<=0/\(0:Int)<=4;decide,⟨λe=>absurd (show(0:Int)=1 from e) (by decide),λe=>absurd rfl e⟩⟩,λ_=>⟨rfl,rfl⟩⟩,λb hb=>?_⟩
   have:=(hh.2.2 b hb).2
   show b.id≠w.next
   omega
 ·rcases Kd hv with hv|rfl
  ·have hv0:=hcc v hv h0
   refine⟨hv0.1,λx hx hx0 hxi=>?_⟩
   rcases Kd hx with hx|rfl
   ·exact hv0.2 x hx hx0 hxi
   ·have:=hcl.2 v hv h0 (by have:=(hu v hv).1.1.1.1;omega)
    rw[mr hg hcl.1 hv0.1]at this
    exact this
  ·refine⟨hcl.1,λx hx hx0 hxi=>?_⟩
   rcases Kd hx with hx|rfl
   ·exact hcl.2 x hx hx0 (by have:=(hu x hx).1.1.1.1;omega)
   ·exact absurd rfl hxi
 ·rcases Kd hv with hv|rfl
  ·obtain⟨x,hx,g1,g2,g3,g4⟩:=hd v hv h0
   exact⟨x,List.mem_append_left _ hx,g1,g2,by show((z7 (w.U++[spU w c]) _).length:Int)<=_;rw[hin _ h0];exact g3,g4⟩
  ·exact absurd rfl h0
theorem gg{g:Gnd}{l l':List Bld}{c:Int}{p:Vc}{r:Int}(hf:wj g l c p r)(h:∀t,t<g.T.length->ye g l' c t=false->ye g l c t=false\/¬ve g t p r):wj g l' c p r:=
 ⟨hf.1,λt ht ho hh=>by
  rcases h t ht ho with e|e
  ·exact hf.2 t ht e hh
  ·exact e hh⟩
theorem ek(hm:zw w){B:List Bld}{next:Int}(hnx:w.next<=next/\next<=1099511627776)(hb:Gb w.G B)(hb2:∀b∈B,b.owner<=w.players/\b.id<next)(hb3:∀b∈B,∀u∈w.U,b.id≠u.id)
  (hf:∀u∈w.U,u.inn=0->wj w.G B (yx u.kind) u.pos (zq u.kind)):zw {w with B:=B,next:=next}:=by
 obtain⟨⟨hh,hr,hu⟩,hcc,hd⟩:=hm
 have hn1:=hh.1.2.2.1
 refine⟨⟨⟨⟨hh.1.1,hh.1.2.1,by show 1<=next/\next<=_;omega⟩,⟨hh.2.1.1,hb,hh.2.1.2.2⟩,hb2⟩,hr,λv hv=>⟨?_,λb hb=>hb3 b hb v hv⟩⟩,λv hv h0=>⟨hf v hv h0,(hcc v hv h0).2⟩,hd⟩
 have hv0:=(hu v hv).1
 exact⟨⟨⟨hv0.1.1.1,by show v.id<next;have:=hv0.1.1.2;omega⟩,hv0.1.2⟩,hv0.2⟩
theorem zsg{c:Cmd}(hm:zw w)(hc:Ct c)(hp:c.P<=w.players)(hk:c.K=4)(h:bdE w c=0):zw (bdW w c):=by
 unfold bdE at h
 have c1:0<=c.T/\c.T<w.G.W*w.G.H:=Classical.byContradiction λhh=>by rw[if_pos hh]at h;cases h
 rw[if_neg (not_not_intro c1)]at h
 have c2:¬1099511627776<=w.next:=λhh=>by rw[if_pos hh]at h;cases h
 rw[if_neg c2]at h
 have c3:Lx w.G w.B (bdB w c)=0:=Classical.byContradiction λhh=>by rw[if_neg hh]at h;exact hh h
 rw[if_pos c3]at h
 have c4:¬d0 w (bdB w c):=λhh=>by rw[if_pos hh]at h;cases h
 unfold Lx at c3
 have d1:onP w.G (bdB w c):=Classical.byContradiction λhh=>by rw[if_pos hh]at c3;cases c3
 rw[if_neg (not_not_intro d1)]at c3
 have d2:¬∃x∈w.B,At x (bdB w c):=λhh=>by rw[if_pos hh]at c3;cases c3
 rw[if_neg d2]at c3
 have d3:Cr w.G (bdB w c):=Classical.byContradiction λhh=>by rw[if_pos hh]at c3;cases c3
 rw[if_neg (not_not_intro d3)]at c3
 have d4:¬256<=w.B.length:=λhh=>by rw[if_pos hh]at c3;cases c3
 have hsz:=((Cmd.ok4 hk).1 hc.1).2
 have hh:=hm.1.1
 have hnx:=hh.1.2.2.1
 have hbl:=hh.2.1.2.1
 have ha:=qm hh.2.1.1
 have mem:∀b∈w.B++[bdB w c],b∈w.B\/b=bdB w c:=λb hb=>by
  rcases Fai.1 hb with h|h
  ·exact .inl h
  ·exact .inr (Fb3.1 h)
 have hl:(w.B++[bdB w c]).length=w.B.length+1:=by rw[Faj];rfl
 refine ek hm (B:=w.B++[bdB w c]) (next:=w.next+1) ⟨by omega,by omega⟩ ⟨by omega,?_,λb hb=>?_,?_⟩ (λb hb=>?_) (λb hb u hu=>?_) (λu hu h0=>?_)
 ·intro j hj h0
  have hj2:j<w.B.length+1:=by rw[<-hl];exact hj
  by_cases e:j<w.B.length
  ·rw[Fbl (by omega),Fbl e]
   exact hbl.2.1 j e h0
  ·have ej:j=w.B.length:=by omega
   subst ej
   rw[Fbl (by omega),Fda (Fak _)]
   simp only[Nat.sub_self,Fdi]
   exact(hh.2.2 _ (Fab (by omega))).2
 ·rcases mem b hb with hb|rfl
  ·exact hbl.2.2.1 b hb
  ·exact⟨⟨⟨hnx,by show w.next<=_;omega⟩,⟨hc.2.1.1,hc.2.1.2⟩,hsz⟩,d1,d3⟩
 ·intro j hj i hij
  have hj2:j<w.B.length+1:=by rw[<-hl];exact hj
  by_cases e:j<w.B.length
  ·rw[Fbl e,Fbl (by omega)]
   exact hbl.2.2.2 j e i hij
  ·have ej:j=w.B.length:=by omega
   subst ej
   rw[Fda (Fak _),Fbl (by omega)]
   simp only[Nat.sub_self,Fdi]
   intro hmt
   exact d2 ⟨_,Fab (show i<w.B.length by omega),by unfold At at hmt⊢;omega⟩
 ·rcases mem b hb with hb|rfl
  ·have:=hh.2.2 b hb;exact⟨this.1,by omega⟩
  ·exact⟨hp,by show w.next<w.next+1;omega⟩
 ·rcases mem b hb with hb|rfl
  ·exact(hm.1.2.2 u hu).2 b hb
  ·have:=(hm.1.2.2 u hu).1.1.1.2
   show w.next≠u.id
   omega
 ·refine gg (hm.2.1 u hu h0).1 (λt ht ho=>?_)
  by_cases hb:wi w.G (bdB w c) t
  ·exact .inr λhit=>c4 ⟨t,⟨by omega,hb⟩,u,hu,h0,hit⟩
  ·refine .inl ?_
   unfold ye at ho⊢
   have e:qe w.G (w.B++[bdB w c]) t=qe w.G w.B t:=by
    unfold qe
    rw[List.any_append]
    simp[hb]
   rw[e]at ho
   exact ho
theorem zse{c:Cmd}(hm:zw w):zw (drW w c):=by
 unfold drW
 cases hf:Hq w.B c.N with
 |none=>exact hm
 |some i=>
  have hh:=hm.1.1
  have hbl:=hh.2.1.2.1
  have hil:i<w.B.length:=by
   unfold Hq at hf
   rw[Fbq]at hf
   exact hf.1
  have hlen:(w.B.eraseIdx i).length=w.B.length-1:=List.length_eraseIdx_of_lt hil
  have sub:∀b∈w.B.eraseIdx i,b∈w.B:=λb hb=>List.mem_of_mem_eraseIdx hb
  have get:∀j,(hj:j<(w.B.eraseIdx i).length)->(w.B.eraseIdx i)[j]=if h:j<i then w.B[j]'(by omega)else w.B[j+1]'(by omega):=λj hj=>List.getElem_eraseIdx ..
  have up:∀a b,(ha:a<b)->(hb:b<w.B.length)->(w.B[a]'(by omega)).id<w.B[b].id:=λa b hab=>by
   induction b with
   |zero=>omega
   |succ b ih=>
    intro hb
    have h1:=hbl.2.1 (b+1) hb (by omega)
    simp only[Fdd]at h1
    by_cases e:a=b
    ·subst e;exact h1
    ·have:=ih (by omega) (by omega);omega
  have hnx:=hh.1.2.2
  refine ek hm (B:=w.B.eraseIdx i) (next:=w.next) ⟨by omega,by omega⟩ ⟨by have:=hbl.1;omega,?_,λb hb=>hbl.2.2.1 b (sub b hb),?_⟩ (λb hb=>hh.2.2 b (sub b hb)) (λb hb u hu=>(hm.1.2.2 u hu).2 b (sub b hb)) (λu hu h0=>?_)
  ·intro j hj h0
   rw[get _ (by omega),get _ hj]
   split
   ·split
    ·exact up _ _ (by omega) _
    ·exact up _ _ (by omega) _
   ·rw[dif_neg (by omega)]
    exact up _ _ (by omega) _
  ·intro j hj k hkj
   rw[get _ hj,get _ (by omega)]
   split
   ·rw[dif_pos (by omega)]
    exact hbl.2.2.2 _ _ _ (by omega)
   ·split
    ·exact hbl.2.2.2 _ _ _ (by omega)
    ·exact hbl.2.2.2 _ _ _ (by omega)
  ·refine gg (hm.2.1 u hu h0).1 (λt ht ho=>.inl ?_)
   unfold ye at ho⊢
   cases hc:qe w.G w.B t with
   |true=>rfl
   |false=>
    have:qe w.G (w.B.eraseIdx i) t=false:=by
     unfold qe at hc⊢
     rw[Fc7]at hc⊢
     exact λb hb=>hc b (sub b hb)
    rw[this]at ho
    exact ho
end
section
variable {w:Wld} {j:Nat}
theorem mj(hr:yh w.U){P id:Int}(h:jr w P id=0)(hj:j<w.U.length)(hid:w.U[j].id=id):w.U[j].owner=P/\w.U[j].inn=0:=by
 obtain⟨i,hi,hf,e,_,e2,e3⟩:=S0 h
 have:=gu hr hj hid
 rw[hf]at this
 have:=Option.some.inj this
 subst this
 exact⟨e2,e3⟩
theorem Ik{l:List Int}{g:Unt->Unt}{U:List Unt}(hj:j<U.length):(qw l g U)[j]'(by rw[Gv];exact hj)=if U[j].id∈l then g U[j]else U[j]:=W6 hj
theorem zr7{c:Cmd}(hm:zw w)(h:stE w c=0):zw (stW w c):=by
 have hz:=Nv (show Ca (jr w c.P) c.U=0 from h)
 have hr:=hm.1.2.1
 refine Rc hm (U:=qw c.U Pc w.U) (Gv _ _ _) (λj hj=>?_) (λj hj h0=>?_) (λj hj=>?_)
 ·rw[Ik hj]
  split<;>rfl
 ·rw[Ik hj]
  split
  ·rename_i e
   exact absurd (mj hr (hz _ e) hj rfl).2 h0
  ·rfl
 ·rw[Ik hj]
  have hu:=(hm.1.2.2 _ (Fab hj)).1
  split
  ·exact⟨hu.1,⟨.inl rfl,.inl rfl,by show(0:Int)<=0/\(0:Int)<8;decide⟩,⟨by show(0:Int)<=0/\(0:Int)<=4;decide,⟨λe=>absurd (show(0:Int)=1 from e) (by decide),λe=>absurd rfl e⟩⟩,λ_=>⟨rfl,rfl⟩⟩
  ·exact hu
theorem zru{c:Cmd}(hg:zp w.G)(ht:0<=c.T/\c.T<w.G.W*w.G.H)(k:Nat)(kd:Int):0<=Aq w c k kd/\Aq w c k kd<w.G.W*w.G.H:=by
 have ha:=qm hg
 by_cases h:k<(Db w kd c.T c.U.length).length
 ·rw[zrt h]
  have:=(Wy (Fab h)).1
  omega
 ·rw[zrv h];exact ht
theorem du{c:Cmd}(hm:zw w)(ht:0<=c.T/\c.T<w.G.W*w.G.H)(hz:∀a∈c.U,jr w c.P a=0):∀k,k<=c.U.length->∀j,(hj:j<w.U.length)->(w.U[j].inn≠0->(mvL w c k)[j]'(by rw[Ch];exact hj)=w.U[j])/\xh w ((mvL w c k)[j]'(by rw[Ch];exact hj))
 |0,_,j,hj=>⟨λ_=>rfl,(hm.1.2.2 _ (Fab hj)).1⟩
 |k+1,hk,j,hj=>by
  have ih:=du hm ht hz k (by omega) j hj
  have hlt:k<c.U.length:=by omega
  have hr:=hm.1.2.1
  obtain⟨i,hi,hf,hid,_,how,hin⟩:=S0 (hz c.U[k] (Fab hlt))
  have hgo:=zru hm.1.1.2.1.1 ht k w.U[i].kind
  have key:∀L:List Unt,(hL:j<L.length)->L=mvL w c (k+1)->(w.U[j].inn≠0->L[j]=w.U[j])/\xh w L[j]:=λL hL e=>by
   rw[zrr hlt hf hi]at e
   subst e
   rw[Fci]
   split
   ·rename_i e3
    subst e3
    have hu:=(hm.1.2.2 _ (Fab hi)).1
    refine⟨λh0=>absurd hin h0,hu.1,⟨.inr hgo,.inl rfl,by show(0:Int)<=0/\(0:Int)<8;decide⟩,⟨by show(0:Int)<=1/\(1:Int)<=4;decide,⟨λ_=>?_,λ_=>rfl⟩⟩,λe=>?_⟩
    ·show Aq w c k w.U[i].kind≠-1
     omega
    ·have e:Aq w c k w.U[i].kind=-1:=e
     omega
   ·exact ih
  exact key _ (by rw[Ch];exact hj) rfl
theorem zsa{c:Cmd}(hm:zw w)(h:mvE w c=0):zw (mvW w c):=by
 have ht:0<=c.T/\c.T<w.G.W*w.G.H:=Classical.byContradiction λhh=>by rw[zrx hh]at h;cases h
 rw[zrw ht]at h
 have hz:=Nv h
 have key:=du hm ht hz c.U.length (Fak _)
 exact Rc hm (U:=mvL w c c.U.length) (Ch _ _ _) (λj hj=>P6 w c _ j hj) (λj hj=>(key j hj).1) (λj hj=>(key j hj).2)
theorem ztj{U:List Unt}(hr:yh U):(U.map (·.id)).Nodup:=by
 rw[List.Nodup,Fcc]
 intro a b ha hb hab
 rw[Fa5]at ha hb
 rw[Fcj,Fcj]
 have:=Bj hr hab hb
 omega
theorem zw3{U:List Unt}(hr:yh U)(l:List Int):(U.filter λu=>decide (u.id∈l)).length<=l.length:=by
 have h1:((U.filter λu=>decide (u.id∈l)).map (·.id)).Nodup:=(ztj hr).sublist ((List.filter_sublist).map _)
 have:=Fbm (l₂:=l) h1 (λid hid=>by
  obtain⟨u,hu,rfl⟩:=Fad.1 hid
  exact of_decide_eq_true (Fbo.1 hu).2)
 rw[Fa5]at this
 exact this
theorem fj(l:List Int)(n:Int)(M:Int):∀U:List Unt,(z7 (qw l (ldU n) U) M).length<=(z7 U M).length+(if M=n then(U.filter λu=>decide (u.id∈l)).length else 0)
 |[]=>by simp[z7,qw]
 |a::U=>by
  have ih:=fj l n M U
  unfold z7 qw at ih⊢
  simp only[Fa5]at ih⊢
  rw[Fb0,Fck,Fck,Fck]
  by_cases e:a.id∈l
  ·simp only[if_pos e,decide_eq_true e,if_true,Fbc]
   by_cases eM:M=n
   ·simp only[if_pos eM]at ih⊢
    have:((ldU n a).inn==M)=true:=by show(n==M)=true;simpa using eM.symm
    simp only[this,if_true,Fbc]
    split<;>(try simp only[Fbc])<;>omega
   ·simp only[if_neg eM]at ih⊢
    have:((ldU n a).inn==M)=false:=by show(n==M)=false;simpa using λe=>eM e.symm
    simp only[this,Fag,if_false]
    split<;>(try simp only[Fbc])<;>omega
  ·simp only[if_neg e,decide_eq_false e,Fag,if_false]
   split
   ·simp only[Fbc];omega
   ·exact ih
theorem zsb{c:Cmd}(hm:zw w)(hN:1<=c.N)(h:ldE w c=0):zw (ldW w c):=by
 unfold ldE at h
 have c1:F9 w c.P c.N=0:=Classical.byContradiction λhh=>by rw[if_neg hh]at h;exact hh h
 rw[if_pos c1]at h
 have c2:Ca (ldA w c.P c.N) c.U=0:=Classical.byContradiction λhh=>by rw[if_neg hh]at h;exact hh h
 rw[if_pos c2]at h
 have c3:¬xn (uAt w c.N).kind<((z7 w.U c.N).length:Int)+(c.U.length:Int):=λhh=>by rw[if_pos hh]at h;cases h
 obtain⟨hask,hroom⟩:=zxy c1
 obtain⟨ix,hix,hfx,hidx,hux,hox,hinx⟩:=S0 hask
 rw[hux]at hroom c3
 have hz:=Nv c2
 obtain⟨⟨hh,hr,hu⟩,hcc,hd⟩:=hm
 -- who is loaded is on the field,of the same player,and carries nobody
 have ld:∀j,(hj:j<w.U.length)->w.U[j].id∈c.U->w.U[j].owner=c.P/\w.U[j].inn=0/\xn w.U[j].kind=0:=λj hj hid=>by
  obtain⟨a1,a2⟩:=zsr (hz _ hid)
  obtain⟨b1,b2⟩:=mj hr a1 hj rfl
  refine⟨b1,b2,?_⟩
  have e:uAt w w.U[j].id=w.U[j]:=(V4 (gu hr hj rfl)).2.2
  rw[e]at a2
  unfold P9 at a2
  have:¬0<xn w.U[j].kind:=λhh=>by rw[if_pos hh]at a2;cases a2
  have:=Rn w.U[j].kind
  omega
 have hxl:w.U[ix].id∉c.U:=λe=>hroom (ld ix hix e).2.2
 have hl:(qw c.U (ldU c.N) w.U).length=w.U.length:=Gv _ _ _
 have back:∀v∈qw c.U (ldU c.N) w.U,∃j,∃hj:j<w.U.length,(w.U[j].id∈c.U/\v=ldU c.N w.U[j])\/(w.U[j].id∉c.U/\v=w.U[j]):=λv hv=>by
  obtain⟨j,hj,rfl⟩:=Fan hv
  rw[hl]at hj
  refine⟨j,hj,?_⟩
  rw[Ik hj]
  split
  ·rename_i e;exact .inl ⟨e,rfl⟩
  ·rename_i e;exact .inr ⟨e,rfl⟩
 have stay:∀j,(hj:j<w.U.length)->w.U[j].id∉c.U->w.U[j]∈qw c.U (ldU c.N) w.U:=λj hj e=>by
  have:(qw c.U (ldU c.N) w.U)[j]'(by rw[hl];exact hj)=w.U[j]:=by rw[Ik hj,if_neg e]
  rw[<-this]
  exact Fab _
 have cnt:=λM=>fj c.U c.N M w.U
 have cin:=zw3 hr c.U
 have cN:((z7 (qw c.U (ldU c.N) w.U) c.N).length:Int)<=xn w.U[ix].kind:=by
  have:=cnt c.N
  rw[if_pos rfl]at this
  omega
 refine⟨⟨⟨hh.1,⟨hh.2.1.1,hh.2.1.2.1,by show(qw c.U (ldU c.N) w.U).length<=_;rw[hl];exact hh.2.1.2.2⟩,hh.2.2⟩,zmz (g:=ldU c.N) (λ_=>rfl) hr,λv hv=>?_⟩,λv hv h0=>?_,λv hv h0=>?_⟩
 ·obtain⟨j,hj,⟨e,rfl⟩|⟨e,rfl⟩⟩:=back v hv
  ·have hu0:=hu _ (Fab hj)
   exact⟨⟨hu0.1.1,⟨.inl rfl,.inl rfl,by show(0:Int)<=0/\(0:Int)<8;decide⟩,⟨by show(0:Int)<=0/\(0:Int)<=4;decide,⟨λe=>absurd (show(0:Int)=1 from e) (by decide),λe=>absurd rfl e⟩⟩,λ_=>⟨rfl,rfl⟩⟩,hu0.2⟩
  ·exact hu _ (Fab hj)
 ·obtain⟨j,hj,⟨e,rfl⟩|⟨e,rfl⟩⟩:=back v hv
  ·have h0:c.N=0:=h0
   omega
  ·refine Sn (w:=w) rfl rfl (λx hx hx0 hxi=>?_) (hcc _ (Fab hj) h0)
   obtain⟨k,hk,⟨e2,rfl⟩|⟨e2,rfl⟩⟩:=back x hx
   ·have hx0:c.N=0:=hx0
    omega
   ·exact⟨_,Fab hk,hx0,hxi,rfl,rfl⟩
 ·obtain⟨j,hj,⟨e,rfl⟩|⟨e,rfl⟩⟩:=back v hv
  ·obtain⟨l1,l2,l3⟩:=ld j hj e
   refine⟨w.U[ix],stay ix hix hxl,hidx,⟨hinx,?_⟩,cN,l3,rfl,rfl,rfl⟩
   show w.U[ix].owner=w.U[j].owner
   rw[hox,l1]
  ·obtain⟨x,hx,g1,g2,g3,g4⟩:=hd _ (Fab hj) h0
   obtain⟨k,hk,rfl⟩:=Fan hx
   have hne:0<(z7 w.U w.U[j].inn).length:=List.length_pos_iff.2 (List.ne_nil_of_mem (ztd (Fab hj)))
   have hkl:w.U[k].id∉c.U:=λe2=>by have:=(ld k hk e2).2.2;omega
   refine⟨w.U[k],stay k hk hkl,g1,g2,?_,g4⟩
   show((z7 (qw c.U (ldU c.N) w.U) w.U[j].inn).length:Int)<=_
   by_cases eN:w.U[j].inn=c.N
   ·rw[eN]at g1⊢
    have hki:w.U[k]=w.U[ix]:=Fe hr (Fab hk) (Fab hix) (by rw[g1,hidx])
    rw[hki]
    exact cN
   ·have:=cnt w.U[j].inn
    rw[if_neg eN]at this
    omega
theorem zsf{c:Cmd}(h:doE aE w c=0):zw (aW w c):=by
 obtain⟨hm,hc,hp,he⟩:=iq h
 rcases ey hc with k|k|k|k|k|k|k
 ·rw[(a1 k).1]at he
  rw[(a1 k).2]
  exact zr9 hm hc hp k he
 ·rw[(a2 k).1]at he
  rw[(a2 k).2]
  exact zsa hm he
 ·rw[(a3 k).1]at he
  rw[(a3 k).2]
  exact zr7 hm he
 ·rw[(a4 k).1]at he
  rw[(a4 k).2]
  exact zsg hm hc hp k he
 ·rw[(a5 k).2]
  exact zse hm
 ·rw[(a6 k).1]at he
  rw[(a6 k).2]
  exact zsb hm ((Cmd.ok6 k).1 hc.1).2.1 he
 ·rw[(a7 k).2]
  unfold ulW
  cases hu:unl c.T (z7 w.U c.N) w with
  |none=>exact hm
  |some x=>exact ed _ _ _ hm hu
end
section
variable {w:Wld}
theorem cq(h:playW w)(c:Cmd):playW (doW aE aW w c):=by
 by_cases he:doE aE w c=0
 ·rw[zwb he]
  exact⟨zsf he,zzu h.2 he⟩
 ·rw[zwc he]
  exact h
noncomputable def xc(w:Wld):List Cmd->Wld
 |[]=>w
 |c::l=>xc (doW aE aW w c) l
noncomputable def kr(w:Wld):List Cmd->List Int
 |[]=>[]
 |c::l=>doE aE w c::kr (doW aE aW w c) l
theorem lc:∀(l:List Cmd) (w:Wld) (m:List Cmd),xc w (l++m)=xc (xc w l) m/\kr w (l++m)=kr w l++kr (xc w l) m
 |[],_,_=>⟨rfl,rfl⟩
 |c::l,w,m=>by
  obtain⟨h1,h2⟩:=lc l (doW aE aW w c) m
  exact⟨h1,by show _::kr _ (l++m)=_;rw[h2];rfl⟩
theorem lg:∀(l:List Cmd) (w:Wld),(kr w l).length=l.length
 |[],_=>rfl
 |c::l,w=>by show(kr _ l).length+1=_;rw[lg l];rfl
theorem zxd{l:List Cmd}{i:Nat}(hi:i<l.length):xc w (l.take (i+1))=doW aE aW (xc w (l.take i)) l[i]/\kr w (l.take (i+1))=kr w (l.take i)++[doE aE (xc w (l.take i)) l[i]]:=by
 rw[Fac hi]
 obtain⟨h1,h2⟩:=lc (l.take i) w [l[i]]
 exact⟨h1,h2⟩
theorem Pq:∀(l:List Cmd) {w:Wld},playW w->playW (xc w l)
 |[],_,h=>h
 |c::l,w,h=>Pq l (cq h c)
theorem zzt(c:Cmd)(hr:yh w.U):(aW w c).tick=w.tick:=by
 unfold aW
 repeat' split
 ·rfl
 ·rfl
 ·rfl
 ·rfl
 ·exact(zv8 w c).1
 ·rfl
 ·exact(V3 hr).1
theorem zwa(c:Cmd)(hr:yh w.U):(doW aE aW w c).tick=w.tick:=by
 unfold doW
 split
 ·exact zzt c hr
 ·rfl
theorem lf:∀(l:List Cmd) {w:Wld},playW w->(xc w l).tick=w.tick
 |[],_,_=>rfl
 |c::l,w,h=>(lf l (cq h c)).trans (zwa c h.1.1.2.1)
theorem V8(w:Wld)(u:Unt)(v:Vc):(jt w u v).tick=w.tick:=by
 unfold jt
 split<;>rfl
theorem Wn(w:Wld)(u:Unt):(wt w u).tick=w.tick:=by
 unfold wt
 split
 ·exact V8 _ _ _
 ·split<;>rfl
theorem pp(w:Wld)(u:Unt):(ki w u).tick=w.tick:=by
 unfold ki
 split
 ·exact V8 _ _ _
 ·unfold Ad
  split
  ·rfl
  ·split
   ·split
    ·rfl
    ·exact Wn _ _
   ·exact Wn _ _
theorem Hh(w:Wld):∀i,(goN w i).tick=w.tick
 |0=>rfl
 |i+1=>by
  unfold goN
  split
  ·split
   ·exact(pp _ _).trans (Hh w i)
   ·exact Hh w i
  ·exact Hh w i
noncomputable def Gp(w:Wld):Wld:={xe w with tick:=(xe w).tick+1}
theorem rp(w:Wld):(Gp w).tick=w.tick+1:=by
 show(goN w _).tick+1=_
 rw[Hh]
theorem zqq(h:playW w)(ht:w.tick<1099511627776):playW (Gp w):=by
 obtain⟨⟨⟨⟨hh,hu⟩,hc,hd⟩,hn⟩,_⟩:=zzf h
 have e:(xe w).tick=w.tick:=Hh w _
 have h1:=hh.1.1
 exact⟨⟨⟨⟨⟨⟨by show 0<=(xe w).tick+1;omega,by show(xe w).tick+1<=_;omega⟩,hh.1.2⟩,hh.2⟩,hu⟩,hc,hd⟩,hn⟩
noncomputable def F4(w:Wld)(l:List Cmd):Wld:=Gp (xc w l)
end
structure Ask25 where
 S:Scr
 room:Int
 n:Int
def Dx(a:Ask25):List AV:=O9 a.S++[int a.room,int a.n]
end Go.V
