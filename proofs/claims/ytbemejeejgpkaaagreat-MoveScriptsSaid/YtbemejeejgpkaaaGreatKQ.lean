/- Ground of laws of thronglaw24: contracts and plain lemmas; no condition beyond the row's own. -/
import Derived.Test.YtbemejeejgpkaaaGreatKF
set_option linter.unusedSimpArgs false
set_option linter.unusedVariables false
namespace Go.V
section
variable {x:Unt} {w:Wld}
theorem Nm{U:List Unt}{v:Unt}(h:v∈U++[x]):v∈U\/v=x:=by
 rcases Fan.1 h with h|h
 ·exact .inl h
 ·exact .inr (Fb1.1 h)
theorem zt7{U:List Unt}(hr:yq U)(hx:∀u∈U,u.id<x.id):yq (U++[x]):=by
 intro j hj h0
 have hj2:j<U.length+1:=by rw[Fad]at hj;exact hj
 by_cases e:j<U.length
 ·rw[Fby (by omega),Fby e]
  exact hr j e h0
 ·have ej:j=U.length:=by omega
  subst ej
  rw[Fby (by omega),Fd1 (Faj _)]
  simp only[Nat.sub_self,Fcq]
  exact hx _ (Faa (by omega))
theorem zyb{c:Cmd}(hm:z6 w)(hc:j8 c)(hp:c.P<=w.players)(hk:c.K=1)(h:spE w c=0):z6 (spW w c):=by
 have hn:¬Hj w:=λhf=>by unfold spE at h;rw[if_pos hf]at h;cases h
 have hcl:qa w 0 c.N (c.X,c.Y):=Classical.byContradiction λhh=>by unfold spE at h;rw[if_neg hn,if_neg hh]at h;cases h
 unfold Hj at hn
 have hn1:w.U.length<4096:=by omega
 have hn2:w.next<1099511627776:=by omega
 obtain⟨⟨hh,hr,hu⟩,hcc,hd⟩:=hm
 have hg:=hh.2.1.1
 have hN:=((Cmd.ok1 hk).1 hc.1).1
 have hl:(w.U++[spU w c]).length=w.U.length+1:=by rw[Fad];rfl
 have hnx:=hh.1.2.2.1
 have upu:∀v,jq w v->jq (spW w c) v:=λv hv=>⟨⟨⟨hv.1.1.1,by show v.id<w.next+1;have:=hv.1.1.2;omega⟩,hv.1.2⟩,hv.2⟩
 have hin:∀id,id≠0->z8 (w.U++[spU w c]) id=z8 w.U id:=λid hid=>by
  unfold z8
  rw[Fdn]
  have:[spU w c].filter (λu=>u.inn==id)=[]:=by
   rw[Fcy]
   have e:((spU w c).inn==id)=false:=by show((0:Int)==id)=false;simpa using λe=>hid e.symm
   rw[e]
   rfl
  rw[this,Fbv]
 refine⟨⟨⟨⟨hh.1.1,hh.1.2.1,by show 1<=w.next+1/\w.next+1<=_;omega⟩,⟨hg,hh.2.1.2.1,by show(w.U++[spU w c]).length<=_;omega⟩,λb hb=>⟨(hh.2.2 b hb).1,by show b.id<w.next+1;have:=(hh.2.2 b hb).2;omega⟩⟩,?_,λv hv=>?_⟩,λv hv h0=>?_,λv hv h0=>?_⟩
 ·exact zt7 hr λu hu2=>(hu u hu2).1.1.1.2
 ·rcases Nm hv with hv|rfl
  ·exact⟨upu v (hu v hv).1,(hu v hv).2⟩
  ·refine⟨⟨⟨⟨hnx,by show w.next<w.next+1;omega⟩,⟨hc.2.1.1,hp⟩,hN⟩,⟨.inl rfl,.inl rfl,by show(0:Int)<=0/\(0:Int)<8;decide⟩,⟨by show(0:Int)<=0/\(0:Int)<=4;decide,⟨λe=>absurd (show(0:Int)=1 from e) (by decide),λe=>absurd rfl e⟩⟩,λ_=>⟨rfl,rfl⟩⟩,λb hb=>?_⟩
   have:=(hh.2.2 b hb).2
   show b.id≠w.next
   omega
 ·rcases Nm hv with hv|rfl
  ·have hv0:=hcc v hv h0
   refine⟨hv0.1,λx hx hx0 hxi=>?_⟩
   rcases Nm hx with hx|rfl
   ·exact hv0.2 x hx hx0 hxi
   ·have:=hcl.2 v hv h0 (by have:=(hu v hv).1.1.1.1;omega)
    rw[zbq hg hcl.1 hv0.1]at this
    exact this
  ·refine⟨hcl.1,λx hx hx0 hxi=>?_⟩
   rcases Nm hx with hx|rfl
   ·exact hcl.2 x hx hx0 (by have:=(hu x hx).1.1.1.1;omega)
   ·exact absurd rfl hxi
 ·rcases Nm hv with hv|rfl
  ·obtain⟨x,hx,g1,g2,g3,g4⟩:=hd v hv h0
   exact⟨x,Fdy _ hx,g1,g2,by show((z8 (w.U++[spU w c]) _).length:Int)<=_;rw[hin _ h0];exact g3,g4⟩
  ·exact absurd rfl h0
theorem tp{g:Gnd}{l l':List Bld}{c:Int}{p:Vc}{r:Int}(hf:Az g l c p r)(h:∀t,t<g.T.length->yi g l' c t=false->yi g l c t=false\/¬jh g t p r):Az g l' c p r:=
 ⟨hf.1,λt ht ho hh=>by
  rcases h t ht ho with e|e
  ·exact hf.2 t ht e hh
  ·exact e hh⟩
theorem rn(hm:z6 w){B:List Bld}{next:Int}(hnx:w.next<=next/\next<=1099511627776)(hb:Gq w.G B)(hb2:∀b∈B,b.owner<=w.players/\b.id<next)(hb3:∀b∈B,∀u∈w.U,b.id≠u.id)
  (hf:∀u∈w.U,u.inn=0->Az w.G B (yf u.kind) u.pos (zv u.kind)):z6 {w with B:=B,next:=next}:=by
 obtain⟨⟨hh,hr,hu⟩,hcc,hd⟩:=hm
 have hn1:=hh.1.2.2.1
 refine⟨⟨⟨⟨hh.1.1,hh.1.2.1,by show 1<=next/\next<=_;omega⟩,⟨hh.2.1.1,hb,hh.2.1.2.2⟩,hb2⟩,hr,λv hv=>⟨?_,λb hb=>hb3 b hb v hv⟩⟩,λv hv h0=>⟨hf v hv h0,(hcc v hv h0).2⟩,hd⟩
 have hv0:=(hu v hv).1
 exact⟨⟨⟨hv0.1.1.1,by show v.id<next;have:=hv0.1.1.2;omega⟩,hv0.1.2⟩,hv0.2⟩
theorem zyi{c:Cmd}(hm:z6 w)(hc:j8 c)(hp:c.P<=w.players)(hk:c.K=4)(h:bdE w c=0):z6 (bdW w c):=by
 unfold bdE at h
 have c1:0<=c.T/\c.T<w.G.W*w.G.H:=Classical.byContradiction λhh=>by rw[if_pos hh]at h;cases h
 rw[if_neg (not_not_intro c1)]at h
 have c2:¬1099511627776<=w.next:=λhh=>by rw[if_pos hh]at h;cases h
 rw[if_neg c2]at h
 have c3:kl w.G w.B (bdB w c)=0:=Classical.byContradiction λhh=>by rw[if_neg hh]at h;exact hh h
 rw[if_pos c3]at h
 have c4:¬M5 w (bdB w c):=λhh=>by rw[if_pos hh]at h;cases h
 unfold kl at c3
 have d1:onP w.G (bdB w c):=Classical.byContradiction λhh=>by rw[if_pos hh]at c3;cases c3
 rw[if_neg (not_not_intro d1)]at c3
 have d2:¬∃x∈w.B,Ah x (bdB w c):=λhh=>by rw[if_pos hh]at c3;cases c3
 rw[if_neg d2]at c3
 have d3:C8 w.G (bdB w c):=Classical.byContradiction λhh=>by rw[if_pos hh]at c3;cases c3
 rw[if_neg (not_not_intro d3)]at c3
 have d4:¬256<=w.B.length:=λhh=>by rw[if_pos hh]at c3;cases c3
 have hsz:=((Cmd.ok4 hk).1 hc.1).2
 have hh:=hm.1.1
 have hnx:=hh.1.2.2.1
 have hbl:=hh.2.1.2.1
 have ha:=qe hh.2.1.1
 have mem:∀b∈w.B++[bdB w c],b∈w.B\/b=bdB w c:=λb hb=>by
  rcases Fan.1 hb with h|h
  ·exact .inl h
  ·exact .inr (Fb1.1 h)
 have hl:(w.B++[bdB w c]).length=w.B.length+1:=by rw[Fad];rfl
 refine rn hm (B:=w.B++[bdB w c]) (next:=w.next+1) ⟨by omega,by omega⟩ ⟨by omega,?_,λb hb=>?_,?_⟩ (λb hb=>?_) (λb hb u hu=>?_) (λu hu h0=>?_)
 ·intro j hj h0
  have hj2:j<w.B.length+1:=by rw[<-hl];exact hj
  by_cases e:j<w.B.length
  ·rw[Fby (by omega),Fby e]
   exact hbl.2.1 j e h0
  ·have ej:j=w.B.length:=by omega
   subst ej
   rw[Fby (by omega),Fd1 (Faj _)]
   simp only[Nat.sub_self,Fcq]
   exact(hh.2.2 _ (Faa (by omega))).2
 ·rcases mem b hb with hb|rfl
  ·exact hbl.2.2.1 b hb
  ·exact⟨⟨⟨hnx,by show w.next<=_;omega⟩,⟨hc.2.1.1,hc.2.1.2⟩,hsz⟩,d1,d3⟩
 ·intro j hj i hij
  have hj2:j<w.B.length+1:=by rw[<-hl];exact hj
  by_cases e:j<w.B.length
  ·rw[Fby e,Fby (by omega)]
   exact hbl.2.2.2 j e i hij
  ·have ej:j=w.B.length:=by omega
   subst ej
   rw[Fd1 (Faj _),Fby (by omega)]
   simp only[Nat.sub_self,Fcq]
   intro hmt
   exact d2 ⟨_,Faa (show i<w.B.length by omega),by unfold Ah at hmt⊢;omega⟩
 ·rcases mem b hb with hb|rfl
  ·have:=hh.2.2 b hb;exact⟨this.1,by omega⟩
  ·exact⟨hp,by show w.next<w.next+1;omega⟩
 ·rcases mem b hb with hb|rfl
  ·exact(hm.1.2.2 u hu).2 b hb
  ·have:=(hm.1.2.2 u hu).1.1.1.2
   show w.next≠u.id
   omega
 ·refine tp (hm.2.1 u hu h0).1 (λt ht ho=>?_)
  by_cases hb:jj w.G (bdB w c) t
  ·exact .inr λhit=>c4 ⟨t,⟨by omega,hb⟩,u,hu,h0,hit⟩
  ·refine .inl ?_
   unfold yi at ho⊢
   have e:qh w.G (w.B++[bdB w c]) t=qh w.G w.B t:=by
    unfold qh
    rw[List.any_append]
    simp[hb]
   rw[e]at ho
   exact ho
theorem zyg{c:Cmd}(hm:z6 w):z6 (drW w c):=by
 unfold drW
 cases hf:Ce w.B c.N with
 |none=>exact hm
 |some i=>
  have hh:=hm.1.1
  have hbl:=hh.2.1.2.1
  have hil:i<w.B.length:=by
   unfold Ce at hf
   rw[Fbd]at hf
   exact hf.1
  have hlen:(w.B.eraseIdx i).length=w.B.length-1:=List.length_eraseIdx_of_lt hil
  have sub:∀b∈w.B.eraseIdx i,b∈w.B:=λb hb=>List.mem_of_mem_eraseIdx hb
  have get:∀j,(hj:j<(w.B.eraseIdx i).length)->(w.B.eraseIdx i)[j]=if h:j<i then w.B[j]'(by omega)else w.B[j+1]'(by omega):=λj hj=>List.getElem_eraseIdx ..
  have up:∀a b,(ha:a<b)->(hb:b<w.B.length)->(w.B[a]'(by omega)).id<w.B[b].id:=λa b hab=>by
   induction b with
   |zero=>omega
   |succ b ih=>
    intro hb
    have h1:=hbl.2.1 (b+1) hb (by omega)
    simp only[Fd4]at h1
    by_cases e:a=b
    ·subst e;exact h1
    ·have:=ih (by omega) (by omega);omega
  have hnx:=hh.1.2.2
  refine rn hm (B:=w.B.eraseIdx i) (next:=w.next) ⟨by omega,by omega⟩ ⟨by have:=hbl.1;omega,?_,λb hb=>hbl.2.2.1 b (sub b hb),?_⟩ (λb hb=>hh.2.2 b (sub b hb)) (λb hb u hu=>(hm.1.2.2 u hu).2 b (sub b hb)) (λu hu h0=>?_)
  ·intro j hj h0
   rw[get _ (by omega),get _ hj]
   split
   ·split
    ·exact up _ _ (by omega) _
    ·exact up _ _ (by omega) _
   ·rw[dif_neg (by omega)]
    exact up _ _ (by omega) _
  ·intro j hj k hkj
   rw[get _ hj,get _ (by omega)]
   split
   ·rw[dif_pos (by omega)]
    exact hbl.2.2.2 _ _ _ (by omega)
   ·split
    ·exact hbl.2.2.2 _ _ _ (by omega)
    ·exact hbl.2.2.2 _ _ _ (by omega)
  ·refine tp (hm.2.1 u hu h0).1 (λt ht ho=>.inl ?_)
   unfold yi at ho⊢
   cases hc:qh w.G w.B t with
   |true=>rfl
   |false=>
    have:qh w.G (w.B.eraseIdx i) t=false:=by
     unfold qh at hc⊢
     rw[Fdc]at hc⊢
     exact λb hb=>hc b (sub b hb)
    rw[this]at ho
    exact ho
end
section
variable {w:Wld} {j:Nat}
theorem zbj(hr:yq w.U){P id:Int}(h:xx w P id=0)(hj:j<w.U.length)(hid:w.U[j].id=id):w.U[j].owner=P/\w.U[j].inn=0:=by
 obtain⟨i,hi,hf,e,_,e2,e3⟩:=Ft h
 have:=Lk hr hj hid
 rw[hf]at this
 have:=Option.some.inj this
 subst this
 exact⟨e2,e3⟩
theorem Mg{l:List Int}{g:Unt->Unt}{U:List Unt}(hj:j<U.length):(yy l g U)[j]'(by rw[Ag];exact hj)=if U[j].id∈l then g U[j]else U[j]:=Kt hj
theorem zya{c:Cmd}(hm:z6 w)(h:stE w c=0):z6 (stW w c):=by
 have hz:=I9 (show j9 (xx w c.P) c.U=0 from h)
 have hr:=hm.1.2.1
 refine Wt hm (U:=yy c.U wi w.U) (Ag _ _ _) (λj hj=>?_) (λj hj h0=>?_) (λj hj=>?_)
 ·rw[Mg hj]
  split<;>rfl
 ·rw[Mg hj]
  split
  ·rename_i e
   exact absurd (zbj hr (hz _ e) hj rfl).2 h0
  ·rfl
 ·rw[Mg hj]
  have hu:=(hm.1.2.2 _ (Faa hj)).1
  split
  ·exact⟨hu.1,⟨.inl rfl,.inl rfl,by show(0:Int)<=0/\(0:Int)<8;decide⟩,⟨by show(0:Int)<=0/\(0:Int)<=4;decide,⟨λe=>absurd (show(0:Int)=1 from e) (by decide),λe=>absurd rfl e⟩⟩,λ_=>⟨rfl,rfl⟩⟩
  ·exact hu
theorem zxt{c:Cmd}(hg:zr w.G)(ht:0<=c.T/\c.T<w.G.W*w.G.H)(k:Nat)(kd:Int):0<=Ab w c k kd/\Ab w c k kd<w.G.W*w.G.H:=by
 have ha:=qe hg
 by_cases h:k<(xz w kd c.T c.U.length).length
 ·rw[pu h]
  have:=(Vq (Faa h)).1
  omega
 ·rw[pw h];exact ht
theorem pt{c:Cmd}(hm:z6 w)(ht:0<=c.T/\c.T<w.G.W*w.G.H)(hz:∀a∈c.U,xx w c.P a=0):∀k,k<=c.U.length->∀j,(hj:j<w.U.length)->(w.U[j].inn≠0->(mvL w c k)[j]'(by rw[At];exact hj)=w.U[j])/\jq w ((mvL w c k)[j]'(by rw[At];exact hj))
 |0,_,j,hj=>⟨λ_=>rfl,(hm.1.2.2 _ (Faa hj)).1⟩
 |k+1,hk,j,hj=>by
  have ih:=pt hm ht hz k (by omega) j hj
  have hlt:k<c.U.length:=by omega
  have hr:=hm.1.2.1
  obtain⟨i,hi,hf,hid,_,how,hin⟩:=Ft (hz c.U[k] (Faa hlt))
  have hgo:=zxt hm.1.1.2.1.1 ht k w.U[i].kind
  have key:∀L:List Unt,(hL:j<L.length)->L=mvL w c (k+1)->(w.U[j].inn≠0->L[j]=w.U[j])/\jq w L[j]:=λL hL e=>by
   rw[pr hlt hf hi]at e
   subst e
   rw[Fch]
   split
   ·rename_i e3
    subst e3
    have hu:=(hm.1.2.2 _ (Faa hi)).1
    refine⟨λh0=>absurd hin h0,hu.1,⟨.inr hgo,.inl rfl,by show(0:Int)<=0/\(0:Int)<8;decide⟩,⟨by show(0:Int)<=1/\(1:Int)<=4;decide,⟨λ_=>?_,λ_=>rfl⟩⟩,λe=>?_⟩
    ·show Ab w c k w.U[i].kind≠-1
     omega
    ·have e:Ab w c k w.U[i].kind=-1:=e
     omega
   ·exact ih
  exact key _ (by rw[At];exact hj) rfl
theorem zyc{c:Cmd}(hm:z6 w)(h:mvE w c=0):z6 (mvW w c):=by
 have ht:0<=c.T/\c.T<w.G.W*w.G.H:=Classical.byContradiction λhh=>by rw[pz hh]at h;cases h
 rw[py ht]at h
 have hz:=I9 h
 have key:=pt hm ht hz c.U.length (Faj _)
 exact Wt hm (U:=mvL w c c.U.length) (At _ _ _) (λj hj=>M4 w c _ j hj) (λj hj=>(key j hj).1) (λj hj=>(key j hj).2)
theorem zzs{U:List Unt}(hr:yq U):(U.map (·.id)).Nodup:=by
 rw[List.Nodup,Fct]
 intro a b ha hb hab
 rw[Fa4]at ha hb
 rw[Fcf,Fcf]
 have:=Fb hr hab hb
 omega
theorem ydk{U:List Unt}(hr:yq U)(l:List Int):(U.filter λu=>decide (u.id∈l)).length<=l.length:=by
 have h1:((U.filter λu=>decide (u.id∈l)).map (·.id)).Nodup:=(zzs hr).sublist ((List.filter_sublist).map _)
 have:=Fbz (l₂:=l) h1 (λid hid=>by
  obtain⟨u,hu,rfl⟩:=Fae.1 hid
  exact of_decide_eq_true (Fbt.1 hu).2)
 rw[Fa4]at this
 exact this
theorem sk(l:List Int)(n:Int)(M:Int):∀U:List Unt,(z8 (yy l (ldU n) U) M).length<=(z8 U M).length+(if M=n then(U.filter λu=>decide (u.id∈l)).length else 0)
 |[]=>by simp[z8,yy]
 |a::U=>by
  have ih:=sk l n M U
  unfold z8 yy at ih⊢
  simp only[Fa4]at ih⊢
  rw[Fb9,Fcy,Fcy,Fcy]
  by_cases e:a.id∈l
  ·simp only[if_pos e,decide_eq_true e,if_true,Fba]
   by_cases eM:M=n
   ·simp only[if_pos eM]at ih⊢
    have:((ldU n a).inn==M)=true:=by show(n==M)=true;simpa using eM.symm
    simp only[this,if_true,Fba]
    split<;>(try simp only[Fba])<;>omega
   ·simp only[if_neg eM]at ih⊢
    have:((ldU n a).inn==M)=false:=by show(n==M)=false;simpa using λe=>eM e.symm
    simp only[this,Fah,if_false]
    split<;>(try simp only[Fba])<;>omega
  ·simp only[if_neg e,decide_eq_false e,Fah,if_false]
   split
   ·simp only[Fba];omega
   ·exact ih
theorem zyd{c:Cmd}(hm:z6 w)(hN:1<=c.N)(h:ldE w c=0):z6 (ldW w c):=by
 unfold ldE at h
 have c1:vk w c.P c.N=0:=Classical.byContradiction λhh=>by rw[if_neg hh]at h;exact hh h
 rw[if_pos c1]at h
 have c2:j9 (ldA w c.P c.N) c.U=0:=Classical.byContradiction λhh=>by rw[if_neg hh]at h;exact hh h
 rw[if_pos c2]at h
 have c3:¬jg (uAt w c.N).kind<((z8 w.U c.N).length:Int)+(c.U.length:Int):=λhh=>by rw[if_pos hh]at h;cases h
 obtain⟨hask,hroom⟩:=dk c1
 obtain⟨ix,hix,hfx,hidx,hux,hox,hinx⟩:=Ft hask
 rw[hux]at hroom c3
 have hz:=I9 c2
 obtain⟨⟨hh,hr,hu⟩,hcc,hd⟩:=hm
 -- who is loaded is on the field,of the same player,and carries nobody
 have ld:∀j,(hj:j<w.U.length)->w.U[j].id∈c.U->w.U[j].owner=c.P/\w.U[j].inn=0/\jg w.U[j].kind=0:=λj hj hid=>by
  obtain⟨a1,a2⟩:=rz (hz _ hid)
  obtain⟨b1,b2⟩:=zbj hr a1 hj rfl
  refine⟨b1,b2,?_⟩
  have e:uAt w w.U[j].id=w.U[j]:=(Sw (Lk hr hj rfl)).2.2
  rw[e]at a2
  unfold Au at a2
  have:¬0<jg w.U[j].kind:=λhh=>by rw[if_pos hh]at a2;cases a2
  have:=Na w.U[j].kind
  omega
 have hxl:w.U[ix].id∉c.U:=λe=>hroom (ld ix hix e).2.2
 have hl:(yy c.U (ldU c.N) w.U).length=w.U.length:=Ag _ _ _
 have back:∀v∈yy c.U (ldU c.N) w.U,∃j,∃hj:j<w.U.length,(w.U[j].id∈c.U/\v=ldU c.N w.U[j])\/(w.U[j].id∉c.U/\v=w.U[j]):=λv hv=>by
  obtain⟨j,hj,rfl⟩:=Fak hv
  rw[hl]at hj
  refine⟨j,hj,?_⟩
  rw[Mg hj]
  split
  ·rename_i e;exact .inl ⟨e,rfl⟩
  ·rename_i e;exact .inr ⟨e,rfl⟩
 have stay:∀j,(hj:j<w.U.length)->w.U[j].id∉c.U->w.U[j]∈yy c.U (ldU c.N) w.U:=λj hj e=>by
  have:(yy c.U (ldU c.N) w.U)[j]'(by rw[hl];exact hj)=w.U[j]:=by rw[Mg hj,if_neg e]
  rw[<-this]
  exact Faa _
 have cnt:=λM=>sk c.U c.N M w.U
 have cin:=ydk hr c.U
 have cN:((z8 (yy c.U (ldU c.N) w.U) c.N).length:Int)<=jg w.U[ix].kind:=by
  have:=cnt c.N
  rw[if_pos rfl]at this
  omega
 refine⟨⟨⟨hh.1,⟨hh.2.1.1,hh.2.1.2.1,by show(yy c.U (ldU c.N) w.U).length<=_;rw[hl];exact hh.2.1.2.2⟩,hh.2.2⟩,zos (g:=ldU c.N) (λ_=>rfl) hr,λv hv=>?_⟩,λv hv h0=>?_,λv hv h0=>?_⟩
 ·obtain⟨j,hj,⟨e,rfl⟩|⟨e,rfl⟩⟩:=back v hv
  ·have hu0:=hu _ (Faa hj)
   exact⟨⟨hu0.1.1,⟨.inl rfl,.inl rfl,by show(0:Int)<=0/\(0:Int)<8;decide⟩,⟨by show(0:Int)<=0/\(0:Int)<=4;decide,⟨λe=>absurd (show(0:Int)=1 from e) (by decide),λe=>absurd rfl e⟩⟩,λ_=>⟨rfl,rfl⟩⟩,hu0.2⟩
  ·exact hu _ (Faa hj)
 ·obtain⟨j,hj,⟨e,rfl⟩|⟨e,rfl⟩⟩:=back v hv
  ·have h0:c.N=0:=h0
   omega
  ·refine cz (w:=w) rfl rfl (λx hx hx0 hxi=>?_) (hcc _ (Faa hj) h0)
   obtain⟨k,hk,⟨e2,rfl⟩|⟨e2,rfl⟩⟩:=back x hx
   ·have hx0:c.N=0:=hx0
    omega
   ·exact⟨_,Faa hk,hx0,hxi,rfl,rfl⟩
 ·obtain⟨j,hj,⟨e,rfl⟩|⟨e,rfl⟩⟩:=back v hv
  ·obtain⟨l1,l2,l3⟩:=ld j hj e
   refine⟨w.U[ix],stay ix hix hxl,hidx,⟨hinx,?_⟩,cN,l3,rfl,rfl,rfl⟩
   show w.U[ix].owner=w.U[j].owner
   rw[hox,l1]
  ·obtain⟨x,hx,g1,g2,g3,g4⟩:=hd _ (Faa hj) h0
   obtain⟨k,hk,rfl⟩:=Fak hx
   have hne:0<(z8 w.U w.U[j].inn).length:=List.length_pos_iff.2 (List.ne_nil_of_mem (zzn (Faa hj)))
   have hkl:w.U[k].id∉c.U:=λe2=>by have:=(ld k hk e2).2.2;omega
   refine⟨w.U[k],stay k hk hkl,g1,g2,?_,g4⟩
   show((z8 (yy c.U (ldU c.N) w.U) w.U[j].inn).length:Int)<=_
   by_cases eN:w.U[j].inn=c.N
   ·rw[eN]at g1⊢
    have hki:w.U[k]=w.U[ix]:=G6 hr (Faa hk) (Faa hix) (by rw[g1,hidx])
    rw[hki]
    exact cN
   ·have:=cnt w.U[j].inn
    rw[if_neg eN]at this
    omega
theorem zyh{c:Cmd}(h:doE aE w c=0):z6 (aW w c):=by
 obtain⟨hm,hc,hp,he⟩:=u0 h
 rcases W0 hc with k|k|k|k|k|k|k
 ·rw[(a1 k).1]at he
  rw[(a1 k).2]
  exact zyb hm hc hp k he
 ·rw[(a2 k).1]at he
  rw[(a2 k).2]
  exact zyc hm he
 ·rw[(a3 k).1]at he
  rw[(a3 k).2]
  exact zya hm he
 ·rw[(a4 k).1]at he
  rw[(a4 k).2]
  exact zyi hm hc hp k he
 ·rw[(a5 k).2]
  exact zyg hm
 ·rw[(a6 k).1]at he
  rw[(a6 k).2]
  exact zyd hm ((Cmd.ok6 k).1 hc.1).2.1 he
 ·rw[(a7 k).2]
  unfold ulW
  cases hu:unl c.T (z8 w.U c.N) w with
  |none=>exact hm
  |some x=>exact ri _ _ _ hm hu
end
section
variable {a b m L c:Int}
theorem zn0(hb:0<=b)(h:a*a<b*b):a<b:=by
 refine Int.not_le.1 λhle=>?_
 have:=Fbg hle hle hb (by omega)
 omega
theorem Md(ha:0<=a)(h:a<=b):a*a<=b*b:=Fbg h h ha (by omega)
theorem znz{p q:Int}(hp:0<=p)(h:p<q):p*p<q*q:=
 Int.lt_of_le_of_lt (Fen (Int.le_of_lt h) hp) (Int.mul_lt_mul_of_pos_right h (by omega))
theorem K6(a b c d:Int):a*b*(c*d)=a*c*(b*d):=by ac_rfl
theorem yc9{x y s:Int}(hx:0<=x)(hy:0<=y)(hm:0<=m)(hmL:m<L)(hs:x*x+y*y<(L+1)*(L+1))(ha:a=x*m/L)(hb:b=y*m/L):a*a+b*b<(m+1)*(m+1):=by
 have hL:0<L:=by omega
 have a1:a*L<=x*m:=by rw[ha];exact Int.ediv_mul_le _ (by omega)
 have b1:b*L<=y*m:=by rw[hb];exact Int.ediv_mul_le _ (by omega)
 have a0:0<=a:=by rw[ha];exact Fcb (Fax hx hm) (by omega)
 have b0:0<=b:=by rw[hb];exact Fcb (Fax hy hm) (by omega)
 have a2:=Md (Fax a0 (by omega:(0:Int)<=L)) a1
 have b2:=Md (Fax b0 (by omega:(0:Int)<=L)) b1
 have e1:(a*a+b*b)*(L*L)=a*L*(a*L)+b*L*(b*L):=by
  rw[Ffa,K6 a a L L,K6 b b L L]
 have e2:x*m*(x*m)+y*m*(y*m)=(x*x+y*y)*(m*m):=by
  rw[Ffa,K6 x x m m,K6 y y m m]
 have h1:(a*a+b*b)*(L*L)<=(x*x+y*y)*(m*m):=by rw[e1,<-e2];exact Int.add_le_add a2 b2
 refine Int.not_le.1 λhle=>?_
 have h2:(m+1)*(m+1)*(L*L)<=(x*x+y*y)*(m*m):=Int.le_trans (Int.mul_le_mul_of_nonneg_right hle (Fax (by omega) (by omega))) h1
 have h3:(x*x+y*y)*(m*m)<=((L+1)*(L+1))*(m*m):=Int.mul_le_mul_of_nonneg_right (by omega) (Fax hm hm)
 have e3:(m+1)*(m+1)*(L*L)=((m+1)*L)*((m+1)*L):=K6 ..
 have e4:((L+1)*(L+1))*(m*m)=((L+1)*m)*((L+1)*m):=K6 ..
 have h4:((L+1)*m)*((L+1)*m)<((m+1)*L)*((m+1)*L):=by
  have k1:(L+1)*m<(m+1)*L:=by
   rw[Ffa,Ffa,Fcz L m];omega
  have k0:0<=(L+1)*m:=Fax (by omega) hm
  exact znz k0 k1
 omega
def vd(v:Vc):Prop:=(-1125899906842624<=v.1/\v.1<=1125899906842624)/\(-1125899906842624<=v.2/\v.2<=1125899906842624)
theorem D7{v:Vc}(h:vd v):sqr v=v.1*v.1+v.2*v.2/\qm v=v/\0<=sqr v/\sqr v<(jb (sqr v)+1)*(jb (sqr v)+1):=by
 obtain⟨h1,h2⟩:=h
 have e:sqr v=v.1*v.1+v.2*v.2:=by unfold sqr;rw[R6 (by omega),R6 (by omega)]
 have p1:0<=v.1*v.1:=by rcases Int.le_total 0 v.1 with h|h;exact Fax h h;rw[<-Fd8];exact Fax (by omega) (by omega)
 have p2:0<=v.2*v.2:=by rcases Int.le_total 0 v.2 with h|h;exact Fax h h;rw[<-Fd8];exact Fax (by omega) (by omega)
 have b:∀x:Int,-1125899906842624<=x/\x<=1125899906842624->x*x<=1125899906842624*1125899906842624:=λx hx=>by
  rcases Int.le_total 0 x with h|h
  ·exact Md h hx.2
  ·rw[<-Fd8];exact Md (by omega) (by omega)
 have b1:=b _ h1
 have b2:=b _ h2
 have h0:0<=sqr v:=by omega
 refine⟨e,?_,h0,?_⟩
 ·unfold qm;rw[j3 (by omega),j3 (by omega)]
 ·obtain⟨r0,r1,r2,r3⟩:=F6 h0
  rcases r3 with r3|r3
  ·rw[r3]at r2;omega
  ·exact r3
theorem Hy(x:Int):x*x=(x.natAbs:Int)*x.natAbs:=by rw[<-Int.natCast_mul,Int.natAbs_mul_self]
theorem zto{v:Vc}(hs:vd v)(hm:0<=m)(h:v.1*v.1+v.2*v.2<(m+1)*(m+1)):jb (sqr v)<=m:=by
 obtain⟨e,_,h0,_⟩:=D7 hs
 obtain⟨r0,_,r2,_⟩:=F6 h0
 have:jb (sqr v)<m+1:=zn0 (by omega) (by omega)
 omega
theorem cr(hm:0<=m)(hL:0<L):((Dt c m L).natAbs:Int)=(c.natAbs:Int)*m/L:=by
 have q:∀z:Int,0<=z->0<=z*m/L:=λz hz=>Fcb (Fax hz hm) (by omega)
 unfold Dt
 split
 ·have:=q (-c) (by omega)
  rw[show(c.natAbs:Int)=-c by omega];omega
 ·have:=q c (by omega)
  rw[show(c.natAbs:Int)=c by omega];omega
theorem Ro(hm:0<=m)(hmL:m<L):(Dt c m L).natAbs<=c.natAbs:=by
 have h1:=cr (c:=c) hm (show 0<L by omega)
 have h2:(c.natAbs:Int)*m/L<=c.natAbs:=by
  have:(c.natAbs:Int)*m<=c.natAbs*L:=Fen (by omega) (by omega)
  exact Int.le_trans (Int.ediv_le_ediv (by omega) this) (by rw[Int.mul_ediv_cancel _ (by omega)];exact Fcn _)
 omega
theorem Rv{v:Vc}(hs:vd v)(hm:0<=m):vd (xh v m)/\(xh v m).1*(xh v m).1+(xh v m).2*(xh v m).2<(m+1)*(m+1):=by
 obtain⟨e,en,h0,h1⟩:=D7 hs
 have hmx:max m 0=m:=by omega
 have n1:nrm v.1=v.1:=congrArg Prod.fst en
 have n2:nrm v.2=v.2:=congrArg Prod.snd en
 have r0:=(F6 h0).1
 unfold xh
 rw[hmx]
 split
 ·rename_i hle
  rw[en]
  refine⟨hs,?_⟩
  have:=Md (show 0<=jb (sqr v)+1 by omega) (show jb (sqr v)+1<=m+1 by omega)
  omega
 ·rename_i hgt
  rw[n1,n2]
  have hmL:m<jb (sqr v):=by omega
  have c1:=Ro (c:=v.1) hm hmL
  have c2:=Ro (c:=v.2) hm hmL
  refine⟨?_,?_⟩
  ·unfold vd at hs⊢
   dsimp only
   omega
  ·dsimp only
   rw[Hy (Dt v.1 _ _),Hy (Dt v.2 _ _)]
   refine yc9 (s:=0) (x:=v.1.natAbs) (y:=v.2.natAbs) (by omega) (by omega) hm hmL ?_ (cr hm (by omega)) (cr hm (by omega))
   rw[<-Hy,<-Hy]
   omega
theorem s9(x:Int)(k:Nat):(x.tdiv (2^k:Nat)).natAbs<=x.natAbs:=by
 rw[Int.natAbs_tdiv]
 exact Nat.div_le_self _ _
def xc(p:Vc):Prop:=(0<=p.1/\p.1<=8388608)/\(0<=p.2/\p.2<=8388608)
theorem Ix(ha:-2251799813685248<=a/\a<=2251799813685248)(hb:-2251799813685248<=b/\b<=2251799813685248):qf a b=a+b:=by
 unfold qf jk
 rw[j3 (by omega),j3 (by omega),if_neg (by omega),if_neg (by omega)]
theorem Si{p q:Vc}(hp:xc p)(hq:xc q):qp q p=(q.1-p.1,q.2-p.2)/\vd (qp q p):=by
 obtain⟨p1,p2⟩:=hp
 obtain⟨q1,q2⟩:=hq
 have e:=fi (a:=q) (b:=p) (by omega) (by omega) (by omega) (by omega)
 refine⟨e,?_⟩
 rw[e]
 unfold vd
 dsimp only
 omega
theorem Pj{p q:Vc}(hp:xc p)(hq:xc q){r:Int}(hr:0<r):-16777216<=(ju p r q).1/\(ju p r q).1<=16777216/\-16777216<=(ju p r q).2/\(ju p r q).2<=16777216:=by
 obtain⟨e,hs⟩:=Si hq hp
 unfold ju
 split
 ·rename_i hn
  generalize hm:r-jb (sqr (qp p q))=m
  have hv:∀w:Vc,vd w->(w.1.natAbs<=16777216/\w.2.natAbs<=16777216)->-16777216<=(xh w m).1/\(xh w m).1<=16777216/\-16777216<=(xh w m).2/\(xh w m).2<=16777216:=by
   intro w hw hb
   obtain⟨_,en,_,_⟩:=D7 hw
   have n1:nrm w.1=w.1:=congrArg Prod.fst en
   have n2:nrm w.2=w.2:=congrArg Prod.snd en
   unfold xh
   split
   ·rw[en];omega
   ·rename_i hgt
    rw[n1,n2]
    have c1:=Ro (c:=w.1) (m:=max m 0) (L:=jb (sqr w)) (by omega) (by omega)
    have c2:=Ro (c:=w.2) (m:=max m 0) (L:=jb (sqr w)) (by omega) (by omega)
    dsimp only
    omega
  obtain⟨p1,p2⟩:=hp
  obtain⟨q1,q2⟩:=hq
  split
  ·exact hv _ (by unfold vd;decide) (by decide)
  ·refine hv _ hs ?_
   rw[e]
   dsimp only
   omega
 ·decide
theorem zzv{w:Wld}{u:Unt}(hu:xc u.pos)(h:∀x∈w.U,x.inn=0->xc x.pos)(hl:w.U.length<=4096):vd (Ai w u):=by
 have key:∀(l:List Unt) (v:Vc) (B:Nat),(∀x∈l,x.inn=0->xc x.pos)->B+l.length<=4096->(v.1.natAbs<=B*16777216/\v.2.natAbs<=B*16777216)->
   vd (l.foldl (λv x=>if x.inn=0/\x.id≠u.id then q9 v (ju u.pos (zv u.kind+zv x.kind+16384) x.pos)else v) v):=by
  intro l
  induction l with
  |nil=>
   intro v B _ hB hv
   unfold vd
   simp only[List.length_nil]at hB
   simp only[List.foldl_nil]
   omega
  |cons x l ih=>
   intro v B hx hB hv
   simp only[Fba]at hB
   rw[Fcv]
   refine ih _ (B+1) (λy hy=>hx y (Fa6 _ hy)) (by omega) ?_
   split
   ·rename_i hc
    have r1:=Ig u.kind
    have r2:=Ig x.kind
    have:=Pj hu (hx x Fbi hc.1) (r:=zv u.kind+zv x.kind+16384) (by omega)
    generalize ju u.pos (zv u.kind+zv x.kind+16384) x.pos=z at*
    have e:q9 v z=(v.1+z.1,v.2+z.2):=by
     unfold q9
     rw[Ix (by omega) (by omega),Ix (by omega) (by omega)]
    rw[e]
    dsimp only
    omega
   ·exact⟨Fde hv.1 (Fa5 _ (Fdq B)),Fde hv.2 (Fa5 _ (Fdq B))⟩
 unfold Ai
 refine key w.U (0,0) 0 h (by omega) ⟨?_,?_⟩
 ·show(0:Int).natAbs<=_;simp
 ·show(0:Int).natAbs<=_;simp
end
section
variable {w:Wld} {i:Nat} {u:Unt}
theorem Pf(w:Wld){a b:Unt}(h:a.id=b.id):ye (ye w a) b=ye w b:=by
 unfold ye
 simp only[List.map_map]
 congr 1
 refine Fbu λx _=>?_
 simp only[Function.comp]
 by_cases e:x.id=a.id
 ·rw[if_pos e,if_pos h,if_pos (e.trans h)]
 ·rw[if_neg e]
theorem zv7(hr:yq w.U)(hi:i<w.U.length):ye w w.U[i]=w:=by
 rw[Ar hr hi rfl]
 congr 1
 exact List.set_getElem_self hi
theorem zt6(hr:yq w.U)(hi:i<w.U.length)(hid:u.id=w.U[i].id):yq (ye w u).U:=by
 refine m6 (Pg w u) (λj hj=>?_) hr
 by_cases e:j=i
 ·subst e
  obtain⟨_,h⟩:=Ph hr hi hid
  rw[h];exact hid
 ·rw[nu hr hi hid hj e]
def Kd(u u':Unt):Prop:=u'.id=u.id/\u'.kind=u.kind/\(u'.pos=u.pos\/∃(v:Vc) (m:Int) (k:Nat),vd v/\0<=m/\m<=qs u.kind/\u'.pos=q9 u.pos (jy (qm (xh v m)) k))
theorem Ks(k:Int):8192<=qs k/\qs k<=24576:=by unfold qs;split<;>(try split)<;>(try split)<;>omega
theorem gp(hr:yq w.U)(hi:i<w.U.length){v:Vc}{m:Int}(hs:vd v)(hm:0<=m)(hm2:m<=qs w.U[i].kind):∃u',xg w w.U[i] (xh v m)=ye w u'/\Kd w.U[i] u':=by
 unfold xg
 cases h:qb w w.U[i] (qm (xh v m)) 5 0 with
 |none=>exact⟨w.U[i],(zv7 hr hi).symm,rfl,rfl,.inl rfl⟩
 |some r=>
  obtain⟨k,p⟩:=r
  obtain⟨_,_,h3⟩:=Ol 5 0 h
  exact⟨_,rfl,rfl,rfl,.inr ⟨v,m,k,hs,hm,hm2,h3⟩⟩
theorem Dm(hm:z6 w)(hu:u∈w.U)(h0:u.inn=0):xc u.pos:=by
 have:=Re hm.1.1.2.1.1 (hm.2.1 u hu h0).1
 unfold xc
 omega
theorem dg{g:Gnd}(hg:zr g){t:Nat}(ht:t<g.T.length):xc (ya g t):=by
 obtain⟨⟨h1,h2⟩,⟨h3,h4⟩,h5,_⟩:=hg
 have a:=Fco (t:Int) (show g.W≠0 by omega)
 have b:=Fdo (t:Int) (show 0<g.W by omega)
 have c:0<=(t:Int)/g.W:=Fcb (by omega) (by omega)
 have d:(t:Int)/g.W<g.H:=Fej (by omega) (by rw[Fcz];omega)
 unfold xc ya tx ty
 dsimp only
 omega
theorem im(hm:z6 w)(hi:i<w.U.length)(h0:w.U[i].inn=0)(hu:mvG 0 u=mvG 0 w.U[i])(ht:u.next.toNat<w.G.T.length):∃u',wh w u=ye w u'/\Kd w.U[i] u':=by
 obtain⟨f1,f2,f3,f4,f5⟩:=Ha hu
 have hmp:=Dm hm (Faa hi) h0
 have same:∀u':Unt,u'.id=u.id->u'.kind=u.kind->u'.pos=u.pos->∃u2,ye w u'=ye w u2/\Kd w.U[i] u2:=λu' a b c=>⟨u',rfl,a.trans f1,b.trans f3,.inl (c.trans f4)⟩
 unfold wh
 split
 ·obtain⟨h2,e⟩:=Ph (u:={u with stuck:=0}) hm.1.2.1 hi f1
  have hr2:=zt6 (u:={u with stuck:=0}) hm.1.2.1 hi f1
  have hs:=(Si (p:=u.pos) (q:=ya w.G u.next.toNat) (by rw[f4];exact hmp) (dg hm.1.1.2.1.1 ht)).2
  have hsp:=Ks u.kind
  obtain⟨u2,e2,k1,k2,k3⟩:=gp hr2 h2 (v:=qp (ya w.G u.next.toNat) u.pos) (m:=qs u.kind) hs (by omega) (by rw[e];exact Fcn _)
  rw[e]at e2 k1 k2 k3
  refine⟨u2,?_,k1.trans f1,k2.trans f3,?_⟩
  ·unfold Am
   rw[e2]
   exact Pf w k1.symm
  ·rw[<-f4,<-f3];exact k3
 ·split
  ·exact same _ rfl rfl rfl
  ·exact same _ rfl rfl rfl
theorem zxd(hg:zr w.G){own:Nat}(ho:own<w.G.T.length)(h:¬wk w u own<0):(wk w u own).toNat<w.G.T.length:=by
 have:=Wn hg (u:=u) ho
 have:=hg.2.2.1
 unfold wg at*
 omega
theorem ya1(hm:z6 w)(hi:i<w.U.length)(h0:w.U[i].inn=0)(hg:w.U[i].goal≠-1):∃u',Bp w w.U[i]=ye w u'/\Kd w.U[i] u':=by
 have hu:=Oi hm hi
 have hgn:=hm.1.1.2.1.1
 unfold Bp
 split
 ·exact⟨_,rfl,rfl,rfl,.inl rfl⟩
 ·split
  ·split
   ·exact⟨_,rfl,rfl,rfl,.inl rfl⟩
   ·rename_i hn
    exact im hm hi h0 (u:={w.U[i]with next:=wk w w.U[i] (js w.G w.U[i].pos)}) rfl (zxd hgn (Pk hm hi h0) hn)
  ·rename_i hl
   refine im hm hi h0 rfl ?_
   have hne:w.U[i].next≠-1:=λe=>hl (by unfold wn;simp[e])
   have:=hu.2.1.2.1
   have:=hgn.2.2.1
   unfold wg at*
   omega
theorem zde(hm:z6 w)(hi:i<w.U.length)(h0:w.U[i].inn=0):∃u',xi w w.U[i]=ye w u'/\Kd w.U[i] u':=by
 unfold xi
 split
 ·have hsp:=Ks w.U[i].kind
  have e:(qs w.U[i].kind).tdiv 4=qs w.U[i].kind/4:=Fa7 (by omega)
  unfold Cy
  rw[e]
  exact gp hm.1.2.1 hi (zzv (Dm hm (Faa hi) h0) (λx hx h=>Dm hm hx h) hm.1.1.2.1.2.2) (by omega) (by omega)
 ·exact ya1 hm hi h0 ‹_›
end
def vq(v:Vc):Prop:=(-1099511627776<=v.1/\v.1<=1099511627776)/\(-1099511627776<=v.2/\v.2<=1099511627776)
theorem Cm{v:Vc}(h:vq v):vd v:=by unfold vq at h;unfold vd;omega
theorem Va{v:Vc}(h:vq v):v.ok:=by
 unfold vq at h
 exact⟨⟨by omega,by omega⟩,⟨by omega,by omega⟩⟩
theorem H0{p q:Vc}(hp:xc p)(hq:xc q):vq (qp q p):=by
 rw[(Si hp hq).1]
 unfold xc at hp hq
 unfold vq
 dsimp only
 omega
theorem su{w:Wld}{u:Unt}(hu:xc u.pos)(h:∀x∈w.U,x.inn=0->xc x.pos)(hl:w.U.length<=4096):vq (Ai w u):=by
 have key:∀(l:List Unt) (v:Vc) (B:Nat),(∀x∈l,x.inn=0->xc x.pos)->B+l.length<=4096->(v.1.natAbs<=B*16777216/\v.2.natAbs<=B*16777216)->
   vq (l.foldl (λv x=>if x.inn=0/\x.id≠u.id then q9 v (ju u.pos (zv u.kind+zv x.kind+16384) x.pos)else v) v):=by
  intro l
  induction l with
  |nil=>
   intro v B _ hB hv
   unfold vq
   simp only[List.length_nil]at hB
   simp only[List.foldl_nil]
   omega
  |cons x l ih=>
   intro v B hx hB hv
   simp only[Fba]at hB
   rw[Fcv]
   refine ih _ (B+1) (λy hy=>hx y (Fa6 _ hy)) (by omega) ?_
   split
   ·rename_i hc
    have r1:=Ig u.kind
    have r2:=Ig x.kind
    have:=Pj hu (hx x Fbi hc.1) (r:=zv u.kind+zv x.kind+16384) (by omega)
    generalize ju u.pos (zv u.kind+zv x.kind+16384) x.pos=z at*
    have e:q9 v z=(v.1+z.1,v.2+z.2):=by
     unfold q9
     rw[Ix (by omega) (by omega),Ix (by omega) (by omega)]
    rw[e]
    dsimp only
    omega
   ·exact⟨Fde hv.1 (Fa5 _ (Fdq B)),Fde hv.2 (Fa5 _ (Fdq B))⟩
 unfold Ai
 refine key w.U (0,0) 0 h (by omega) ⟨?_,?_⟩
 ·show(0:Int).natAbs<=_;simp
 ·show(0:Int).natAbs<=_;simp
theorem ycu{A b t:Int}(hb:0<b)(h0:0<=t)(h:2*(A%b)+t<b):(2*A+t)/b=2*(A/b)/\(2*A+t)%b=2*(A%b)+t:=by
 have h1:=Fco A (show b≠0 by omega)
 have e:2*A+t=(2*(A%b)+t)+b*(2*(A/b)):=by
  have:=Feh A b
  have e2:b*(2*(A/b))=2*(b*(A/b)):=by rw[Int.mul_left_comm]
  rw[e2]
  omega
 rw[e,Fek _ _ (by omega),Fdx]
 rw[Fce (by omega) h,Fdd (by omega) h]
 omega
theorem ycv{A b t:Int}(hb:0<b)(h0:0<=t)(ht:t<=1)(h:b<=2*(A%b)+t):(2*A+t)/b=2*(A/b)+1/\(2*A+t)%b=2*(A%b)+t-b:=by
 have h1:=Fco A (show b≠0 by omega)
 have h2:=Fdo A hb
 have e:2*A+t=(2*(A%b)+t-b)+b*(2*(A/b)+1):=by
  have:=Feh A b
  have e2:b*(2*(A/b)+1)=2*(b*(A/b))+b:=by rw[Int.mul_add,Int.mul_left_comm,Int.mul_one]
  rw[e2]
  omega
 rw[e,Fek _ _ (by omega),Fdx]
 rw[Fce (by omega) (by omega),Fdd (by omega) (by omega)]
 omega
theorem yfv{x:Int}(h0:0<=x)(h1:x<18446744073709551616):jl .and .u64 x 1=x%2:=by
 obtain⟨n,rfl⟩:=Fb3 h0
 have key:(BitVec.ofInt 64 (n:Int) &&& BitVec.ofInt 64 1).toNat=n%2:=by
  have e1:BitVec.ofInt 64 (n:Int)=BitVec.ofNat 64 n:=by simp
  have e2:BitVec.ofInt 64 1=BitVec.ofNat 64 1:=rfl
  rw[e1,e2,BitVec.toNat_and,BitVec.toNat_ofNat,BitVec.toNat_ofNat,Nat.mod_eq_of_lt (by omega)]
  show n &&& 1=_
  exact Nat.and_one_is_mod n
 show IntKind.u64.wrap ((BitVec.ofInt 64 (n:Int) &&& BitVec.ofInt 64 1).toNat:Int)=_
 rw[key,jm (by omega) (by omega)]
 omega
section
variable {u:Unt} {w:Wld} {n k:Nat}
theorem uq:∀{a b:List Unt},(a.map (·.id)).Pairwise (·<·)->(b.map (·.id)).Pairwise (·<·)->(∀u,u∈a↔u∈b)->a=b
 |[],[],_,_,_=>rfl
 |[],y::b,_,_,h=>absurd ((h y).2 Fbi) (by simp)
 |x::a,[],_,_,h=>absurd ((h x).1 Fbi) (by simp)
 |x::a,y::b,ha,hb,h=>by
  rw[Fb9,Fc5]at ha hb
  have hx:=(h x).1 Fbi
  have hy:=(h y).2 Fbi
  have e:x=y:=by
   rcases Fat.1 hx with e|hx
   ·exact e
   ·rcases Fat.1 hy with e|hy
    ·exact e.symm
    ·have h1:=hb.1 _ (Fae.2 ⟨x,hx,rfl⟩)
     have h2:=ha.1 _ (Fae.2 ⟨y,hy,rfl⟩)
     omega
  subst e
  refine congrArg _ (uq ha.2 hb.2 λu=>⟨λhu=>?_,λhu=>?_⟩)
  ·rcases Fat.1 ((h u).1 (Fa6 _ hu))with e|e
   ·have:=ha.1 _ (Fae.2 ⟨u,hu,rfl⟩)
    rw[e]at this
    omega
   ·exact e
  ·rcases Fat.1 ((h u).2 (Fa6 _ hu))with e|e
   ·have:=hb.1 _ (Fae.2 ⟨u,hu,rfl⟩)
    rw[e]at this
    omega
   ·exact e
def nV(v:Vc):Prop:=(-9223372036854775807<=v.1/\v.1<=9223372036854775807)/\(-9223372036854775807<=v.2/\v.2<=9223372036854775807)
theorem pq(a b:Vc):nV (q9 a b):=⟨Iy _ _,Iy _ _⟩
theorem Pq{v:Vc}(h:nV v):v.ok:=by
 unfold nV at h
 exact⟨⟨by omega,by omega⟩,⟨by omega,by omega⟩⟩
theorem ul{a:Int}(h:-9223372036854775807<=a/\a<=9223372036854775807):qf a 0=a:=by
 unfold qf
 rw[j3 (by omega),j3 (by omega)]
 unfold jk
 split
 ·omega
 ·split<;>omega
theorem zc4{v:Vc}(h:nV v):q9 v (0,0)=v:=by
 unfold q9
 rw[ul h.1,ul h.2]
def wy(u:Unt)(v:Vc)(x:Unt):Vc:=if x.id≠u.id then q9 v (ju u.pos (zv u.kind+zv x.kind+16384) x.pos)else v
theorem pp{x:Unt}{v:Vc}(h:nV v):nV (wy u v x):=by
 unfold wy
 split
 ·exact pq _ _
 ·exact h
theorem po:∀(l:List Unt) {v:Vc},nV v->nV (l.foldl (wy u) v)
 |[],_,h=>h
 |x::l,_,h=>po l (pp h)
theorem zwa{p q:Vc}{r:Int}(h:near p q r=false):ju p r q=(0,0):=by
 unfold ju
 rw[h]
 simp
theorem P5(u:Unt)(r:Int)(hr:∀k,zv u.kind+zv k+16384<=r):∀(l:List Unt) (v:Vc),nV v->
  l.foldl (λv x=>if x.inn=0/\x.id≠u.id then q9 v (ju u.pos (zv u.kind+zv x.kind+16384) x.pos)else v) v=(l.filter λx=>decide (x.inn=0)&&near u.pos x.pos r).foldl (wy u) v
 |[],v,_=>rfl
 |x::l,v,h=>by
  rw[Fcv,Fcy]
  by_cases h0:x.inn=0
  ·cases hn:near u.pos x.pos r with
   |true=>
    simp only[h0,decide_true,Bool.and_self,if_true,Fcv,true_and]
    exact P5 u r hr l _ (pp h)
   |false=>
    have hf:near u.pos x.pos (zv u.kind+zv x.kind+16384)=false:=by
     cases hc:near u.pos x.pos (zv u.kind+zv x.kind+16384)with
     |false=>rfl
     |true=>rw[ph (hr x.kind) hc]at hn;cases hn
    simp only[h0,decide_true,Fe2,Fah,if_false,true_and]
    rw[zwa hf,zc4 h,ite_self]
    exact P5 u r hr l _ h
  ·simp only[h0,decide_false,Fee,Fah,if_false,false_and]
   exact P5 u r hr l _ h
theorem zzt(hr:yq w.U){us:List Unt}(hn:Ij w u.pos (zv u.kind+16384+81920) us)(hs:(us.map (·.id)).Pairwise (·<·)):Ai w u=us.foldl (wy u) (0,0):=by
 unfold Ai
 rw[P5 u (zv u.kind+16384+81920) (λk=>by have:=(Bl k).2;omega) w.U (0,0) ⟨⟨by decide,by decide⟩,⟨by decide,by decide⟩⟩]
 congr 1
 refine uq ?_ hs λx=>?_
 ·have:(w.U.map (·.id)).Pairwise (·<·):=by
   rw[Fct]
   intro i j hi hj hij
   rw[Fa4]at hi hj
   simp only[Fcf]
   exact Dh hr hij hj
  exact this.sublist (List.filter_sublist.map _)
 ·rw[Fbt,hn x,Fav,decide_eq_true_iff]
  constructor
  ·rintro⟨h1,h2,h3⟩;exact⟨⟨h1,h2⟩,h3⟩
  ·rintro⟨⟨h1,h2⟩,h3⟩;exact⟨h1,h2,h3⟩
theorem ta{v:Vc}(h:nV v)(k:Nat):nV (jy v k):=by
 obtain⟨h1,h2⟩:=h
 have e1:=s9 v.1 k
 have e2:=s9 v.2 k
 unfold nV jy
 dsimp only
 omega
theorem fm{v:Vc}(h:v.ok):nV (qm v):=by
 obtain⟨h1,h2⟩:=h
 have e1:=vf h1
 have e2:=vf h2
 unfold nV qm
 dsimp only
 omega
theorem zd1{v:Vc}(h0:jy v k≠(0,0))(hc:¬qa w u.id u.kind (q9 u.pos (jy v k))):qb w u v (n+1) k=qb w u v n (k+1):=by
 show(if _ then _ else if _ then _ else _)=_
 rw[if_neg h0,if_neg hc]
theorem zdz{v:Vc}(h0:jy v k=(0,0)):qb w u v (n+1) k=none:=by
 show(if _ then _ else if _ then _ else _)=_
 rw[if_pos h0]
theorem zd0{v:Vc}(h0:jy v k≠(0,0))(hc:qa w u.id u.kind (q9 u.pos (jy v k))):qb w u v (n+1) k=some (k,q9 u.pos (jy v k)):=by
 show(if _ then _ else if _ then _ else _)=_
 rw[if_neg h0,if_pos hc]
theorem lj(hk:k<5):IntKind.i64.wrap (1*2^(min ((k:Int)).toNat IntKind.i64.bits))=((2^k:Nat):Int):=by
 have:k=0\/k=1\/k=2\/k=3\/k=4:=by omega
 rcases this with rfl|rfl|rfl|rfl|rfl<;>decide
end
theorem Sr(a b:Vc):(q9 a b).ok:=by
 have h1:=Rw (nrm a.1+nrm b.1)
 have h2:=Rw (nrm a.2+nrm b.2)
 exact⟨⟨by show _<=jk _;omega,by show jk _<=_;omega⟩,⟨by show _<=jk _;omega,by show jk _<=_;omega⟩⟩
def playW(w:Wld):Prop:=z6 w/\∀u∈w.U,u.pos.ok
theorem playW.sizes{w:Wld}(h:playW w):w.G.T.length<=1000000/\w.B.length<=1000000/\w.U.length<=1000000:=by
 have f:=jd h.1
 have:=f.hB
 have:=f.hU
 have:=f.hT
 omega
theorem zcl{u u':Unt}(h:Kd u u')(hu:u.pos.ok):u'.pos.ok:=by
 rcases h.2.2 with e|⟨v,m,k,_,_,_,e⟩
 ·rw[e];exact hu
 ·rw[e];exact Sr _ _
theorem zv4{w:Wld}{u:Unt}(hw:∀x∈w.U,x.pos.ok)(hu:u.pos.ok):∀x∈(ye w u).U,x.pos.ok:=by
 intro x hx
 unfold ye at hx
 obtain⟨y,hy,rfl⟩:=Fae.1 hx
 split
 ·exact hu
 ·exact hw y hy
section
variable {w:Wld} {u:Unt} {k:Nat}
theorem gr{v:Vc}:∀(n k:Nat) {r:Nat×Vc},qb w u v n k=some r->k<=r.1/\r.1<k+n:=by
 intro n
 induction n with
 |zero=>intro k r h;cases h
 |succ n ih=>
  intro k r h
  unfold qb at h
  split at h
  ·cases h
  ·split at h
   ·cases h;exact⟨Faj _,by dsimp only;omega⟩
   ·have:=ih (k+1) h;omega
def H6(w:Wld)(u:Unt)(v:Vc)(k:Nat):Prop:=qb w u v 5 0=qb w u v (5-k) k
theorem gu{v:Vc}(h:H6 w u v k)(h2:k<5->jy v k=(0,0))(hk:k<=5):qb w u v 5 0=none:=by
 rw[h]
 by_cases h5:k<5
 ·rw[show 5-k=(4-k)+1 by omega]
  unfold qb
  rw[if_pos (h2 h5)]
 ·rw[show 5-k=0 by omega]
  rfl
theorem zd4{v:Vc}(h:H6 w u v k)(hk:k<5)(h1:jy v k≠(0,0))(h2:qa w u.id u.kind (q9 u.pos (jy v k))):qb w u v 5 0=some (k,q9 u.pos (jy v k)):=by
 rw[h,show 5-k=(4-k)+1 by omega]
 unfold qb
 rw[if_neg h1,if_pos h2]
theorem zd5{v:Vc}(h:H6 w u v k)(hk:k<5)(h1:jy v k≠(0,0))(h2:¬qa w u.id u.kind (q9 u.pos (jy v k))):H6 w u v (k+1):=by
 unfold H6
 rw[h,show 5-k=(5-(k+1))+1 by omega]
 conv=>lhs;unfold qb
 rw[if_neg h1,if_neg h2]
theorem Om{v:Vc}(h:qb w u (qm v) 5 0=none):ww w u v=5/\xg w u v=w:=by
 unfold ww xg
 rw[h]
 exact⟨rfl,rfl⟩
theorem S9{v:Vc}{p:Vc}(h:qb w u (qm v) 5 0=some (k,p)):ww w u v=k/\xg w u v=ye w {u with pos:=p}:=by
 unfold ww xg
 rw[h]
 exact⟨rfl,rfl⟩
theorem zdw(w:Wld)(u:Unt):ww w u (0,0)=5/\xg w u (0,0)=w:=Om (by
 have:jy (qm (0,0)) 0=(0,0):=by decide
 unfold qb
 rw[if_pos this])
end
section
variable {g:Gnd} {c:Int} {goal:Nat}
def atD(d:List Int)(u:Nat):Int:=d.getD u (-1)
def Rl(g:Gnd)(ok:Nat->Bool)(c:Int)(goal:Nat)(d:List Int):Bool:=
 decide (d.length=g.T.length)&&d.all (λx=>decide (x=-1\/0<=x))&&decide (atD d goal=0)&&
 (List.range g.T.length).all (λu=>decide (u=goal)||decide (atD d u<0)||(ok u&&(List.range g.T.length).any λt=>ok t&&decide (0<=atD d t)&&(List.range 8).any λway=>
  decide (yc g t way=u)&&decide (0<yv g ok c t way)&&decide (atD d t+yv g ok c t way<=atD d u)))&&
 (List.range g.T.length).all (λt=>decide (atD d t<0)|| !ok t||(List.range 8).all λway=>decide (yv g ok c t way<=0)||
  (decide (0<=atD d (yc g t way).toNat)&&decide (atD d (yc g t way).toNat<=atD d t+yv g ok c t way)))
theorem yb6{ok:Nat->Bool}{d:List Int}(h:Rl g ok c goal d=true):FarOK (xm g ok c) goal (atD d):=by
 unfold Rl at h
 simp only[Fav,decide_eq_true_eq,Fb6,Fd2,Fev,Fbs,Fbc]at h
 obtain⟨⟨⟨⟨h1,h2⟩,h3⟩,h4⟩,h5⟩:=h
 have out:∀u,g.T.length<=u->atD d u=-1:=λu hu=>by
  unfold atD
  rw[Fa9,Fbn (by omega)]
  rfl
 refine⟨λu=>?_,h3,λu hu hl=>?_,λt u k ht hE=>?_⟩
 ·by_cases hu:u<g.T.length
  ·have hd:u<d.length:=by omega
   have:atD d u=d[u]:=by unfold atD;rw[Fa9,Fab hd];rfl
   rw[this]
   exact h2 _ (Faa hd)
  ·exact .inl (out u (by omega))
 ·have hun:u<g.T.length:=by
   apply Decidable.byContradiction
   intro hx
   rw[out u (by omega)]at hl
   omega
  rcases h4 u hun with(h6|h6)|⟨h6,t,htn,⟨h7,h8⟩,way,hw,⟨h9,h10⟩,h11⟩
  ·exact absurd h6 hu
  ·omega
  ·exact⟨t,yv g ok c t way,h8,⟨h7,htn,way,hw,h9,h6,rfl,h10⟩,h11⟩
 ·obtain⟨hok,htn,way,hw,hb,hok2,hk,hp⟩:=hE
  rcases h5 t htn with(h6|h6)|h6
  ·omega
  ·rw[hok]at h6;cases h6
  ·rcases h6 way hw with h7|⟨h7,h8⟩
   ·omega
   ·rw[hb,Fa0]at h7 h8
    rw[hk]
    exact⟨h7,h8⟩
theorem yb5{ok:Nat->Bool}(hok:ok goal=true){d:List Int}(h:Rl g ok c goal d=true):qy g ok c goal=atD d:=b7 hok (yb6 h)
def pd(w:Wld)(u:Unt)(own:Nat)(d:Nat->Int):Int:=
 if u.pos≠ya w.G own then own else
  (let way:=if d own<=0 then -1 else match(List.range 8).find? λway=>decide (0<yv w.G (okU w u) (yf u.kind) own way/\0<=d (yc w.G own way).toNat/\yv w.G (okU w u) (yf u.kind) own way+d (yc w.G own way).toNat=d own)with
   |some way=>(way:Int)
   |none=>-1
   if way<0 then -1 else yc w.G own way.toNat)
def ya3(w:Wld)(u:Unt)(d:Nat->Int):Wld:=
 if u.pos=ya w.G u.goal.toNat then ye w (xq 2 u)
 else if wn w u (js w.G u.pos)then
  (if pd w u (js w.G u.pos) d<0 then ye w (xq 3 u)else wh w {u with next:=pd w u (js w.G u.pos) d})
 else wh w u
def gg(w:Wld)(u:Unt)(d:Nat->Int):Wld:=if u.goal=-1 then Cy w u else ya3 w u d
theorem zdg{w:Wld}{u:Unt}{d:Nat->Int}(h:qy w.G (okU w u) (yf u.kind) u.goal.toNat=d):xi w u=gg w u d:=by
 subst h
 rfl
end
def wkG:Gnd:=⟨2,1,[0,0]⟩
def zck:Wld:={tick:=0,players:=1,next:=2,G:=wkG,B:=[],U:=[{id:=1,owner:=1,kind:=0,pos:=(32768,32768),goal:=1,next:=-1,stuck:=0,inn:=0,state:=1}]}
def wkD:List Int:=[20,0]
def zdc:Unt:={id:=0,owner:=0,kind:=0,pos:=(0,0),goal:=0,next:=0,stuck:=0,inn:=0,state:=0}
def Bz(w:Wld):Unt:=w.U.headD zdc
def wkS:Nat->Wld
 |0=>zck
 |n+1=>gg (wkS n) (Bz (wkS n)) (atD wkD)
theorem Od:∀n,n<6->z6 (wkS n):=by decide+kernel
theorem Gt:∀n,n<6->(wkS n).U=[Bz (wkS n)]/\(Bz (wkS n)).id=1/\(Bz (wkS n)).inn=0/\(wkS n).G=wkG/\(wkS n).B=[]:=by decide+kernel
theorem zcg:∀n,n<5->okU (wkS n) (Bz (wkS n)) (Bz (wkS n)).goal.toNat=true/\Rl (wkS n).G (okU (wkS n) (Bz (wkS n))) (yf (Bz (wkS n)).kind) (Bz (wkS n)).goal.toNat wkD=true:=by decide+kernel
theorem zch:(Bz (wkS 5)).pos=ya wkG 1/\(Bz (wkS 5)).state=2:=by decide+kernel
theorem zci:ya wkG 0=(32768,32768):=by decide+kernel
theorem zcd{n:Nat}(hn:n<5):xi (wkS n) (Bz (wkS n))=wkS (n+1):=by
 obtain⟨h1,h2⟩:=zcg n hn
 exact zdg (yb5 h1 h2)
theorem er:zr wkG:=by decide+kernel
theorem AWp.freezeBx{P:Program}{c:Cfg}{code:Code}{Q:Exit->Fr->Store->Prop}{A:Fr}{st:Store}{d j b n cap k:Nat}{l:List AV}{rows:List (List AV)}{pad:List AV}
    (hA:A.bx d=some l) (hl:l[j]?=some (.s (.slice (some ⟨b,0,none⟩) n cap))) (ho:st.obj b=some (.cells (rows.flatten++pad))) (ht:st.tok b=none) (hn:rows.length=n) (hcap:n<=cap)
    (hk:∀row∈rows,row.length=k) (hall:∀row∈rows,∀x∈row,∃v,x=AV.s v/\xa v=true)
    (h:AWp P c code Q (A.setBx d (l.set j (.lst k rows none))) (st.dO b)):AWp P c code Q A st:=by
  refine⟨λOth M a w ⟨β,sim⟩=>?_⟩
  have hs:∀b' o,((M b' o/\b'≠b)\/Oth b' o)->(M b' o\/Oth b' o):=λ_ _ h=>h.imp (·.1) id
  have hbd:β d≠b:=sim.sep d b (λe=>by rw[hA]at e;cases e) (.inl (by rw[ho];simp))
  obtain⟨hcell,hM⟩:=sim.sto.obj b _ ho
  have sim':SimB c.N Oth β (A.setBx d (l.set j (.lst k rows none))) (st.dO b) (λb' o=>M b' o/\b'≠b) a w:=by
    refine{tsz:=sim.tsz,dfr:=sim.dfr.sub λ_ _ h=>h.1,tm:=λi=>?_,bx:=λq l' hq=>?_,inj:=λq q' h1 h2=>?_,sep:=λq b' hq hb'=>?_,sto:=?_}
    · have h1:=sim.tm i
      show LRel w _ β (A.t i) _
      generalize A.t i=x at h1
      cases x with
      |any=>trivial
      |und=>exact h1
      |av x=>exact VRel.mono hs h1
      |bx k off=>exact h1
    · have hq2:(bif Nat.beq q d then some (l.set j (.lst k rows none))else A.bx q)=some l':=hq
      clear hq
      cases hb:Nat.beq q d with
      | true=>
        rw[hb]at hq2
        have hqd:=(xw _ _).1 hb
        subst hqd
        have hq3:l.set j (.lst k rows none)=l':=Option.some.inj hq2
        subst hq3
        obtain⟨⟨cs,e,fr,h1,h2,h3,h4⟩,h5⟩:=sim.bx q l hA
        refine⟨⟨cs,e,fr,h1,h2,by rw[Faf];exact h3,λi x y hx hy=>?_⟩,λo=>⟨h5 o,hbd⟩⟩
        rw[Fdu]at hx
        by_cases e9:j=i
        · subst e9
          rw[if_pos rfl]at hx
          have hjl:=(Fai.1 hl).1
          rw[if_pos hjl]at hx
          have hx:=Option.some.inj hx
          subst hx
          have h6:=h4 j _ y hl hy
          cases h6
          exact za7 hcell (λo hT=>hT.elim (λq=>q.2 rfl) (λq=>sim.sto.dis _ _ q (hM o))) hn hcap hk hall
        · rw[if_neg e9]at hx
          exact(h4 i x y hx hy).mono hs
      | false=>
        rw[hb]at hq2
        have hqb:β q≠b:=sim.sep q b (λe=>by rw[show A.bx q=some l' from hq2]at e;cases e) (.inl (by rw[ho];simp))
        obtain⟨⟨cs,e,fr,h1,h2,h3,h4⟩,h5⟩:=sim.bx q l' hq2
        exact⟨⟨cs,e,fr,h1,h2,h3,λi x y hx hy=>(h4 i x y hx hy).mono hs⟩,λo=>⟨h5 o,hqb⟩⟩
    · refine sim.inj q q' (λe=>?_) (λe=>?_)
      · refine h1 ?_
        show(bif Nat.beq q d then some (l.set j (.lst k rows none))else A.bx q)=none
        cases hb:Nat.beq q d with
        | true=>
          have:=(xw _ _).1 hb
          subst this
          rw[hA]at e;cases e
        |false=>exact e
      · refine h2 ?_
        show(bif Nat.beq q' d then some (l.set j (.lst k rows none))else A.bx q')=none
        cases hb:Nat.beq q' d with
        | true=>
          have:=(xw _ _).1 hb
          subst this
          rw[hA]at e;cases e
        |false=>exact e
    · refine sim.sep q b' (λe=>?_) ?_
      · refine hq ?_
        show(bif Nat.beq q d then some (l.set j (.lst k rows none))else A.bx q)=none
        cases hb:Nat.beq q d with
        | true=>
          have:=(xw _ _).1 hb
          subst this
          rw[hA]at e;cases e
        |false=>exact e
      · rcases hb' with hb'|hb'
        · cases hx:(st.dO b).obj b' with
          |none=>exact absurd hx hb'
          |some y=>exact .inl (by rw[(Fq hx).2];simp)
        · exact .inr hb'
    · exact { obj:=λb' y hy=>⟨(sim.sto.obj b' y (Fq hy).2).1.mono hs,λo=>⟨(sim.sto.obj b' y (Fq hy).2).2 o,(Fq hy).1⟩⟩
              tok:=λb' top htk=>by
                obtain⟨c,e,fr,h1,h2,h3,h4⟩:=sim.sto.tok b' top htk
                exact⟨c,e,fr,h1,h2,h3,λo ho=>⟨h4 o ho,λe=>by subst e;rw[show st.tok b'=some top from htk]at ht;cases ht⟩⟩
              mlt:=λb' o hm=>sim.sto.mlt b' o hm.1,olt:=sim.sto.olt,dis:=λb' o ho hm=>sim.sto.dis b' o ho hm.1}
  refine Code.wpF_mono ?_ (h.out Oth _ a w ⟨β,sim'⟩)
  rintro e a' w' ⟨A',st',M',h1,h2,h3⟩
  exact⟨A',st',M',h1,h2,{size:=h3.size,keep:=λb' o hb hm=>h3.keep b' o hb λh=>hm h.1,blk:=λb' hb hm=>h3.blk b' hb λo h=>hm o h.1,shp:=h3.shp,sub:=λb' o hm hb=>(h3.sub b' o hm hb).1,tape:=h3.tape,os:=h3.os,output:=h3.output}⟩
section
variable {P:Program} {c:Cfg} {w:World} {st:Store} {Oth M:Nat->Nat->Prop}
theorem zbu{o:Oper}{t:TypeId}{x:Operand}(ho:o.op=.makeInterface t x){d:TypeDesc}(hd:y9 P c.I->P.underlying t=some d)(hn:∀m,d≠.interface m){y:AV}{u:Value}
    (hy:∀(w:World) (T:Nat->Nat->Prop) (v:Value),VRel w T y v->v=u) {R:Ja} (h:R (.s (.iface t u)) st):AEff P c o [y] st R:=by
  refine⟨λOth M w ρ hI sto hr=>?_⟩
  rw[ho]at hr
  have hr:Reads w (λb o=>M b o\/Oth b o) [y] [ρ x]:=by simpa [Op.operands]using hr
  obtain⟨v,he,h1⟩:=Mp hr
  simp only[Fcm,and_true]at he
  rw[<-he]at h1
  have h1:=hy _ _ _ h1
  have hund:=ym (P:=P) (hd hI)
  have hrun:(execOp ρ o).run P w=.ok (.value (.iface t u)) w:=by
    simp only[execOp,ho,Instr.makeInterface,Sem.run_bind,hund,Result.andThen_ok,h1]
    cases d<;>simp at hn⊢
  rw[hrun]
  exact⟨_,_,_,h,.s _,sto,Chg.refl M w⟩
theorem yf2{o:Oper}{t:TypeId}{x:Operand}(ho:o.op=.makeInterface t x){it:TI}{e:TypeId}(hit:c.I t=some it)(hty:it.ty=.ptr e){u:Value}{R:Ja}(h:R (.s (.iface t u)) st):AEff P c o [.s u] st R:=
  zbu ho (λhI=>Oj (hI _ _ hit) hty) (λm h=>by cases h) (λw T v hv=>VRel.eq_s hv) h
theorem yf3{o:Oper}{t:TypeId}{x:Operand}(ho:o.op=.makeInterface t x){it:TI}(hit:c.I t=some it)(hty:it.ty=.struct []){R:Ja}(h:R (.s (.iface t (.agg #[]))) st):AEff P c o [.agg []] st R:=by
  refine zbu (y:=.agg []) ho (d:=.struct #[]) (λhI=>?_) (λm h=>by cases h) (u:=.agg #[]) (λw T v hv=>?_) h
  · obtain⟨a,h1,h2⟩:=Ki (hI _ _ hit) hty
    have:a=#[]:=by
      apply Array.ext'
      simpa using h2.symm
    rw[h1,this]
  · obtain⟨cv,rfl,hl,_⟩:=Dd hv
    have:cv=#[]:=by
      apply Array.ext'
      simp at hl
      simpa using hl.symm
    rw[this]
end
section
variable {P:Program} {v:Value} {x:AV}
theorem mh{t:TypeId}{inf:TypeInfo}(h:P.info? t=some inf)(w:World):(typeInfo t).run P w=.ok inf w:=by
  simp[typeInfo,run_program,h]
theorem Meets.val{t:TypeId}{m:String}{g:FuncId}{inf:TypeInfo}{row:Method}{d:TypeDesc}(hi:P.info? t=some inf)(hf:inf.methods.find? (·.name==m)=some row)(hp:row.path=#[])
    (hr:row.func=some (g,false)) (hu:P.underlying t=some d) (hd:∀e,d≠.pointer e) (hx:∀w T,VRel w T x v):Meets P t v m g x:=by
  refine⟨v,λw=>?_,hx⟩
  have hdep:P.types.size+Made.depth=(P.types.size+99)+1:=rfl
  rw[hdep]
  generalize P.types.size+99=n
  have e:row.path.toList=[]:=by rw[hp]
  unfold method
  rw[Sem.run_bind,mh hi,Result.andThen_ok,hf]
  dsimp only
  rw[e]
  unfold follow
  rw[Sem.run_bind,Sem.run_pure,Result.andThen_ok]
  dsimp only
  rw[hr]
  dsimp only
  unfold receiverAt
  cases d<;>simp[ym hu,Place.get]at hd⊢
theorem Meets.ptr{t:TypeId}{m:String}{g:FuncId}{inf:TypeInfo}{row:Method}{e:TypeId}(hi:P.info? t=some inf)(hf:inf.methods.find? (·.name==m)=some row)(hp:row.path=#[])
    (hr:row.func=some (g,true)) (hu:P.underlying t=some (.pointer e)) (hx:∀w T,VRel w T x v):Meets P t v m g x:=by
  refine⟨v,λw=>?_,hx⟩
  have hdep:P.types.size+Made.depth=(P.types.size+99)+1:=rfl
  rw[hdep]
  generalize P.types.size+99=n
  have e:row.path.toList=[]:=by rw[hp]
  unfold method
  rw[Sem.run_bind,mh hi,Result.andThen_ok,hf]
  dsimp only
  rw[e]
  unfold follow
  rw[Sem.run_bind,Sem.run_pure,Result.andThen_ok]
  dsimp only
  rw[hr]
  dsimp only
  unfold receiverAt
  simp[ym hu,Place.get]
def Hc(P:Program)(t:TypeId)(m:String)(g:FuncId)(ptr:Bool):Bool:=
  match P.info? t,P.underlying t with
  | some inf,some d=>(match inf.methods.find? (·.name==m)with
    |some row=>row.path.isEmpty&&(match row.func with|some (f,b)=>Nat.beq f g&&(b==ptr)|none=>false)
    |none=>false)&&(match d with|.pointer _=>ptr|_=> !ptr)
  |_,_=>false
theorem rc{t:TypeId}{m:String}{g:FuncId}{ptr:Bool}(h:Hc P t m g ptr=true):∃inf row d,P.info? t=some inf/\inf.methods.find? (·.name==m)=some row/\row.path=#[]/\row.func=some (g,ptr)/\P.underlying t=some d/\(match d with|.pointer _=>ptr|_=> !ptr)=true:=by
  unfold Hc at h
  split at h
  · rename_i inf d h1 h2
    rw[Fav]at h
    obtain⟨h3,h4⟩:=h
    split at h3
    · rename_i row h5
      rw[Fav]at h3
      obtain⟨h6,h7⟩:=h3
      split at h7
      · rename_i f b h8
        rw[Fav]at h7
        obtain⟨h9,h10⟩:=h7
        have e1:f=g:=Nat.eq_of_beq_eq_true h9
        have e2:b=ptr:=eq_of_beq h10
        subst e1 e2
        exact⟨inf,row,d,h1,h5,Array.isEmpty_iff.1 h6,h8,h2,h4⟩
      · cases h7
    · cases h3
  · cases h
theorem Meets.valB{t:TypeId}{m:String}{g:FuncId}(h:Hc P t m g false=true)(hx:∀w T,VRel w T x v):Meets P t v m g x:=by
  obtain⟨inf,row,d,h1,h2,h3,h4,h5,h6⟩:=rc h
  exact Meets.val h1 h2 h3 h4 h5 (λe he=>by subst he;cases h6) hx
theorem Meets.ptrB{t:TypeId}{m:String}{g:FuncId}(h:Hc P t m g true=true)(hx:∀w T,VRel w T x v):Meets P t v m g x:=by
  obtain⟨inf,row,d,h1,h2,h3,h4,h5,h6⟩:=rc h
  cases d with
  |pointer e=>exact Meets.ptr h1 h2 h3 h4 h5 hx
  |_=>cases h6
end
section
variable {u n t:Nat} {x c:Int}
def vt:Nat->(Nat->Nat)->Nat
 |0,_=>0
 |n+1,f=>vt n f+f n
theorem Vj{f g:Nat->Nat}:∀n,(∀t,t<n->f t=g t)->vt n f=vt n g
 |0,_=>rfl
 |n+1,h=>by
  show vt n f+f n=vt n g+g n
  rw[Vj n (λt ht=>h t (by omega)),h n (by omega)]
theorem Ow{f g:Nat->Nat}:∀n,(∀t,t<n->f t<=g t)->vt n f<=vt n g
 |0,_=>Faj _
 |n+1,h=>by
  show vt n f+f n<=vt n g+g n
  have:=Ow n (λt ht=>h t (by omega))
  have:=h n (by omega)
  omega
theorem Ox(c:Nat):∀n,vt n (λ_=>c)=n*c
 |0=>by simp[vt]
 |n+1=>by
  show vt n (λ_=>c)+c=_
  rw[Ox c n,Fef]
theorem Ko{f g:Nat->Nat}:∀n,u<n->(∀t,t<n->t≠u->f t=g t)->vt n f+g u=vt n g+f u
 |0,hu,_=>by omega
 |n+1,hu,h=>by
  show vt n f+f n+g u=vt n g+g n+f u
  by_cases e:u=n
  ·subst e
   rw[Vj u (λt ht=>h t (by omega) (by omega))]
   omega
  ·have:=Ko (f:=f) (g:=g) n (by omega) (λt ht hne=>h t (by omega) hne)
   have:=h n (by omega) (Ne.symm e)
   omega
def Df(n:Nat)(d:Nat->Int):Nat:=vt n λt=>if 0<=d t then 1 else 0
theorem zd9(n:Nat)(d:Nat->Int):Df n d<=n:=by
 have:=Ow (f:=λt=>if 0<=d t then 1 else 0) (g:=λ_=>1) n (λt _=>by split<;>omega)
 rw[Ox]at this
 unfold Df
 omega
theorem zd8{d:Nat->Int}(hu:u<n)(h:d u<0)(hx:0<=x):Df n (zx d u x)=Df n d+1:=by
 have:=Ko (f:=λt=>if 0<=zx d u x t then 1 else 0) (g:=λt=>if 0<=d t then 1 else 0) n hu (λt _ hne=>by simp only[xf hne])
 simp only[j1,if_pos hx,if_neg (show¬0<=d u by omega)]at this
 unfold Df
 omega
theorem zd7{d:Nat->Int}(h:0<=d u)(hx:0<=x):Df n (zx d u x)=Df n d:=by
 unfold Df
 refine Vj n λt _=>?_
 by_cases e:t=u
 ·subst e;rw[j1,if_pos hx,if_pos h]
 ·rw[xf e]
def Dv(n:Nat)(d:Nat->Int):Prop:=∀t,d t<=84*(Df n d:Int)-84\/d t<0
theorem zaj{goal:Nat}(hg:goal<n){d:Nat->Int}(hd:∀u,d u=if u=goal then 0 else -1):Dv n d:=by
 intro t
 have h1:1<=Df n d:=by
  have:=Ko (f:=λt=>if 0<=d t then 1 else 0) (g:=λt=>if t=goal then 0 else if 0<=d t then 1 else 0) n hg (λt _ hne=>by rw[if_neg hne])
  have h0:(if 0<=d goal then 1 else 0)=1:=by rw[hd,if_pos rfl];rfl
  simp only[if_true,h0]at this
  unfold Df
  omega
 rw[hd]
 split
 ·left;omega
 ·right;omega
theorem Rr{d:Nat->Int}(h:Dv n d)(hu:u<n)(ht:0<=d t)(hc:0<c/\c<=84)(hl:d u<0\/d t+c<d u):Dv n (zx d u (d t+c)):=by
 have hdt:=h t
 by_cases hn:d u<0
 ·have e:=zd8 (n:=n) hu hn (show 0<=d t+c by omega)
  intro v
  rw[e]
  by_cases ev:v=u
  ·subst ev;rw[j1];omega
  ·rw[xf ev]
   have:=h v
   omega
 ·have e:=zd7 (n:=n) (d:=d) (u:=u) (by omega) (show 0<=d t+c by omega)
  intro v
  rw[e]
  by_cases ev:v=u
  ·subst ev;rw[j1]
   have:=h v
   omega
  ·rw[xf ev];exact h v
theorem Lp{d:Nat->Int}(h:Dv n d)(t:Nat):d t<=84*(n:Int):=by
 have:=h t
 have:=zd9 n d
 omega
def Gb(n:Nat)(d:Nat->Int):Nat:=vt n λt=>if 0<=d t then(d t).toNat else 84*n+1
theorem zyu{d:Nat->Int}(h:Dv n d)(hu:u<n)(ht:0<=d t)(hc:0<c/\c<=84)(hl:d u<0\/d t+c<d u):Gb n (zx d u (d t+c))<Gb n d:=by
 have hb:=Lp (Rr h hu ht hc hl) u
 rw[j1]at hb
 have:=Ko (f:=λv=>if 0<=zx d u (d t+c) v then(zx d u (d t+c) v).toNat else 84*n+1) (g:=λv=>if 0<=d v then(d v).toNat else 84*n+1) n hu (λv _ hne=>by simp only[xf hne])
 simp only[j1,if_pos (show 0<=d t+c by omega)]at this
 unfold Gb
 split at this<;>omega
def Di(n:Nat)(dn:Nat->Bool):Nat:=vt n λt=>if dn t then 0 else 1
theorem zww{dn:Nat->Bool}(ht:t<n)(h:dn t=false):Di n (zx dn t true)+1=Di n dn:=by
 have:=Ko (f:=λv=>if zx dn t true v=true then 0 else 1) (g:=λv=>if dn v=true then 0 else 1) n ht (λv _ hne=>by simp only[xf hne])
 simp only[j1,h,if_true,Fah,if_false]at this
 unfold Di
 omega
end
section
variable {i n k:Nat}
theorem zvq{l:List (Int×Int)}(h:we l)(x:Int×Int):UpF (qat (l++[x])) (l++[x]).length l.length:=by
 have h2:Kb (qat (l++[x])) l.length:=λj h0 hj=>by
  rw[nt l x j hj,nt l x (par j) (by have:=Bk h0;omega)]
  exact h j h0 hj
 have:=zc7 h2
 simpa using this
theorem zvn{l:List (Int×Int)}(h:UpF (qat l) l.length i)(h0:0<i)(hi:i<l.length)(hl:qlt (qat l i) (qat l (par i))):
  UpF (qat (vr l i (par i))) (vr l i (par i)).length (par i)/\(vr l i (par i)).Perm l:=by
 have hp:=Bk h0
 rw[nn hi (by omega),Kn]
 exact⟨zc6 h h0 hi hl,ij hi (by omega)⟩
theorem nk{l:List (Int×Int)}(h:UpF (qat l) l.length i)(hi:i=0\/¬qlt (qat l i) (qat l (par i))):we l:=zc8 h hi
theorem zvp(l:List (Int×Int))(x:Int×Int):(l++[x]).Perm (x::l):=List.perm_append_singleton x l
theorem zvs{l:List (Int×Int)}(hl:l.length=n+1):l.Perm (qat l 0::(l.set 0 (qat l n)).take n):=by
 obtain⟨a,t,rfl⟩:∃a t,l=a::t:=by
  cases l with
  |nil=>simp at hl
  |cons a t=>exact⟨a,t,rfl⟩
 simp only[Fba,Nat.add_right_cancel_iff]at hl
 have e0:qat (a::t) 0=a:=rfl
 rw[e0]
 refine List.Perm.cons a ?_
 cases n with
 |zero=>
  have:t=[]:=Faw hl
  subst this
  simp
 |succ n=>
  have e1:qat (a::t) (n+1)=t[n]'(by omega):=by
   rw[Mt (by simp;omega)]
   rfl
  rw[e1]
  show t.Perm ((t[n]'(by omega)::t).take (n+1))
  rw[Fer]
  have e2:t=t.take n++[t[n]'(by omega)]:=by
   have h1:=Fcu n t
   have h2:t.drop n=[t[n]'(by omega)]:=by
    rw[Fe1 (by omega),List.drop_eq_nil_of_le (by omega)]
   rw[h2]at h1
   exact h1.symm
  exact(List.Perm.of_eq e2).trans (List.perm_append_singleton _ _)
theorem zvu{l:List (Int×Int)}(hl:l.length=n+1)(h:we l):Gs (qat ((l.set 0 (qat l n)).take n)) ((l.set 0 (qat l n)).take n).length 0:=by
 have hlen:((l.set 0 (qat l n)).take n).length=n:=by simp;omega
 rw[hlen]
 have h2:Kb (qat l) (n+1):=by rw[<-hl];exact h
 have key:∀j,0<j->j<n->qat ((l.set 0 (qat l n)).take n) j=qat l j:=λj h0 hj=>by
  unfold qat
  simp only[List.getD,Fb7 hj]
  rw[Fdz (by omega)]
 refine⟨λj h0 hj hp=>?_,λj h0 hj hp h1=>by omega⟩
 rw[key j h0 hj,key (par j) (by omega) (by have:=Bk h0;omega)]
 exact h2 j h0 (by omega)
theorem zvt{l:List (Int×Int)}(h:we l):∀e∈l,¬qlt e (qat l 0):=λe he=>by
 obtain⟨j,hj,rfl⟩:=Fak he
 rw[<-Mt hj]
 exact zz2 h j hj
theorem zvv{l:List (Int×Int)}(h:Gs (qat l) l.length i)(hc:l.length<=2*i+1):we l:=
 uy h λj h0 hj hp=>by
  rcases(Mv h0).1 hp with e|e<;>omega
theorem Wb{l:List (Int×Int)}(h:Gs (qat l) l.length i)(hk:∀j,0<j->j<l.length->par j=i->¬qlt (qat l j) (qat l k))(hs:¬qlt (qat l k) (qat l i)):we l:=
 uy h λj h0 hj hp=>Pd hs (hk j h0 hj hp)
theorem Wc{l:List (Int×Int)}(h:Gs (qat l) l.length i)(hk0:0<k)(hk:k<l.length)(hki:par k=i)(hmin:∀j,0<j->j<l.length->par j=i->¬qlt (qat l j) (qat l k))(hl:qlt (qat l k) (qat l i)):
  Gs (qat (vr l i k)) (vr l i k).length k/\(vr l i k).Perm l:=by
 have hp:=Bk hk0
 rw[nn (by omega) hk,Kn]
 exact⟨yco h hk0 hk hki hmin hl,ij (by omega) hk⟩
theorem dc{f:Nat->Int×Int}(hk:k=2*i+1/\(2*i+2<n->¬qlt (f (2*i+2)) (f (2*i+1)))\/k=2*i+2/\qlt (f (2*i+2)) (f (2*i+1))):∀j,0<j->j<n->par j=i->¬qlt (f j) (f k):=by
 intro j h0 hj hp
 rcases(Mv h0).1 hp with e|e
 ·subst e
  rcases hk with⟨rfl,_⟩|⟨rfl,h2⟩
  ·exact We _
  ·exact Pe h2
 ·subst e
  rcases hk with⟨rfl,h1⟩|⟨rfl,h2⟩
  ·exact h1 hj
  ·exact We _
end
section
variable {F:Store} {p i b cap:Nat}
def itC(x:Int×Int):List AV:=[int x.1,int x.2]
theorem Ip(x:Int×Int):(itC x).length=2:=rfl
structure QAt(F:Store)(p b cap:Nat)(l:List (Int×Int))(L:List AV):Prop where
 hp:F.obj p=some (.cells [.s (.slice (some ⟨b,0,none⟩) l.length cap)])
 hb:F.obj b=some (.cells ((rws itC l).flatten++L))
 ne:b≠p
 h1:l.length<=cap
 h2:cap*2<=l.length*2+L.length
 h3:cap<=9223372036854775807
def QOf(F:Store)(p:Nat)(l:List (Int×Int)):Prop:=(F.obj p=some (.cells [.s (.slice none 0 0)])/\l=[])\/∃b cap L,QAt F p b cap l L
theorem QOf.rows{l:List (Int×Int)}(h:QOf F p l):∃v,F.obj p=some (.cells [v])/\RowsO 2 itC F v l/\∀b c0,v=.s (.slice (some ⟨b,0,none⟩) l.length c0)->b≠p:=by
 rcases h with⟨h,rfl⟩|⟨b,cap,L,h⟩
 ·exact⟨_,h,.inl ⟨rfl,rfl⟩,λb c0 e=>by simp at e⟩
 ·refine⟨_,h.hp,.inr ⟨b,cap,L,rfl,h.hb,h.h1,h.h2,h.h3⟩,λb' c0 e=>?_⟩
  simp only[AV.s.injEq,Value.slice.injEq,Fal,Addr.mk.injEq]at e
  exact e.1.1▸h.ne
theorem QOf.pos{l:List (Int×Int)}(h:QOf F p l)(hl:0<l.length):∃b cap L,QAt F p b cap l L:=by
 rcases h with⟨h,rfl⟩|h
 ·exact absurd hl (Fdg 0)
 ·exact h
theorem zy5{l:List (Int×Int)}(hi:i<l.length)(x:Int×Int)(L:List AV):zu ((rws itC l).flatten++L) (0+i*2) (itC x)=(rws itC (l.set i x)).flatten++L:=by
 have:=Kr (f:=itC) (k:=2) Ip hi (j:=0) (x':=x) (ys:=itC x) (L:=L) (by show 0+2<=2;omega) (by
  unfold zu
  rw[Ip]
  rfl)
 rw[Fey]at this
 rw[Fbe]
 exact this
theorem v8{l:List (Int×Int)}{L:List AV}(hi:i<l.length):List.drop (0+i*2) ((rws itC l).flatten++L)=itC (qat l i)++((rws itC (l.drop (i+1))).flatten++L):=by
 have h1:(rws itC (l.take i)).flatten.length=i*2:=by rw[ja Ip,Fao,Nat.min_eq_left (by omega)]
 rw[Fbe,O4 hi,Fa3,<-h1,List.drop_left,Fa3,Mt hi]
theorem Ge{l:List (Int×Int)}{L:List AV}(hi:i<l.length)(x:Int×Int):0+i*2+(itC x).length<=((rws itC l).flatten++L).length:=by
 rw[Fad,ja Ip,Ip]
 omega
theorem QAt.set{l:List (Int×Int)}{L:List AV}(h:QAt F p b cap l L)(hi:i<l.length)(x:Int×Int):QAt (F.sO b (.cells (zu ((rws itC l).flatten++L) (0+i*2) (itC x)))) p b cap (l.set i x) L:=by
 rw[zy5 hi]
 exact⟨by rw[zi (Ne.symm h.ne),Faf];exact h.hp,zd _ _ _,h.ne,by rw[Faf];exact h.h1,by rw[Faf];exact h.h2,h.h3⟩
theorem QAt.cut{l:List (Int×Int)}{L:List AV}(h:QAt F p b cap l L){n:Nat}(hn:n<=l.length):QAt (F.sO p (.cells [.s (.slice (some ⟨b,0,none⟩) n cap)])) p b cap (l.take n) ((rws itC (l.drop n)).flatten++L):=by
 have e:(rws itC (l.take n)).flatten++((rws itC (l.drop n)).flatten++L)=(rws itC l).flatten++L:=by
  rw[<-Fa3,<-Mh,Fcu]
 have hl:(l.take n).length=n:=by rw[Fao];omega
 refine⟨by rw[zd,hl],by rw[zi h.ne,e];exact h.hb,h.ne,by rw[hl];have:=h.h1;omega,?_,h.h3⟩
 have:=h.h2
 rw[hl,Fad,ja Ip,Fdi]
 omega
end
section
variable {i:Nat}
def k8(v:Int)(k:Nat)(t:Nat):Int:=if t<k then v else 0
theorem zuj{n k m:Nat}{v:Int}(hk:m<=k)(hn:k+m<=n):zu (il n (k8 v k)) (0+k*1) ((List.drop (0+0*1) (il n (k8 v k))).take (m*1))=il n (k8 v (k+m)):=by
 have e:(List.drop (0+0*1) (il n (k8 v k))).take (m*1)=List.replicate m (int v):=by
  rw[show 0+0*1=0 from rfl,Fcc,Fdp]
  apply Fem
  ·rw[Fao,qx,Fbj];omega
  ·intro i h1 h2
   rw[Fbj]at h2
   rw[Fdt,List.getElem_replicate]
   simp only[il,Fcf,List.getElem_range]
   rw[k8,if_pos (by omega)]
 rw[e]
 unfold zu
 rw[Fbj,show 0+k*1=k by omega]
 apply Fck
 intro i
 by_cases h1:i<k
 ·rw[Fa3,Fam (by rw[Fao,qx];omega),Fb7 h1,Dr (by omega),Dr (by omega),k8,k8,if_pos h1,if_pos (by omega)]
 ·by_cases h2:i<k+m
  ·rw[Fa3,Fa1 (by rw[Fao,qx];omega),Fao,qx,Fam (by rw[Fbj];omega),Fca,if_pos (by omega),Dr (by omega),k8,if_pos h2]
  ·rw[Fa1 (by rw[Fad,Fao,qx,Fbj];omega),Fad,Fao,qx,Fbj,Fcg,show k+m+(i-(min k n+m))=i by omega]
   by_cases h3:i<n
   ·rw[Dr h3,Dr h3,k8,k8,if_neg h1,if_neg h2]
   ·rw[Fbn (by rw[qx];omega),Fbn (by rw[qx];omega)]
theorem sr(n:Nat)(v:Int):il n (k8 v n)=il n λ_=>v:=Gh λt ht=>if_pos ht
def Lv(g:Gnd)(t:Nat):AV:=.agg (il 8 (yc g t))
def Dx(g:Gnd)(t i:Nat)(j:Nat):Int:=if j<i then yc g t j else 0
theorem ye2(g:Gnd)(t:Nat):il 8 (Dx g t 8)=il 8 (yc g t):=Gh λj hj=>if_pos hj
theorem ye3(g:Gnd)(t:Nat)(hi:i<8):yc g t i=vg g ((t:Int)%g.W) ((t:Int)/g.W) (dirL.getD i (0,0)):=by
 unfold yc jc
 rw[Fa9,Faq,Fa9,Fab (show i<dirL.length from hi)]
 rfl
theorem ye1(g:Gnd)(t:Nat)(v:Int)(hv:v=yc g t i):setI (Dx g t i) i v=Dx g t (i+1):=funext λj=>by
 unfold setI Dx
 by_cases h:j=i
 ·subst h
  rw[if_pos rfl,if_pos (by omega),hv]
 ·rw[if_neg h]
  by_cases h2:j<i
  ·rw[if_pos h2,if_pos (by omega)]
  ·rw[if_neg h2,if_neg (by omega)]
def dirC:List AV:=(dirL.map H1).flatten
theorem yc3(hi:i<8):dirC.drop (i*2)=H1 (dirL.getD i (0,0))++dirC.drop (i*2+2):=by
 have h:i=0\/i=1\/i=2\/i=3\/i=4\/i=5\/i=6\/i=7:=by omega
 rcases h with rfl|rfl|rfl|rfl|rfl|rfl|rfl|rfl<;>rfl
theorem yc2(hi:i<8):(-1<=(dirL.getD i (0,0)).1/\(dirL.getD i (0,0)).1<=1)/\-1<=(dirL.getD i (0,0)).2/\(dirL.getD i (0,0)).2<=1:=by
 have h:i=0\/i=1\/i=2\/i=3\/i=4\/i=5\/i=6\/i=7:=by omega
 rcases h with rfl|rfl|rfl|rfl|rfl|rfl|rfl|rfl<;>decide
end
def Bc(g:Gnd)(ok:Nat->Bool)(c:Int)(t i:Nat):Nat->Nat->Int->Prop:=λa u k=>a=t/\∃w,i<=w/\w<8/\yc g t w=(u:Int)/\k=yv g ok c t w
theorem ci{E:Nat->Nat->Int->Prop}{n goal:Nat}{d:Nat->Int}{dn:Nat->Bool}{q q':List (Int×Int)}{cur:Int}{O:Nat->Nat->Int->Prop}(h:DJ E n goal d dn q cur O)(hp:q.Perm q'):DJ E n goal d dn q' cur O:=
 ⟨h.lab,h.gl,h.pre,h.rel,h.mono,λe he=>h.ent e (hp.mem_iff.2 he),λu hu hn=>hp.mem_iff.1 (h.wait u hu hn)⟩
section
variable {g:Gnd} {ok:Nat->Bool} {c:Int} {n goal:Nat} {d:Nat->Int} {dn:Nat->Bool} {q:List (Int×Int)} {cur:Int}
theorem zcv{t:Nat}(h:DJ (xm g ok c) n goal d dn q cur (λa _ _=>a=t)):DJ (xm g ok c) n goal d dn q cur (Bc g ok c t 0):=
 cj h λa u k ha hn hE=>by
  obtain⟨_,_,w,hw,h1,_,h2,_⟩:=hE
  subst ha
  exact absurd ⟨rfl,w,Fag _,hw,h1,h2⟩ hn
theorem zcw{t:Nat}(h:DJ (xm g ok c) n goal d dn q cur (Bc g ok c t 8)):DJ (xm g ok c) n goal d dn q cur Cu:=
 cj h λa u k ha hn hE=>by
  obtain⟨_,w,h1,h2,_⟩:=ha
  omega
theorem Sj{t i:Nat}(h:DJ (xm g ok c) n goal d dn q cur (Bc g ok c t i))(hp:∀u:Nat,yc g t i=u->0<yv g ok c t i->0<=d u/\d u<=d t+yv g ok c t i):DJ (xm g ok c) n goal d dn q cur (Bc g ok c t (i+1)):=
 cj h λa u k ha hn hE=>by
  obtain⟨rfl,w,h1,h2,h3,rfl⟩:=ha
  by_cases hw:w=i
  ·subst hw
   exact hp u h3 (Lm _ _ _ hE)
  ·exact absurd ⟨rfl,w,by omega,h2,h3,rfl⟩ hn
theorem ycr{O:Nat->Nat->Int->Prop}(h:DJ (xm g ok c) n goal d dn q cur O)(hgoal:ok goal=true){u:Nat}(hu:0<=d u):ok u=true:=by
 by_cases e:u=goal
 ·rw[e];exact hgoal
 ·obtain⟨t,k,_,_,hE,_⟩:=h.pre u e hu
  obtain⟨_,_,_,_,_,h1,_⟩:=hE
  exact h1
end
def W2:Option (Int×Int)->Int
 |none=>0
 |some x=>x.1
def Oh:Option (Int×Int)->Int
 |none=>0
 |some x=>x.2
def qz(S:Store)(b b2 n:Nat)(d:Nat->Int)(dn:Nat->Bool):Store:=(S.sO b (.cells (il n d))).sO b2 (.cells (bl n dn))
section
variable {S:Store} {b b2 n:Nat}
theorem tu(hb:b≠b2)(d:Nat->Int)(dn:Nat->Bool):(qz S b b2 n d dn).obj b=some (.cells (il n d)):=by
 unfold qz
 rw[zi hb,zd]
theorem ybm(d:Nat->Int)(dn:Nat->Bool):(qz S b b2 n d dn).obj b2=some (.cells (bl n dn)):=zd _ _ _
theorem ybl{i:Nat}{x:AObj}(hf:Fresh S b)(hf2:Fresh (S.sO b x) b2){y:AObj}(h:S.obj i=some y)(d:Nat->Int)(dn:Nat->Bool):(qz S b b2 n d dn).obj i=some y:=by
 have h1:i≠b:=λe=>by rw[e,hf.1]at h;cases h
 have h2:i≠b2:=λe=>by
  have:=hf2.1
  rw[<-e,zi h1,h]at this;cases this
 unfold qz
 rw[zi h2,zi h1]
 exact h
theorem tt(hb:b≠b2)(d d':Nat->Int)(dn:Nat->Bool):(qz S b b2 n d dn).sO b (.cells (il n d'))=qz S b b2 n d' dn:=by
 unfold qz
 rw[Ia hb,yp]
theorem ybk(d:Nat->Int)(dn dn':Nat->Bool):(qz S b b2 n d dn).sO b2 (.cells (bl n dn'))=qz S b b2 n d dn':=yp _ _ _ _
theorem fld_has{d:Nat->Int}{dn:Nat->Bool}{i:Nat}:(qz S b b2 n d dn).has i↔i=b2\/i=b\/S.has i:=by
 unfold qz
 rw[has_setObj_iff,has_setObj_iff]
theorem ybn{F:Store}{d d':Nat->Int}{dn dn':Nat->Bool}(h:zl F (qz S b b2 n d dn)):zl F (qz S b b2 n d' dn'):=λi h1 h2=>h i h1 (fld_has.2 (fld_has.1 h2))
theorem ybo(hf:Fresh S b){x:AObj}(hf2:Fresh (S.sO b x) b2){F:Store}(hb:b≠b2){d:Nat->Int}{dn:Nat->Bool}:(F.un (qz S b b2 n d dn)).Has (S.sO b (.cells (il n d))):=by
 have hn:(S.sO b (.cells (il n d))).obj b2=none:=by
  have:=hf2.1
  rw[zi (Ne.symm hb)]at this⊢
  exact this
 exact⟨λi y hi=>zg ((Fk hn).obj i y hi),λi y hi=>Gx hi⟩
end
theorem Gf(n:Nat)(d:Nat->Int)(u:Nat)(v:Int)(hu:u<n):zu (il n d) (0+u*1) [int v]=il n (zx d u v):=by
 rw[show 0+u*1=u by omega,Gg hu]
 rfl
theorem dq(n:Nat)(d:Nat->Bool)(u:Nat)(v:Bool)(hu:u<n):zu (bl n d) (0+u*1) [bool v]=bl n (zx d u v):=by
 rw[show 0+u*1=u by omega]
 have:=Dw (f:=d) hu (zx d u v) (λs hs=>xf hs)
 rw[j1]at this
 exact this
theorem P4{n:Nat}{f:Nat->Int}{t:Nat}(h:t<n):((il n f).drop (t*1)).head?=some (int (f t)):=by
 have:=jx (f:=f) h
 rwa [Fbe]at this
theorem zwx(n:Nat)(dn:Nat->Bool):Di n dn<=n:=by
 have:=Ow (f:=λt=>if dn t=true then 0 else 1) (g:=λ_=>1) n (λt _=>by split<;>omega)
 rw[Ox]at this
 unfold Di
 omega
def vi(g:Gnd)(ok:Nat->Bool)(c:Int)(d:Nat->Int)(t w:Nat):Prop:=0<yv g ok c t w/\0<=d (yc g t w).toNat/\yv g ok c t w+d (yc g t w).toNat=d t
theorem ybz{p:Nat->Bool}{n j:Nat}(hj:j<n)(hp:p j=true)(hn:∀w,w<j->p w=false):(List.range n).find? p=some j:=by
 rw[List.find?_range_eq_some]
 exact⟨hp,Fbc.2 hj,λw hw=>by rw[hn w hw];rfl⟩
theorem yby{p:Nat->Bool}{n:Nat}(hn:∀w,w<n->p w=false):(List.range n).find? p=none:=by
 rw[Fcl]
 intro w hw
 rw[hn w (Fbc.1 hw)]
 decide
section
variable {g:Gnd} {ok:Nat->Bool} {c:Int} {d:Nat->Int} {t:Nat}
theorem fc(h:d t<=0):qr g ok c d t=-1:=by
 unfold qr
 rw[if_pos h]
theorem ez(h:¬d t<=0){j:Nat}(hj:j<8)(hp:vi g ok c d t j)(hn:∀w,w<j->¬vi g ok c d t w):qr g ok c d t=(j:Int):=by
 unfold qr
 rw[if_neg h,ybz hj (by exact decide_eq_true hp) (λw hw=>by exact decide_eq_false (hn w hw))]
theorem fa(h:¬d t<=0)(hn:∀w,w<8->¬vi g ok c d t w):qr g ok c d t=-1:=by
 unfold qr
 rw[if_neg h,yby (λw hw=>by exact decide_eq_false (hn w hw))]
end
theorem zcx(g:Gnd)(ok:Nat->Bool)(c:Int)(d:Nat->Int)(t:Nat):qr g ok c d t=-1\/∃j:Nat,j<8/\qr g ok c d t=(j:Int)/\vi g ok c d t j:=by
 unfold qr
 split
 ·exact .inl rfl
 ·cases h:(List.range 8).find? λway=>decide (0<yv g ok c t way/\0<=d (yc g t way).toNat/\yv g ok c t way+d (yc g t way).toNat=d t)with
  |none=>exact .inl rfl
  |some j=>
   have h1:=Fc9 h
   have h2:=Feu h
   exact .inr ⟨j,Fbc.1 h1,rfl,by simp only[decide_eq_true_eq]at h2;exact h2⟩
noncomputable def Ak(g:Gnd)(ok:Nat->Bool)(c:Int)(d:Nat->Int)(i t:Nat):Int:=if t<i then qr g ok c d t else -1
theorem ew{g:Gnd}{ok:Nat->Bool}{c:Int}{d:Nat->Int}{i:Nat}:Ak g ok c d (i+1)=zx (Ak g ok c d i) i (qr g ok c d i):=funext λt=>by
 unfold Ak zx
 dsimp only
 by_cases h:t=i
 ·subst h;rw[if_pos (by omega),if_pos rfl]
 ·rw[if_neg h]
  by_cases h2:t<i
  ·rw[if_pos h2,if_pos (by omega)]
  ·rw[if_neg h2,if_neg (by omega)]
theorem et{g:Gnd}{ok:Nat->Bool}{c:Int}{d:Nat->Int}{i:Nat}(h:qr g ok c d i=-1):Ak g ok c d (i+1)=Ak g ok c d i:=by
 rw[ew,h]
 funext t
 unfold zx Ak
 by_cases h:t=i
 ·subst h;rw[if_pos rfl,if_neg (by omega)]
 ·rw[if_neg h]
theorem zcr(g:Gnd)(ok:Nat->Bool)(c:Int)(d:Nat->Int):Ak g ok c d 0=λ_=>-1:=funext λt=>if_neg (Fa2 t)
theorem zcs(g:Gnd)(ok:Nat->Bool)(c:Int)(d:Nat->Int)(n:Nat):il n (Ak g ok c d n)=il n (qr g ok c d):=Gh λt ht=>if_pos ht
def vp(S:Store)(b b2 n:Nat)(d f:Nat->Int):Store:=(S.sO b (.cells (il n d))).sO b2 (.cells (il n f))
section
variable {S:Store} {b b2 n:Nat}
theorem zdu(hb:b≠b2)(d f:Nat->Int):(vp S b b2 n d f).obj b=some (.cells (il n d)):=by
 unfold vp
 rw[zi hb,zd]
theorem zdt(d f:Nat->Int):(vp S b b2 n d f).obj b2=some (.cells (il n f)):=zd _ _ _
theorem zdr{i:Nat}{x:AObj}(hf:Fresh S b)(hf2:Fresh (S.sO b x) b2){y:AObj}(h:S.obj i=some y)(d f:Nat->Int):(vp S b b2 n d f).obj i=some y:=by
 have h1:i≠b:=λe=>by rw[e,hf.1]at h;cases h
 have h2:i≠b2:=λe=>by
  have:=hf2.1
  rw[<-e,zi h1,h]at this;cases this
 unfold vp
 rw[zi h2,zi h1]
 exact h
theorem zdq(d f f':Nat->Int):(vp S b b2 n d f).sO b2 (.cells (il n f'))=vp S b b2 n d f':=yp _ _ _ _
theorem zds{x:AObj}(hb:b≠b2)(hf2:Fresh (S.sO b x) b2):Fresh S b2:=by
 have:=hf2
 unfold Fresh at this⊢
 rw[zi (Ne.symm hb)]at this
 exact this
theorem zdv(hf:Fresh S b)(hb:b≠b2)(d f:Nat->Int):(vp S b b2 n d f).Has (S.sO b2 (.cells (il n f))):=by
 unfold vp
 rw[Ia (Ne.symm hb)]
 refine Fk ?_
 rw[zi hb]
 exact hf.1
end
theorem zxm(g:Gnd)(t:Nat):jc g t=(List.range 8).map (yc g t):=by
 apply Fem
 ·rw[Ik,Fa4,Fe5]
 ·intro i h1 h2
  rw[Ik]at h1
  simp only[Fcf,List.getElem_range]
  unfold yc
  rw[Fa9,Fab (by rw[Ik];exact h1)]
  rfl
theorem zxo(g:Gnd)(t:Nat)(x:Int):(jc g t).contains x=(List.range 8).any λj=>yc g t j==x:=by
 rw[zxm,List.contains_eq_any_beq,List.any_map]
 congr 1
 funext j
 show(x==yc g t j)=_
 rw[Fbq,beq_iff_eq,beq_iff_eq]
 exact eq_comm
theorem yfu{p:Nat->Bool}{n k:Nat}(hk:k<n)(hp:p k=true):(List.range n).any p=true:=Fd2.2 ⟨k,Fbc.2 hk,hp⟩
theorem yft{p:Nat->Bool}{n:Nat}(hp:∀k,k<n->p k=false):(List.range n).any p=false:=by
 rw[Fdc]
 intro k hk
 rw[hp k (Fbc.1 hk)]
 decide
end Go.V
