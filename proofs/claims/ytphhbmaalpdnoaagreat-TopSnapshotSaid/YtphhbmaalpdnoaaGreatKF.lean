/- Ground of laws of throngtop: contracts and plain lemmas; no condition beyond the row's own. -/
import Derived.Test.YtphhbmaalpdnoaaGreatKE
set_option linter.unusedSimpArgs false
set_option linter.unusedVariables false
set_option linter.defProp false
namespace Go.V
section
variable {w:Wld} {j:Nat}
theorem zgk(hr:yl w.U){P id:Int}(h:j2 w P id=0)(hj:j<w.U.length)(hid:w.U[j].id=id):w.U[j].owner=P/\w.U[j].inn=0:=by obtain⟨i,hi,hf,e,_,e2,e3⟩:=I6 h;have:=Pw hr hj hid;grind
theorem Oo{l:List Int}{g:Unt->Unt}{U:List Unt}(hj:j<U.length):(qs l g U)[j]'(by rw[Dc];exact hj)=if U[j].id∈l then g U[j]else U[j]:=Sj hj
theorem yji{c:Cmd}(hm:z7 w)(h:stE w c=0):z7 (stW w c):=by
 have hz:=Lp (show allE (j2 w c.P) c.U=0 from h);have hr:=hm.1.2.1;refine iz hm (U:=qs c.U Gf w.U) (Dc _ _ _) (λj hj=>?_) (λj hj h0=>?_) (λj hj=>?_)
 ·rw[Oo hj];split<;>rfl
 ·rw[Oo hj];split
  ·rename_i e;exact absurd (zgk hr (hz _ e) hj rfl).2 h0
  ·rfl
 ·rw[Oo hj];have hu:=(hm.1.2.2 _ (Faa hj)).1;split
  ·exact⟨hu.1,⟨.inl rfl,.inl rfl,θ9⟩,⟨ψm,⟨λe=>absurd (show(0:Int)=1 from e) ψ,λe=>absurd rfl e⟩⟩,λ_=>⟨rfl,rfl⟩⟩
  ·exact hu
theorem yi0{c:Cmd}(hg:zt w.G)(ht:0<=c.T/\c.T<w.G.W*w.G.H)(k:Nat)(kd:Int):0<=Di w c k kd/\Di w c k kd<w.G.W*w.G.H:=by
 have ha:=qm hg;by_cases h:k<(qr w kd c.T c.U.length).length
 ·rw[zb1 h];have:=(ez (Faa h)).1;omega
 ·rw[zb2 h];exact ht
theorem zbz{c:Cmd}(hm:z7 w)(ht:0<=c.T/\c.T<w.G.W*w.G.H)(hz:∀a∈c.U,j2 w c.P a=0):∀k,k<=c.U.length->∀j,(hj:j<w.U.length)->(w.U[j].inn≠0->(mvL w c k)[j]'(by rw[Cx];exact hj)=w.U[j])/\jx w ((mvL w c k)[j]'(by rw[Cx];exact hj))
 |0,_,j,hj=>⟨λ_=>rfl,(hm.1.2.2 _ (Faa hj)).1⟩
 |k+1,hk,j,hj=>by
  have ih:=zbz hm ht hz k θ j hj;have hlt:k<c.U.length:=θ;have hr:=hm.1.2.1;obtain⟨i,hi,hf,hid,_,how,hin⟩:=I6 (hz c.U[k] (Faa hlt));have hgo:=yi0 hm.1.1.2.1.1 ht k w.U[i].kind;have key:∀L:List Unt,(hL:j<L.length)->L=mvL w c (k+1)->(w.U[j].inn≠0->L[j]=w.U[j])/\jx w L[j]:=λL hL e=>by
   rw[zby hlt hf hi]at e;subst e;rw[Fcr];split
   ·rename_i e3;subst e3;have hu:=(hm.1.2.2 _ (Faa hi)).1;refine⟨λh0=>absurd hin h0,hu.1,⟨.inr hgo,.inl rfl,θ9⟩,⟨by show(0:Int)<=1/\(1:Int)<=4;decide,⟨λ_=>?_,λ_=>rfl⟩⟩,λe=>?_⟩
    ·show Di w c k w.U[i].kind≠-1;omega
    trivial
   ·exact ih
  grind
theorem yjl{c:Cmd}(hm:z7 w)(h:mvE w c=0):z7 (mvW w c):=by
 have ht:0<=c.T/\c.T<w.G.W*w.G.H:=Classical.byContradiction λhh=>by rw[zb4 hh]at h;cases h
 rw[zb3 ht]at h;have hz:=Lp h;have key:=zbz hm ht hz c.U.length (Fak _);exact iz hm (U:=mvL w c c.U.length) (Cx _ _ _) (λj hj=>V2 w c _ j hj) (λj hj=>(key j hj).1) (λj hj=>(key j hj).2)
theorem yl0{U:List Unt}(hr:yl U):(U.map (·.id)).Nodup:=by rw[List.Nodup,Fce];intro a b ha hb hab;rw[Fap]at ha hb;rw[Fbw,Fbw];have:=Gg hr hab hb;omega
theorem yqh{U:List Unt}(hr:yl U)(l:List Int):(U.filter λu=>decide (u.id∈l)).length<=l.length:=by have h1:((U.filter λu=>decide (u.id∈l)).map (·.id)).Nodup:=(yl0 hr).sublist ((List.filter_sublist).map _);have:=Fbp (l₂:=l) h1 (λid hid=>δ);rw[Fap]at this;exact this
theorem zc5(l:List Int)(n:Int)(M:Int):∀U:List Unt,(z8 (qs l (ldU n) U) M).length<=(z8 U M).length+(if M=n then(U.filter λu=>decide (u.id∈l)).length else 0)
 |[]=>by simp[z8,qs]
 |a::U=>by
  have ih:=zc5 l n M U;unfold z8 qs at ih⊢;simp only[Fap]at ih⊢;rw[Fb7,Fdc,Fdc,Fdc];by_cases e:a.id∈l
  ·simp only[if_pos e,decide_eq_true e,if_true,Fbd];by_cases eM:M=n
   ·grind
   ·simp only[if_neg eM]at ih⊢;have:((ldU n a).inn==M)=false:=by show(n==M)=false;simpa using λe=>eM e.symm
    grind
  grind
theorem yjm{c:Cmd}(hm:z7 w)(hN:1<=c.N)(h:ldE w c=0):z7 (ldW w c):=by
 unfold ldE at h;have c1:Aj w c.P c.N=0:=Classical.byContradiction λhh=>δ;rw[if_pos c1]at h;have c2:allE (ldA w c.P c.N) c.U=0:=Classical.byContradiction λhh=>δ;rw[if_pos c2]at h;have c3:¬jh (uAt w c.N).kind<((z8 w.U c.N).length:Int)+(c.U.length:Int):=λhh=>ψa;obtain⟨hask,hroom⟩:=oi c1;obtain⟨ix,hix,hfx,hidx,hux,hox,hinx⟩:=I6 hask;rw[hux]at hroom c3;have hz:=Lp c2;obtain⟨⟨hh,hr,hu⟩,hcc,hd⟩:=hm
 -- who is loaded is on the field,of the same player,and carries nobody
 have ld:∀j,(hj:j<w.U.length)->w.U[j].id∈c.U->w.U[j].owner=c.P/\w.U[j].inn=0/\jh w.U[j].kind=0:=λj hj hid=>by obtain⟨a1,a2⟩:=zcs (hz _ hid);obtain⟨b1,b2⟩:=zgk hr a1 hj rfl;refine⟨b1,b2,?_⟩;have e:uAt w w.U[j].id=w.U[j]:=(R2 (Pw hr hj rfl)).2.2;rw[e]at a2;unfold Ms at a2;have:¬0<jh w.U[j].kind:=λhh=>δ;have:=Mv w.U[j].kind;omega
 have hxl:w.U[ix].id∉c.U:=λe=>hroom (ld ix hix e).2.2;have hl:(qs c.U (ldU c.N) w.U).length=w.U.length:=Dc _ _ _;have back:∀v∈qs c.U (ldU c.N) w.U,∃j,∃hj:j<w.U.length,(w.U[j].id∈c.U/\v=ldU c.N w.U[j])\/(w.U[j].id∉c.U/\v=w.U[j]):=λv hv=>by obtain⟨j,hj,rfl⟩:=Faj hv;rw[hl]at hj;refine⟨j,hj,?_⟩;rw[Oo hj];grind
 have stay:∀j,(hj:j<w.U.length)->w.U[j].id∉c.U->w.U[j]∈qs c.U (ldU c.N) w.U:=λj hj e=>by
  have:(qs c.U (ldU c.N) w.U)[j]'(by rw[hl];exact hj)=w.U[j]:=by rw[Oo hj,if_neg e]
  grind
 have cnt:=λM=>zc5 c.U c.N M w.U;have cin:=yqh hr c.U;have cN:((z8 (qs c.U (ldU c.N) w.U) c.N).length:Int)<=jh w.U[ix].kind:=δ;refine⟨⟨⟨hh.1,⟨hh.2.1.1,hh.2.1.2.1,by show(qs c.U (ldU c.N) w.U).length<=_;rw[hl];exact hh.2.1.2.2⟩,hh.2.2⟩,fa (g:=ldU c.N) (λ_=>rfl) hr,λv hv=>?_⟩,λv hv h0=>?_,λv hv h0=>?_⟩
 ·obtain⟨j,hj,⟨e,rfl⟩|⟨e,rfl⟩⟩:=back v hv
  ·have hu0:=hu _ (Faa hj);exact⟨⟨hu0.1.1,⟨.inl rfl,.inl rfl,θ9⟩,⟨ψm,⟨λe=>absurd (show(0:Int)=1 from e) ψ,λe=>absurd rfl e⟩⟩,λ_=>⟨rfl,rfl⟩⟩,hu0.2⟩
  ·exact hu _ (Faa hj)
 ·obtain⟨j,hj,⟨e,rfl⟩|⟨e,rfl⟩⟩:=back v hv
  ·have h0:c.N=0:=h0;omega
  ·refine nw (w:=w) rfl rfl (λx hx hx0 hxi=>?_) (hcc _ (Faa hj) h0);obtain⟨k,hk,⟨e2,rfl⟩|⟨e2,rfl⟩⟩:=back x hx
   ·have hx0:c.N=0:=hx0;omega
   grind
 ·obtain⟨j,hj,⟨e,rfl⟩|⟨e,rfl⟩⟩:=back v hv
  ·obtain⟨l1,l2,l3⟩:=ld j hj e;refine⟨w.U[ix],stay ix hix hxl,hidx,⟨hinx,?_⟩,cN,l3,rfl,rfl,rfl⟩;show w.U[ix].owner=w.U[j].owner;rw[hox,l1]
  ·obtain⟨x,hx,g1,g2,g3,g4⟩:=hd _ (Faa hj) h0;obtain⟨k,hk,rfl⟩:=Faj hx;have hne:0<(z8 w.U w.U[j].inn).length:=List.length_pos_iff.2 (List.ne_nil_of_mem (yln (Faa hj)));have hkl:w.U[k].id∉c.U:=λe2=>by grind
   refine⟨w.U[k],stay k hk hkl,g1,g2,?_,g4⟩;show((z8 (qs c.U (ldU c.N) w.U) w.U[j].inn).length:Int)<=_;by_cases eN:w.U[j].inn=c.N
   ·grind[Ic]
   grind
theorem yjq{c:Cmd}(h:doE aE w c=0):z7 (aW w c):=by
 obtain⟨hm,hc,hp,he⟩:=zev h;rcases li hc with k|k|k|k|k|k|k
 ·grind[a1,yjj]
 ·grind[a2,yjl]
 ·grind[a3,yji]
 ·grind[a4,yjr]
 ·rw[(a5 k).2];exact yjp hm
 ·rw[(a6 k).1]at he;rw[(a6 k).2];exact yjm hm ((Cmd.ok6 k).1 hc.1).2.1 he
 ·rw[(a7 k).2];unfold ulW;cases hu:unl c.T (z8 w.U c.N) w with
  |none=>exact hm
  |some x=>exact zcd _ _ _ hm hu
end
section
variable {w:Wld}
theorem za8(h:playW w)(c:Cmd):playW (doW aE aW w c):=by
 by_cases he:doE aE w c=0
 ·rw[zeu he];exact⟨yjq he,ytd h.2 he⟩
 ·rw[m9 he];exact h
noncomputable def kl(w:Wld):List Cmd->Wld
 |[]=>w
 |c::l=>kl (doW aE aW w c) l
noncomputable def ww(w:Wld):List Cmd->List Int
 |[]=>[]
 |c::l=>doE aE w c::ww (doW aE aW w c) l
theorem zfe:∀(l:List Cmd) (w:Wld) (m:List Cmd),kl w (l++m)=kl (kl w l) m/\ww w (l++m)=ww w l++ww (kl w l) m
 |[],_,_=>⟨rfl,rfl⟩
 |c::l,w,m=>by obtain⟨h1,h2⟩:=zfe l (doW aE aW w c) m;exact⟨h1,by show _::ww _ (l++m)=_;rw[h2];rfl⟩
theorem nt:∀(l:List Cmd) (w:Wld),(ww w l).length=l.length
 |[],_=>rfl
 |c::l,w=>by show(ww _ l).length+1=_;rw[nt l];rfl
theorem yqn{l:List Cmd}{i:Nat}(hi:i<l.length):kl w (l.take (i+1))=doW aE aW (kl w (l.take i)) l[i]/\ww w (l.take (i+1))=ww w (l.take i)++[doE aE (kl w (l.take i)) l[i]]:=by rw[Fab hi];obtain⟨h1,h2⟩:=zfe (l.take i) w [l[i]];exact⟨h1,h2⟩
theorem Vo:∀(l:List Cmd) {w:Wld},playW w->playW (kl w l)
 |[],_,h=>h
 |c::l,w,h=>Vo l (za8 h c)
theorem ytc(c:Cmd)(hr:yl w.U):(aW w c).tick=w.tick:=by
 unfold aW;repeat' split
 ·rfl
 ·rfl
 ·rfl
 ·rfl
 ·exact(ypg w c).1
 ·rfl
 ·exact(ru hr).1
theorem ypk(c:Cmd)(hr:yl w.U):(doW aE aW w c).tick=w.tick:=by
 unfold doW;split
 ·exact ytc c hr
 ·rfl
theorem nr:∀(l:List Cmd) {w:Wld},playW w->(kl w l).tick=w.tick
 |[],_,_=>rfl
 |c::l,w,h=>(nr l (za8 h c)).trans (ypk c h.1.1.2.1)
theorem r9(w:Wld)(u:Unt)(v:Vc):(Al w u v).tick=w.tick:=by unfold Al;split<;>rfl
theorem tb(w:Wld)(u:Unt):(Dw w u).tick=w.tick:=by
 unfold Dw;split
 ·exact r9 _ _ _
 ·split<;>rfl
theorem ziw(w:Wld)(u:Unt):(Bq w u).tick=w.tick:=by
 unfold Bq;split
 ·exact r9 _ _ _
 ·unfold D7;split
  ·rfl
  ·split
   ·split
    ·rfl
    ·exact tb _ _
   ·exact tb _ _
theorem Pq(w:Wld):∀i,(goN w i).tick=w.tick
 |0=>rfl
 |i+1=>by
  unfold goN;split
  ·split
   ·exact(ziw _ _).trans (Pq w i)
   ·exact Pq w i
  ·exact Pq w i
noncomputable def ed(w:Wld):Wld:={kr w with tick:=(kr w).tick+1}
theorem yhb(h:playW w)(ht:w.tick<1099511627776):playW (ed w):=by obtain⟨⟨⟨⟨hh,hu⟩,hc,hd⟩,hn⟩,_⟩:=yst h;have e:(kr w).tick=w.tick:=Pq w _;have h1:=hh.1.1;exact⟨⟨⟨⟨⟨⟨by show 0<=(kr w).tick+1;omega,by show(kr w).tick+1<=_;omega⟩,hh.1.2⟩,hh.2⟩,hu⟩,hc,hd⟩,hn⟩
noncomputable def Fc(w:Wld)(l:List Cmd):Wld:=ed (kl w l)
theorem za7(h:playW w)(ht:w.tick<1099511627776)(l:List Cmd):playW (Fc w l):=
 yhb (Vo l h) (by rw[nr l h];exact ht)
end
structure Ask25 where
 S:Scr
 room:Int
 n:Int
def Ns(a:Ask25):List AV:=fe a.S++[int a.room,int a.n]
end Go.V
