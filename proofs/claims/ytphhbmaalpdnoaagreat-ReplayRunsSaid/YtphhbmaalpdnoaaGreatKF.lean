/- Lemmas of thronglaw29; no conditions. -/
import Derived.Test.YtphhbmaalpdnoaaGreatKE
set_option linter.unusedSimpArgs false
set_option linter.unusedVariables false
set_option linter.defProp false
open List renaming length→Γ
open Option renaming some→Δ,none→Θ
namespace Go.V
section
variable {w:Wld} {j:Nat}
def zh4(b:yw w.U){P id:Int}(h:xu w P id=0)(c:j<Γ w.U)(a:w.U[j].id=id):w.U[j].owner=P/\w.U[j].inn=0:=by obtain⟨i,d,f,e,_,k,g⟩:=C8 h;have:=Mg b c a;grind
theorem Pn{l:List Int}{g:Unt->Unt}{U:List Unt}(a:j<Γ U):(y9 l g U)[j]'(by rw[wy];exact a)=if U[j].id∈l then g U[j]else U[j]:=Nf a
theorem yma{c:Cmd}(b:yd w)(h:stE w c=0):yd (stW w c):=by
 have f:=H0 (show jy (xu w c.P) c.U=0 from h);have g:=b.1.2.1;refine ml b (U:=y9 c.U kj w.U) (wy _ _ _) (λj a=>?_) (λj a i=>?_) (λj a=>?_)
 .rw[Pn a];split<;>rfl
 .rw[Pn a];split
  .rename_i e;exact absurd (zh4 g (f _ e) a rfl).2 i
  .rfl
 .rw[Pn a];have d:=(b.1.2.2 _ (Faa a)).1;split
  .exact⟨d.1,⟨.inl rfl,.inl rfl,ψh⟩,⟨ψx,⟨λe=>absurd (show(0:Int)=1 from e) ψ,λe=>absurd rfl e⟩⟩,λ_=>⟨rfl,rfl⟩⟩
  .exact d
def ylw{c:Cmd}(d:zt w.G)(b:0<=c.T/\c.T<w.G.W*w.G.H)(k:Nat)(a:Int):0<=Ao w c k a/\Ao w c k a<w.G.W*w.G.H:=by
 have e:=qg d;by_cases h:k<(qj w a c.T (Γ c.U)).length
 .rw[l6 h];have:=(Vr (Faa h)).1;omega
 .rw[l7 h];exact b
def zdg{c:Cmd}(d:yd w)(n:0<=c.T/\c.T<w.G.W*w.G.H)(l:∀a∈c.U,xu w c.P a=0):∀k,k<=Γ c.U->∀j,(b:j<Γ w.U)->(w.U[j].inn≠0->(mvL w c k)[j]'(by rw[Bc];exact b)=w.U[j])/\k9 w ((mvL w c k)[j]'(by rw[Bc];exact b))
 |0,_,j,b=>⟨λ_=>rfl,(d.1.2.2 _ (Faa b)).1⟩
 |k+1,D,j,b=>by
  have p:=zdg d n l k Z j b;have f:k<Γ c.U:=Z;have C:=d.1.2.1;obtain⟨i,o,y,v,_,u,g⟩:=C8 (l c.U[k] (Faa f));have h:=ylw d.1.1.2.1.1 n k w.U[i].kind;have key:∀L:List Unt,(z:j<Γ L)->L=mvL w c (k+1)->(w.U[j].inn≠0->L[j]=w.U[j])/\k9 w L[j]:=λL z e=>by
   rw[l5 f y o]at e;subst e;rw[Fc9];split
   .rename_i B;subst B;have t:=(d.1.2.2 _ (Faa o)).1;refine⟨λA=>absurd g A,t.1,⟨.inr h,.inl rfl,ψh⟩,⟨by show(0:Int)<=1/\(1:Int)<=4;decide,⟨λ_=>?_,λ_=>rfl⟩⟩,λe=>?_⟩
    .show Ao w c k w.U[i].kind≠-1;omega
    trivial
   .exact p
  grind
theorem yme{c:Cmd}(d:yd w)(h:mvE w c=0):yd (mvW w c):=by
 have b:0<=c.T/\c.T<w.G.W*w.G.H:=Classical.byContradiction λf=>by rw[l9 f]at h;cases h
 rw[l8 b]at h;have e:=H0 h;have key:=zdg d b e (Γ c.U) (Fai _);exact ml d (U:=mvL w c (Γ c.U)) (Bc _ _ _) (λj a=>Rm w c _ j a) (λj a=>(key j a).1) (λj a=>(key j a).2)
def yn2{U:List Unt}(e:yw U):(U.map (·.id)).Nodup:=by rw[List.Nodup,Fcq];intro a b f d c;rw[Fas]at f d;rw[Fbj,Fbj];have:=Hd e c d;omega
def ysr{U:List Unt}(a:yw U)(l:List Int):(U.filter λu=>decide (u.id∈l)).length<=Γ l:=by have c:((U.filter λu=>decide (u.id∈l)).map (·.id)).Nodup:=(yn2 a).sublist ((List.filter_sublist).map _);have:=Fbs (l₂:=l) c (λid b=>δ);rw[Fas]at this;exact this
def zej(l:List Int)(n:Int)(M:Int):∀U:List Unt,(z6 (y9 l (ldU n) U) M).length<=(z6 U M).length+(if M=n then(U.filter λu=>decide (u.id∈l)).length else 0)
 |[]=>by simp[z6,y9]
 |a::U=>by
  have b:=zej l n M U;unfold z6 y9 at b⊢;simp only[Fas]at b⊢;rw[Fb5,Fdm,Fdm,Fdm];by_cases e:a.id∈l
  .simp only[if_pos e,decide_eq_true e,if_true,Fbb];by_cases eM:M=n
   .grind
   .simp only[if_neg eM]at b⊢;have:((ldU n a).inn==M)=false:=by show(n==M)=false;simpa using λe=>eM e.symm
    grind
  grind
def ymf{c:Cmd}(hm:yd w)(hN:1<=c.N)(h:ldE w c=0):yd (ldW w c):=by
 unfold ldE at h;have R:wd w c.P c.N=0:=Classical.byContradiction λhh=>δ;rw[if_pos R]at h;have Q:jy (ldA w c.P c.N) c.U=0:=Classical.byContradiction λhh=>δ;rw[if_pos Q]at h;have c3:¬j6 (uAt w c.N).kind<((z6 w.U c.N).length:Int)+(Γ c.U:Int):=λhh=>ψi;obtain⟨t,b⟩:=Sg R;obtain⟨f,n,ε,p,B,C,o⟩:=C8 t;rw[B]at b c3;have V:=H0 Q;obtain⟨⟨hh,y,I⟩,H,hd⟩:=hm
 -- who is loaded is on the field,of the same player,and carries nobody
 have ld:∀j,(a:j<Γ w.U)->w.U[j].id∈c.U->w.U[j].owner=c.P/\w.U[j].inn=0/\j6 w.U[j].kind=0:=λj a G=>by obtain⟨a1,a2⟩:=my (V _ G);obtain⟨b1,b2⟩:=zh4 y a1 a rfl;refine⟨b1,b2,?_⟩;have e:uAt w w.U[j].id=w.U[j]:=(O9 (Mg y a rfl)).2.2;rw[e]at a2;unfold Bd at a2;have:¬0<j6 w.U[j].kind:=λhh=>δ;have:=Mc w.U[j].kind;omega
 have z:w.U[f].id∉c.U:=λe=>b (ld f n e).2.2;have D:(y9 c.U (ldU c.N) w.U).length=Γ w.U:=wy _ _ _;have back:∀v∈y9 c.U (ldU c.N) w.U,∃j,∃a:j<Γ w.U,(w.U[j].id∈c.U/\v=ldU c.N w.U[j])\/(w.U[j].id∉c.U/\v=w.U[j]):=λv d=>by obtain⟨j,a,rfl⟩:=Faj d;rw[D]at a;refine⟨j,a,?_⟩;rw[Pn a];grind
 have stay:∀j,(a:j<Γ w.U)->w.U[j].id∉c.U->w.U[j]∈y9 c.U (ldU c.N) w.U:=λj a e=>by
  have:(y9 c.U (ldU c.N) w.U)[j]'(by rw[D];exact a)=w.U[j]:=by rw[Pn a,if_neg e]
  grind
 have cnt:=λM=>zej c.U c.N M w.U;have cin:=ysr y c.U;have cN:((z6 (y9 c.U (ldU c.N) w.U) c.N).length:Int)<=j6 w.U[f].kind:=δ;refine⟨⟨⟨hh.1,⟨hh.2.1.1,hh.2.1.2.1,by show(y9 c.U (ldU c.N) w.U).length<=_;rw[D];exact hh.2.1.2.2⟩,hh.2.2⟩,gp (g:=ldU c.N) (λ_=>rfl) y,λv d=>?_⟩,λv d u=>?_,λv d u=>?_⟩
 .obtain⟨j,a,⟨e,rfl⟩|⟨e,rfl⟩⟩:=back v d
  .have l:=I _ (Faa a);exact⟨⟨l.1.1,⟨.inl rfl,.inl rfl,ψh⟩,⟨ψx,⟨λe=>absurd (show(0:Int)=1 from e) ψ,λe=>absurd rfl e⟩⟩,λ_=>⟨rfl,rfl⟩⟩,l.2⟩
  .exact I _ (Faa a)
 .obtain⟨j,a,⟨e,rfl⟩|⟨e,rfl⟩⟩:=back v d
  .have u:c.N=0:=u;omega
  .refine ph (w:=w) rfl rfl (λx A i W=>?_) (H _ (Faa a) u);obtain⟨k,K,⟨L,rfl⟩|⟨L,rfl⟩⟩:=back x A
   .have i:c.N=0:=i;omega
   grind
 .obtain⟨j,a,⟨e,rfl⟩|⟨e,rfl⟩⟩:=back v d
  .obtain⟨T,l2,S⟩:=ld j a e;refine⟨w.U[f],stay f n z,p,⟨o,?_⟩,cN,S,rfl,rfl,rfl⟩;show w.U[f].owner=w.U[j].owner;rw[C,T]
  .obtain⟨x,A,g1,g2,g3,g4⟩:=hd _ (Faa a) u;obtain⟨k,K,rfl⟩:=Faj A;have X:0<(z6 w.U w.U[j].inn).length:=List.length_pos_iff.2 (List.ne_nil_of_mem (ynx (Faa a)));have E:w.U[k].id∉c.U:=λL=>by grind
   refine⟨w.U[k],stay k K E,g1,g2,?_,g4⟩;show((z6 (y9 c.U (ldU c.N) w.U) w.U[j].inn).length:Int)<=_;by_cases eN:w.U[j].inn=c.N
   .grind[Ke]
   grind
def ymj{c:Cmd}(h:doE aE w c=0):yd (aW w c):=by
 obtain⟨a,d,f,b⟩:=zgi h;rcases W3 d with k|k|k|k|k|k|k
 .grind[a1,ymc]
 .grind[a2,yme]
 .grind[a3,yma]
 .grind[a4,ymk]
 .rw[(a5 k).2];exact ymi a
 .rw[(a6 k).1]at b;rw[(a6 k).2];exact ymf a ((Cmd.ok6 k).1 d.1).2.1 b
 .rw[(a7 k).2];unfold ulW;cases e:unl c.T (z6 w.U c.N) w with
  |none=>exact a
  |some x=>exact zdp _ _ _ a e
end
section
variable {w:Wld}
def zci(h:playW w)(c:Cmd):playW (doW aE aW w c):=by
 by_cases a:doE aE w c=0
 .rw[ov a];exact⟨ymj a,yvp h.2 a⟩
 .rw[Sa a];exact h
noncomputable def j9(w:Wld):List Cmd->Wld
 |[]=>w
 |c::l=>j9 (doW aE aW w c) l
noncomputable def wn(w:Wld):List Cmd->List Int
 |[]=>[]
 |c::l=>doE aE w c::wn (doW aE aW w c) l
def zgx:∀(l:List Cmd) (w:Wld) (m:List Cmd),j9 w (l++m)=j9 (j9 w l) m/\wn w (l++m)=wn w l++wn (j9 w l) m
 |[],_,_=>⟨rfl,rfl⟩
 |c::l,w,m=>by obtain⟨b,a⟩:=zgx l (doW aE aW w c) m;exact⟨b,by show _::wn _ (l++m)=_;rw[a];rfl⟩
theorem pe:∀(l:List Cmd) (w:Wld),(wn w l).length=Γ l
 |[],_=>rfl
 |c::l,w=>by show(wn _ l).length+1=_;rw[pe l];rfl
def zgw{l:List Cmd}{i:Nat}(a:i<Γ l):j9 w (l.take (i+1))=doW aE aW (j9 w (l.take i)) l[i]/\wn w (l.take (i+1))=wn w (l.take i)++[doE aE (j9 w (l.take i)) l[i]]:=by rw[Fab a];obtain⟨c,b⟩:=zgx (l.take i) w [l[i]];exact⟨c,b⟩
def Rc:∀(l:List Cmd) {w:Wld},playW w->playW (j9 w l)
 |[],_,h=>h
 |c::l,w,h=>Rc l (zci h c)
def yvo(c:Cmd)(a:yw w.U):(aW w c).tick=w.tick:=by
 unfold aW;repeat' split
 .rfl
 .rfl
 .rfl
 .rfl
 .exact(yrn w c).1
 .rfl
 .exact(s7 a).1
def yrq(c:Cmd)(a:yw w.U):(doW aE aW w c).tick=w.tick:=by
 unfold doW;split
 .exact yvo c a
 .rfl
theorem cz:∀(l:List Cmd) {w:Wld},playW w->(j9 w l).tick=w.tick
 |[],_,_=>rfl
 |c::l,w,h=>(cz l (zci h c)).trans (yrq c h.1.1.2.1)
def th(w:Wld)(u:Unt)(v:Vc):(xj w u v).tick=w.tick:=by unfold xj;split<;>rfl
def uh(w:Wld)(u:Unt):(Ay w u).tick=w.tick:=by
 unfold Ay;split
 .exact th _ _ _
 .split<;>rfl
def zj3(w:Wld)(u:Unt):(vr w u).tick=w.tick:=by
 unfold vr;split
 .exact th _ _ _
 .unfold Cx;split
  .rfl
  .split
   .split
    .rfl
    .exact uh _ _
   .exact uh _ _
def Oe(w:Wld):∀i,(goN w i).tick=w.tick
 |0=>rfl
 |i+1=>by
  unfold goN;split
  .split
   .exact(zj3 _ _).trans (Oe w i)
   .exact Oe w i
  .exact Oe w i
noncomputable def Pf(w:Wld):Wld:={ku w with tick:=(ku w).tick+1}
def ykl(h:playW w)(g:w.tick<1099511627776):playW (Pf w):=by obtain⟨⟨⟨⟨a,b⟩,f,d⟩,c⟩,_⟩:=yu6 h;have e:(ku w).tick=w.tick:=Oe w _;have i:=a.1.1;exact⟨⟨⟨⟨⟨⟨by show 0<=(ku w).tick+1;omega,by show(ku w).tick+1<=_;omega⟩,a.1.2⟩,a.2⟩,b⟩,f,d⟩,c⟩
noncomputable def Gu(w:Wld)(l:List Cmd):Wld:=Pf (j9 w l)
def ykm(h:playW w)(a:w.tick<1099511627776)(l:List Cmd):playW (Gu w l):=
 ykl (Rc l h) (by rw[cz l h];exact a)
end
end Go.V
namespace Go.V
open Classical in
noncomputable def ja(w:Wld)(l:List Cmd):Wld:=if w.tick=1099511627776 then w else Gu w l
open Classical in
noncomputable def Lw(w:Wld)(l:List Cmd):List Int:=if w.tick=1099511627776 then []else wn w l
open Classical in
noncomputable def Lx(w:Wld):Int:=if w.tick=1099511627776 then 10 else 0
theorem ln{w:Wld}(h:w.tick=1099511627776)(l:List Cmd):ja w l=w/\Lw w l=[]/\Lx w=10:=⟨if_pos h,if_pos h,if_pos h⟩
theorem lp{w:Wld}(h:¬w.tick=1099511627776)(l:List Cmd):ja w l=Gu w l/\Lw w l=wn w l/\Lx w=0:=⟨if_neg h,if_neg h,if_neg h⟩
def Ac(n:Int):List AV:=[u64 n]
end Go.V
namespace Go.V
theorem Hv{a b:Store}(h:zl a b):zl b a:=λi d c=>h i c d
theorem unE(a:Store):Store.empty.un a=a:=by
 obtain⟨o,t⟩:=a;unfold Store.un
 congr 1
 .funext i;cases h:o i<;>simp[h,Store.empty]
 .funext i;cases h:t i<;>simp[h,Store.empty]
theorem unA(a b c:Store):(a.un b).un c=a.un (b.un c):=by
 unfold Store.un
 congr 1
 .funext i;cases h:c.obj i<;>simp[h]
 .funext i;cases h:c.tok i<;>simp[h]
theorem unC{a b:Store}(h:zl a b):a.un b=b.un a:=by
 unfold Store.un
 congr 1
 .funext i
  cases c:a.obj i with
  |none=>cases d:b.obj i<;>simp[c,d]
  |some x=>have:=(jt (h i (xk c))).1;simp[c,this]
 .funext i
  cases c:a.tok i with
  |none=>cases d:b.tok i<;>simp[c,d]
  |some x=>have:=(jt (h i (Ry c))).2;simp[c,this]
def disjU{a b c:Store}:zl (a.un b) c↔zl a c/\zl b c:=by refine⟨λh=>⟨λi h1=>h i (un_has.2 (.inl h1)),λi h1=>h i (un_has.2 (.inr h1))⟩,λ⟨h1,h2⟩ i h=>(un_has.1 h).elim (h1 i) (h2 i)⟩
def yr6(a:Store):zl Store.empty a:=λb c=>(c.elim (λh=>h rfl) (λh=>h rfl):False).elim
def Sp:List (Store->Prop)->Store->Prop
 |[],S=>S=Store.empty
 |P::l,S=>∃a b,S=a.un b/\zl a b/\P a/\Sp l b
def Foc(P:Store->Prop)(K:(Store->Prop)->Store->Prop)(S:Store):Prop:=∃a g,S=a.un g/\zl a g/\P a/\∀Q b,Q b->zl b g->K Q (b.un g)
theorem Sp.at{P:Store->Prop}:∀{l:List (Store->Prop)} {S:Store} (i:Nat),l[i]?=Δ P->Sp l S->Foc P (λQ=>Sp (l.set i Q)) S
 |R::l,S,0,j,⟨a,b,e,n,p,h⟩=>by cases j;exact⟨a,b,e,n,p,λQ f o d=>⟨f,b,rfl,d,o,h⟩⟩
 |R::l,S,i+1,j,⟨a,b,e,n,p,h⟩=>by obtain⟨c,g,rfl,k,w,v⟩:=Sp.at i (show l[i]?=Δ P from j) h;obtain⟨u,z⟩:=disjU.1 (Hv n);refine⟨c,a.un g,by rw[e,<-unA,unC (Hv u),unA],Hv (disjU.2 ⟨Hv u,Hv k⟩),w,λQ f o d=>?_⟩;obtain⟨t,y⟩:=disjU.1 (Hv d);exact⟨a,f.un g,by rw[<-unA,unC (Hv t),unA],Hv (disjU.2 ⟨Hv t,z⟩),p,v Q f o (Hv y)⟩
def Foc.call{P:Store->Prop}{K:(Store->Prop)->Store->Prop}{S:Store}{e:Program}{f:FuncId}{xs:List AV}{T R:Ja}(h:Foc P K S)(l:∀a,P a->ACalls e f xs a T)(n:∀r b,T r b->∀d,(∀Q:Store->Prop,Q b->K Q d)->R r d):ACalls e f xs S R:=by obtain⟨a,g,rfl,k,o,p⟩:=h;exact ACalls.frame k (l a o) λr b i c=>n r b i _ λQ j=>p Q b j c
theorem Foc.look{P:Store->Prop}{K:(Store->Prop)->Store->Prop}{S:Store}{c:Program}{f:FuncId}{xs:List AV}{R:Ja}(h:Foc P K S)(r:AV)(e:∀a,P a->∀T:AV->Store->Prop,T r a->ACalls c f xs a T)(i:R r S):ACalls c f xs S R:=by obtain⟨a,g,rfl,d,j,n⟩:=h;refine ACalls.frame d (e a j (λx b=>x=r/\b=a) ⟨rfl,rfl⟩) λx b ⟨l,k⟩ _=>?_;subst l k;exact i
theorem Sp.none{l:List (Store->Prop)}{P:Store->Prop}{S:Store}(a:P Store.empty)(h:Sp l S):Sp (P::l) S:=⟨Store.empty,S,(unE S).symm,yr6 S,a,h⟩
def Sp.more{l:List (Store->Prop)}{P:Store->Prop}{a S:Store}(c:P a)(h:Sp l S)(b:zl a S):Sp (P::l) (a.un S):=⟨a,S,rfl,b,c,h⟩
def TokR(k:Nat)(v:AV)(l:List (List AV))(a:Store):Prop:=(l=[]/\v=.s (.slice Θ 0 0)/\a=Store.empty)\/(l≠[]/\∃t,v=.lst k l (Δ t)/\a=Store.empty.sT t (Δ (Γ l*k)))
def tokHas{t i:Nat}{n:Nat}:(Store.empty.sT t (Δ n)).has i↔i=t:=by
 unfold Store.has Store.sT Store.empty;by_cases e:i=t
 .simp[e]
 .simp[qp e,e]
theorem TokR.nil(k:Nat):TokR k (.s (.slice Θ 0 0)) [] Store.empty:=.inl ⟨rfl,rfl,rfl⟩
def TokR.le{k:Nat}{v:AV}{l:List (List AV)}{a:Store}(h:TokR k v l a):AV.le v (.lst k l Θ):=by
 rcases h with⟨rfl,rfl,_⟩|⟨_,t,rfl,_⟩
 .exact AV.le_nil k
 .exact AV.le_tok _ _ _
def Foc.app{P:Program}{c:Cfg}{e:TypeId}{ie:TI}(w:c.I e=Δ ie)(T:Nat.blt 0 ie.size=true){K:(Store->Prop)->Store->Prop}{S:Store}{v:AV}{l:List (List AV)}(h:Foc (TokR ie.size v l) K S)
  {x:AV} {rows:List (List AV)} (z:vw ie.size (.av x)=Δ rows) (j:rows≠[]) (d:room (l++rows).length ie.bytes) {L:Ja}
  (B:∀b E,K (TokR ie.size (.lst ie.size (l++rows) (Δ b)) (l++rows)) E->L (.lst ie.size (l++rows) (Δ b)) E):appendK P c S e (.av v) (.av x) L:=by
 obtain⟨a,g,rfl,A,H,Q⟩:=h
 have key:∀b,¬g.has b->K (TokR ie.size (.lst ie.size (l++rows) (Δ b)) (l++rows)) ((Store.empty.sT b (Δ ((l++rows).length*ie.size))).un g):=λb f=>
  Q _ _ (.inr ⟨λe=>j (List.append_eq_nil_iff.1 e).2,b,rfl,rfl⟩) λi R C=>f (by rw[tokHas.1 R]at C;exact C)
 have D:∀b n,¬g.has b->g.sT b (Δ n)=(Store.empty.sT b (Δ n)).un g:=λb n f=>by
  have:=(jt f).2;obtain⟨o,t⟩:=g;unfold Store.un Store.sT
  congr 1
  .funext i;cases h:o i<;>simp[h,Store.empty]
  .funext i
   by_cases e:i=b
   .subst e;simp_all
   .simp only[qp e,cond_false];cases h:t i<;>simp[h,Store.empty]
 refine⟨.inl ?_⟩;unfold du;refine J ie w ?_;rcases H with⟨rfl,rfl,rfl⟩|⟨M,t,rfl,rfl⟩
 .refine J rows z ⟨d,λv u k=>?_⟩;rcases k with⟨_,e,_⟩|⟨_,b,p,rfl,rfl⟩
  .exact absurd e j
  .rw[unE]at p⊢;have f:=fresh_iff.1 p;rw[show rows=[]++rows from rfl,D _ _ f];exact B _ _ (key b f)
 .have y:¬g.has t:=A t (tokHas.2 rfl);simp only[Fbu,T,Fdr,cond_true];refine J rows z ⟨Lh A (Ka _ _ _),d,λv u k=>?_⟩;have U:(Store.un (Store.empty.sT t (Δ (Γ l*ie.size))) g).sT t Θ=g:=by
   have:=(jt y).2;obtain⟨o,G⟩:=g;unfold Store.un Store.sT
   congr 1
   .funext i;cases h:o i<;>simp[h,Store.empty]
   .funext i
    by_cases e:i=t
    .subst e;simp_all
    .simp only[qp e,cond_false];cases h:G i<;>simp[h,Store.empty]
  rw[U]at k;rcases k with⟨_,e,_⟩|⟨_,b,p,rfl,rfl⟩
  .exact absurd (List.append_eq_nil_iff.1 e).1 M
  .have f:¬g.has b:=fresh_iff.1 p;rw[D _ _ f];exact B _ _ (key b f)
end Go.V
namespace Go.Proofs
open Go Go.V
end Go.Proofs
namespace Go.V
open Go
def yt3{w:World}{T:BB}{b n d k:Nat}{rows:List (List AV)}{e:List AV}(H:CellsRel w T (rows.flatten++e) b){C:BB}(M:∀o,¬C b o)(B:∀b o,C b o->T b o)(I:Γ rows=n)(l:n<=d)
  (hk:∀row∈rows,Γ row=k) (t:∀row∈rows,∀x∈row,x.one=true):VRel w C (.lst k rows Θ) (.slice (Δ ⟨b,0,Θ⟩) n d):=by
 obtain⟨z,Q,P,L,G,D,g⟩:=H;subst I;have at1:∀(i:Nat) (row:List AV) (j:Nat) (x:AV),rows[i]?=Δ row->row[j]?=Δ x->∃v,z[i*k+j]?=Δ v/\VRel w T x v/\xq v=true:=by intro i row j x a c;have u:=Kt hk a c;have K:=(Fa1.1 u).1;have y:(rows.flatten++e)[i*k+j]?=Δ x:=δ;have hlt2:i*k+j<z.size:=δ;have E:=g _ _ z[i*k+j] y (by simp[hlt2]);exact⟨_,by simp[hlt2],E,Wo E (t row (Fa4 a) x (Fa4 c))⟩
 refine VRel.lst rows Θ b 0 d k (λp=>z.getD p undef) l (λi row a=>hk row (Fa4 a)) (λ_ h=>ω) (λi row j x a c=>?_) (λi row j x a c=>?_) (λi row j x a c=>?_)
 .obtain⟨v,u,A,y⟩:=at1 i row j x a c;simp_all [World.cell?]
 .obtain⟨v,u,A,y⟩:=at1 i row j x a c;simp_all
 .obtain⟨v,u,A,y⟩:=at1 i row j x a c;rw[Fbf,u];exact A.mono λb o h=>B b o h
section
variable {α:Type} {f:α->List AV} {k:Nat}
def RowsQ.borrowL{d:Store}{v:AV}{l:List α}(A:∀x,(f x).length=k)(z:∀x,∀y∈f x,y.one=true)(u:RowsQ k f d v l){c M:BB}{w:World}(sto:StoreOK d c M w){x:Value}(g:VRel w (λb o=>M b o\/c b o) v x):
  VRel w (λb o=>(M b o\/c b o)/\d.obj b=Θ) (lst k f l) x:=by
 rcases u with(⟨rfl,rfl⟩|⟨b,C,L,rfl,j,B,G,E⟩)|⟨a,D,rfl,rfl⟩
 .cases g;exact AV.le_nil k _ _ _ (.s _)
 .cases g
  exact yt3 (sto.obj b _ j).1 (λo p=>by rw[j]at p;exact absurd p.2 φ) (λ_ _ h=>h.1) (zj l) B
   (λe i=>by obtain⟨n,_,rfl⟩:=Fag.1 i;exact A n) (λe i y t=>by obtain⟨n,_,rfl⟩:=Fag.1 i;exact z n y t)
 .cases g;exact .nil k a
end
end Go.V
