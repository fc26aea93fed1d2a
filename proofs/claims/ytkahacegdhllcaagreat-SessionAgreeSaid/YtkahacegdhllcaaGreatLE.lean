/- Ground of laws of thronglaw30: contracts and plain lemmas; no condition beyond the row's own. -/
import Derived.Test.YtkahacegdhllcaaGreatLD
import Derived.Test.YtkahacegdhllcaaGreatKN
set_option linter.unusedSimpArgs false
set_option linter.unusedVariables false
set_option linter.defProp false
namespace Go.Proofs
open Go Go.V
set_option maxRecDepth 20000
set_option maxHeartbeats 4000000
section
def Qau{p:Prop}(h:p:=by rw[if_neg θ];exact h.up θ):p:=h
def Qav{p:Prop}(h:p:=by rw[if_pos θ];exact h2.up θ):p:=h
variable {room:Int} {s hb K:Nat} {σ:Pty} {S:Store} {n d:Int} {B:Nat}
def ynl(hdo:DoC)(h:PtyX room s hb K σ S)(hok:PtyOK n d B σ)(hB:B<=880000)(hK:K<=9000000000000000)(R:Ja)(hR:∀S',PtyX room s hb (K+131072) (Nv σ) S'->R (.tup []) S'):Jb 69 [ptr s] S R:=by
 have hn:=hok.n8;have hall:=gk hok;refine Qy 35 Tryz.func69 ?_;obtain⟨X,vp,vm,vl,hX,hk,hS⟩:=h;have hl:=hok.lenX hX;have hXl:X.length=σ.X.length:=by rw[<-hX,Fam]
 obtain⟨t,rfl⟩:=Ks hS (λe=>by rw[e]at hl;simp at hl;omega);refine za (o:=S.obj s) _ (Bd hS) (AWp.loop (σ:=Nat) ⟨λj=>[(0,.av (ptr s)),(10,.av (int (X.length:Nat))),(11,.av (int (j:Nat)))],λ_=>[],λj S'=>j<=X.length/\PtyX room s hb (K+16384*j) ((List.range j).foldl (fun σ k=>Bb k σ) σ) S',λj=>X.length-j⟩ zb ?_ ?_)
 ·refine⟨0,Tv,⟨Fae _,X,_,vm,vl,hX,hk,hS⟩,⟨Tq,?_,Tq,Tv⟩,Tv⟩;rw[<-Fam (f:=λo:One=>[ptr o.q])];exact Tq
 rintro j S1 ⟨hj,h1⟩;have hok1:=Vf hok j;refine bcd (λc1=>?_) (λc1=>?_)
 ·refine ss hdo h1 hok1 θ θ (i:=j) θ _ λS2 h2=>Qd ⟨j+1,(show X.length-(j+1)<X.length-j by omega),⟨(show j+1<=X.length by omega),?_⟩,Qax,Tv⟩;rw[Fc7,Fcp];exact h2.up θ
 have:j=σ.X.length:=θ;subst this;have h1:PtyX room s hb (K+131072) (Cb σ) S1:=h1.up θ;clear hS hX hk;obtain⟨X,vp,vm,vl,hX,hk,hS⟩:=h1;obtain⟨oa,cap,rfl,hr⟩:=RowsQ.form (k:=8) (f:=ye) (l:=(Cb σ).m) (Ko (k:=8) (f:=ye) (l:=(Cb σ).m) (v:=vm) (hS.at 0 rfl));have h0:=Bd hS;refine Qbc (yg (i:=ti72) (v:=nil) (b:=s) (o:=1) rfl rfl rfl h0 (show 1+1<=7 by decide) rfl ?_);obtain⟨a,b,e,hd,ha,hb2⟩:=(hS.at 7 rfl).store [vp,nil,nil,.s (.slice (some ⟨hb,0,none⟩) X.length X.length),nil,nil,vl];have h2:PtyX room s hb (K+131072) {Cb σ with m:=[]} b:=⟨X,vp,nil,vl,hX,hk,Sp.none (P:=λa=>RowsQ 8 ye a nil []) (.inl (.inl ⟨rfl,rfl⟩)) hb2⟩
 have e:S1.sO s (.cells (zq [vp,.s (.slice oa (Cb σ).m.length cap),nil,.s (.slice (some ⟨hb,0,none⟩) X.length X.length),nil,nil,vl] 1 [nil]))=b.un a:=e.trans (unC hd);rw[e];have hd:=xn hd;clear e hb2 hS h0 hX hk hr;have ha:RowsQ 8 ye a (.s (.slice oa (Cb σ).m.length cap)) (Cb σ).m:=ha;have hnote:=hall.note;have hlm:=hall.lm;have hok2:=hall.m0;have er:Nv σ=(Cb σ).m.foldl Bw {Cb σ with m:=[]}:=rfl;rw[er]at hR;generalize(Cb σ).m=l at*;generalize Pty.mk _ _ _=τ at hR h2 hok2;refine AWp.loop (σ:=Nat×Store) ⟨λx=>[(0,.av (ptr s)),(25,.av (.s (.slice oa l.length cap))),(26,.av (int (l.length:Nat))),(27,.av (int (x.1:Nat)))],λ_=>[],λx S'=>x.1<=l.length/\S'=x.2.un a/\zi x.2 a/\PtyX room s hb (K+131072) ((l.take x.1).foldl Bw τ) x.2,λx=>l.length-x.1⟩ zb ?_ ?_
 ·exact⟨(0,b),Tv,⟨Fae _,rfl,hd,h2⟩,Qax,Tv⟩
 clear h2 hd;rintro⟨k,b⟩ S2 ⟨hk,rfl,hd,h2⟩;dsimp only at hk hd h2⊢;have hok3:=gg (l.take k) hok2;refine bcd (λc2=>?_) (λc2=>?_)
 ·have hlt:k<l.length:=θ;obtain⟨oa2,cap2,e2,hr⟩:=RowsQ.form (k:=8) (f:=ye) (l:=l) (RowsQ.un (a:=b) ha);cases e2;obtain⟨bl,L,rfl,ho⟩:=hr k hlt;refine⟨k,rfl,hlt,za (o:=(b.un a).obj bl) _ ho (xk (i:=ti183) (row:=ye l[k]) rfl rfl (Cw (f:=ye) (k:=8) (λ_=>rfl) hlt) (ACalls.frame hd (zfk h2 hok3 θ (hnote _ (Faa hlt)) (λr S'=>r=.tup []/\PtyX room s hb (K+131072) (Bw ((l.take k).foldl Bw τ) l[k]) S') λS' h'=>⟨rfl,h'⟩) λr b' ⟨hr,hb'⟩ hd'=>?_))⟩;subst hr;refine Qd ⟨(k+1,b'),(show l.length-(k+1)<l.length-k by omega),⟨hlt,rfl,hd',?_⟩,Qax,Tv⟩;dsimp only;rw[Fad hlt,Fcp];exact hb'
 have:k=l.length:=θ;subst this;rw[Faj]at h2;exact⟨_,b,Tt,⟨λb x hx=>yf hd hx,λb y hy=>I9 hd hy⟩,hR b h2⟩
def ofZ{P:Program}{f:FuncId}{x:AV}{xs:List AV}{z:Int}{i:Nat}{S:Store}{R:Ja}(hz:z=i)(h:ACalls P f (x::int (i:Int)::xs) S R):ACalls P f (x::int z::xs) S R:=hz▸h
def py{q:Prop}(h:q:=by
 try refine zu (λ_=>?_) (λc=>absurd ‹a.K=_› c)
 refine ygx h hok θ a _ λS2 h2=>?_;exact ret (hR S2 (h2.up θ))):q:=h
def ypi(hdo:DoC)(h:PtyX room s hb K σ S)(hok:PtyOK n d B σ)(hB:B<=800000)(hK:K<=1000000000000000)(a:Act30)(hcs:small a.C)(R:Ja)(hR:∀S',PtyX room s hb (K+7864320) (Fh σ a) S'->R (.tup []) S'):Jb 30 [ptr s,.agg (Ag a)] S R:=by
 have hn:=hok.n8;have hsl:(σ.X.length:Int)=n:=hok.len;have h':=h;obtain⟨X,vp,vm,vl,hX,hk,hS⟩:=h';have hl:=hok.lenX hX;obtain⟨t,rfl⟩:=Ks hS (λe=>by rw[e]at hl;simp at hl;omega);have hXm:((X.map λo=>[ptr o.q]).length:Int)=n:=by rw[Fam];exact hl
 have hs:=Bd hS;unfold Fh at hR;rw[hsl]at hR;refine Qy 61 Tryz.func30 ?_;refine Qc zb zyc (bcd (λc1=>?_) (λc1=>?_));refine Qbc ?_;rotate_left
 all_goals
  refine Qbb (zu (λe1=>?_) (λe1=>?_))
  ·rw[if_pos e1]at hR;first
   |exact ret (hR S Qau)
   |refine bcd (λc2=>?_) (λc2=>ret (hR S Qau))
    exact Qd (ofZ (z:=a.P-1) (i:=(a.P-1).toNat) θ (ybb h hok θ θ a.C hcs _ λS2 h2=>ret (hR S2 Qav)))
  rw[if_neg e1]at hR;refine zu (λe2=>?_) (λe2=>?_)
  ·rw[if_pos e2]at hR;first
   |exact ret (hR S Qau)
   |refine bcd (λc2=>?_) (λc2=>ret (hR S Qau))
    exact Qd (ofZ (z:=a.P-1) (i:=(a.P-1).toNat) θ (ss hdo h hok θ θ θ _ λS2 h2=>ret (hR S2 Qav)))
  rw[if_neg e2]at hR;refine zu (λe3=>?_) (λe3=>?_)
  ·rw[if_pos (.inl e3)]at hR;exact py
  refine zu (λe4=>?_) (λe4=>?_)
  ·rw[if_pos (.inr (.inl e4))]at hR;exact py
  refine zu (λe5=>?_) (λe5=>?_)
  ·rw[if_pos (.inr (.inr e5))]at hR;exact py
  rw[if_neg θ]at hR;refine zu (λe6=>?_) (λe6=>?_);rotate_left
  ·rw[if_neg e6]at hR;exact ret (hR S (h.up θ))
  rw[if_pos e6]at hR;refine AWp.loop (σ:=Nat×Pty) ⟨λx=>[(0,.av (ptr s)),(3,.bx 3 0),(5,.av (int (a.N-(x.1:Nat))))],λ_=>[(3,Ag a)],λx S2=>PtyX room s hb (K+131072*x.1) x.2 S2/\PtyOK n d (B+96*x.1) x.2/\x.1<=a.N.toNat/\(x.1=0\/a.N<=60)/\I1 (a.N.toNat-x.1) x.2=I1 a.N.toNat σ/\(x.1=0->x.2=σ),λx=>a.N.toNat-x.1⟩ zb ?_ ?_
  ·refine⟨(0,σ),Tv,⟨h,hok,Fae _,.inl rfl,rfl,λ_=>rfl⟩,⟨Tq,Tq,?_,Tv⟩,⟨rfl,Tv⟩⟩;show LV.le (.av (int a.N)) (.av (int (a.N-0)));rw[Int.sub_zero];exact Tq
  rintro⟨c,ρ⟩ S2 ⟨h2,hok2,hc,hc60,hrun,hz⟩;dsimp only at h2 hok2 hc hc60 hrun hz⊢;refine bcd (λc3=>?_) (λc3=>?_)
  ·refine bcd (λc4=>?_) (λc4=>?_)
   ·obtain⟨j,hj⟩:∃j,a.N.toNat-c=j+1:=⟨a.N.toNat-c-1,θ⟩
    rw[hj]at hrun;refine ynl hdo h2 hok2 θ θ _ λS3 h3=>Qd ⟨(c+1,Nv ρ),(show a.N.toNat-(c+1)<a.N.toNat-c by omega),⟨h3.up θ,(gj hok2).up θ,(show c+1<=_ by omega),.inr c4,?_,λe=>nomatch e⟩,⟨Tq,Tq,?_,Tv⟩,⟨rfl,Tv⟩⟩
    ·show I1 (a.N.toNat-(c+1)) _=_;rw[<-hrun,show a.N.toNat-(c+1)=j by omega];rfl
    ·show LV.le (.av (int (a.N-(c:Nat)-1))) (.av (int (a.N-((c+1:Nat):Int))));rw[show a.N-((c+1:Nat):Int)=a.N-(c:Nat)-1 by omega];exact Tq
   ·rw[if_neg c4]at hR;have:c=0:=θ;subst this;rw[hz rfl]at h2;exact ret (hR S2 (h2.up θ))
  ·have:c=a.N.toNat:=θ;subst this;rw[Fc8]at hrun;have hrun:ρ=I1 a.N.toNat σ:=hrun;by_cases h60:a.N<=60
   ·rw[if_pos h60,<-hrun]at hR;exact ret (hR S2 (h2.up θ))
   ·omega
end
def Ho(g:Gnd)(n d:Int):Pty:=⟨(List.range n.toNat).map λi=>⟨xm ((i+1:Nat):Int) n d,D4 g n,[]⟩,[],[]⟩
noncomputable def G7(g:Gnd)(n d:Int)(l:List Act30):Pty:=l.foldl Fh (Ho g n d)
def Gv(o:Pee):List AV:=[lst 1 yh o.h]
noncomputable def Hl(σ:Pty):List AV:=[yd (σ.X.map λo=>o.p.turn),lst 1 Gv σ.X,lst 8 zt (σ.X.map λo=>o.w),lst 1 qu (σ.X.map λo=>o.p.split),lst 3 jt σ.log]
section
variable {g:Gnd} {n d:Int}
def Vr(hp:jk g n)(hd:1<=d/\d<=8):PtyOK n d 0 (Ho g n d):=by
 have hn:=hp.2;refine⟨hn,?_,λi o ho=>?_,λx hx=>(nomatch hx),Fai _,Fai _⟩
 ·show(((List.range n.toNat).map _).length:Int)=n;rw[Fam,Fcn];omega
 ·have ho:((List.range n.toNat).map λi=>Pee.mk (xm ((i+1:Nat):Int) n d) (D4 g n) [])[i]?=some o:=ho;rw[Faq]at ho;by_cases hi:i<n.toNat
  ·rw[List.getElem?_range hi]at ho;cases ho;exact⟨⟨by show((i+1:Nat):Int)=_;omega,rfl,rfl⟩,(zb3 hn ⟨θ,θ⟩).2 hd,zbc hp,rfl,Fai _⟩
  ·rw[Fbl (by rw[Fcn];omega)]at ho;cases ho
def pu:∀(l:List Act30) {B:Nat} {σ:Pty},PtyOK n d B σ->PtyOK n d (B+5760*l.length) (l.foldl Fh σ)
 |[],B,σ,h=>h
 |a::l,B,σ,h=>by have:=pu l (za6 h a);rw[Fbg,show B+5760*(l.length+1)=B+5760+5760*l.length by omega];exact this
def zeu(hp:jk g n)(hd:1<=d/\d<=8)(l:List Act30):PtyOK n d (5760*l.length) (G7 g n d l):=by have:=pu l (Vr hp hd);rw[Fba]at this;exact this
def zai(g:Gnd)(n d:Int)(l:List Act30)(i:Nat)(X:List One)(vm:AV)(m:List Nte)(log:List Frm):Prop:=jk g n/\(1<=d/\d<=8)/\i<=l.length/\(⟨X.map One.core,m,log⟩:Pty)=(l.take i).foldl Fh (Ho g n d)/\∀o∈X,o.k<=7864320*i
def tq(hdo:DoC)(g:Gnd)(hg:g.fits)(hT:g.T.length<=1000000)(n d room:Int)(hn:yq n)(hd:-1000000<=d/\d<=1000000)(hr:1<=room/\room<=4096)(l:List Act30)(hl:l.length<=100)(hcs:∀a∈l,small a.C)(st:Store)(R:Ja)
  (hbad:¬(jk g n/\1<=d/\d<=8)->R (.tup [.agg [nil,nil,nil,nil,nil],int 1]) st) (hok:(jk g n/\1<=d/\d<=8)->R (.tup [.agg (Hl (G7 g n d l)),int 0]) st):Jb 8 [.agg (zw g),int n,int d,int room,lst 5 Ag l] st R:=by
 have hok3:∀i X vm m log,zai g n d l i X vm m log->PtyOK n d (5760*i) (⟨X.map One.core,m,log⟩:Pty):=λi X vm m log ⟨h1,h2,h3,h4,h5⟩=>by rw[h4];have:=pu (l.take i) (Vr h1 h2);rw[Fah,Fde h3,Fba]at this;exact this
 have key:=zwg g hg hT n d room hn hd hr (rws Ag l) θh (λrow hrow=>by
   obtain⟨a,_,rfl⟩:=Fag.1 hrow;exact⟨a.K,a.P,a.N,a.I,lst 10 z6 a.C,rfl,.inr ⟨a.C,rfl⟩⟩) (zai g n d l)
  (λX h1 h2 h3 h4=>⟨h1,h2,Fae _,by
   show Pty.mk _ _ _=Ho g n d;unfold Ho
   congr 1
   refine Fb8 λi=>?_;rw[Faq,Faq];by_cases hi:i<X.length
   ·rw[List.getElem?_range θ,Fac hi];obtain⟨q1,q2,q3,q4,_⟩:=h4 i hi;show some (One.core X[i])=some _;unfold One.core;rw[q1,q2,q3]
   ·rw[Fbl θ,Fbl (by rw[Fcn];omega)];rfl,λo ho=>by
   obtain⟨j,hj,rfl⟩:=Faf ho;rw[(h4 j hj).2.2.2.1];exact Fae _⟩)
  (λi X vm m log hI=>by have h:=hok3 i X vm m log hI;have h2:=h.ll;have h3:=hI.2.2.1;refine⟨by have:=h.len;rw[Fam]at this;exact this,λo ho=>?_,by dsimp only at h2;omega⟩;obtain⟨j,hj,rfl⟩:=Faf ho;exact(h.peer j X[j].core (G9 rfl hj)).2.2.1)
  (λi hi s hb X vp vm vl m log S hI hS=>by
   have hil:i<l.length:=by rw[zj]at hi;exact hi
   have e:(rws Ag l)[i]=Ag l[i]:=Fb1 ..;rw[e];have h:=hok3 i X vm m log hI;obtain⟨h1,h2,h3,h4,h5⟩:=hI;refine ypi hdo (σ:=⟨X.map One.core,m,log⟩) ⟨X,vp,vm,vl,rfl,h5,hS⟩ h θ θ l[i] (hcs _ (Faa hil)) _ λS' hS'=>⟨rfl,?_⟩
   obtain⟨X',vp',vm',vl',q1,q2,q3⟩:=hS';refine⟨X',vp',vm',vl',_,_,⟨h1,h2,hil,?_,λo ho=>by have:=q2 o ho;omega⟩,q3⟩;rw[Fad hil,Fcp,<-h4,q1];rfl)
 refine Da (Q:=λr=>(¬(jk g n/\1<=d/\d<=8)/\r=.tup [.agg [nil,nil,nil,nil,nil],int 1])\/((jk g n/\1<=d/\d<=8)/\r=.tup [.agg (Hl (G7 g n d l)),int 0])) (key.frozen ?_) st R λr hr=>?_
 ·rintro r S (⟨h1,rfl⟩|⟨h1,X,vm,m,log,hb,hI,⟨ho,hv⟩,rfl⟩)
  ·exact⟨_,.inl ⟨h1,rfl⟩,λOth M W y sto hy=>qn hy⟩
  ·refine⟨_,.inr ⟨h1,rfl⟩,λOth M W y sto hy=>VRel.tup2 hy (λz hz=>?_) (λz hz=>qn hz)⟩;obtain⟨_,_,_,h4,_⟩:=hI;rw[zj,Faj]at h4;have h4:(⟨X.map One.core,m,log⟩:Pty)=G7 g n d l:=h4;rw[<-h4];have e1:Hl ⟨X.map One.core,m,log⟩=[yd (X.map λo=>o.p.turn),.s (.slice (some ⟨hb,0,none⟩) X.length X.length),lst 8 zt (X.map λo=>o.w),lst 1 qu (X.map λo=>o.p.split),lst 3 jt log].set 1 (lst 1 Gv (X.map One.core)):=by
    unfold Hl;simp only[Fdh];rfl
   rw[e1];refine pr (a:=.s (.slice (some ⟨hb,0,none⟩) X.length X.length)) (λb o hb=>hb.1) hz λu hu=>?_;have hu:=VRel.eq_s hu;subst hu;have hfl:(X.map λo=>[o.vh]).flatten=X.map λo=>o.vh:=by rw[<-List.flatMap_def];exact List.map_eq_flatMap.symm
   have hrel:VRel W (λb o=>(M b o\/Oth b o)/\S.obj b=none) (.lst 1 (X.map λo=>[o.vh]) none) (.slice (some ⟨hb,0,none⟩) X.length X.length):=
    oo (pad:=[]) (by rw[Fbh,hfl];exact(sto.obj hb _ ho).1) (λo hT=>ψn) (λ_ _ h=>h.1) (Fam ..) (Fai _)
     (λrow hr=>by obtain⟨o,_,rfl⟩:=Fag.1 hr;rfl) (λrow hr y hy=>by
     obtain⟨o,ho2,rfl⟩:=Fag.1 hr;rw[Fbo.1 hy];exact(hv o ho2).2)
   refine lp (ys:=rws Gv (X.map One.core)) ?_ _ _ _ hrel;have:∀l:List One,(∀o∈l,AV.le o.vh (lst 1 yh o.h))->leQ (l.map λo=>[o.vh]) (rws Gv (l.map One.core)):=by
    intro l;induction l with
    |nil=>exact λ_=>trivial
    |cons o l ih=>exact λh=>⟨⟨h o Fa1,Tv⟩,ih λx hx=>h x (Fau _ hx)⟩
   exact this X λo ho=>(hv o ho).1
 ·rcases hr with⟨hh,rfl⟩|⟨hh,rfl⟩
  ·exact hbad hh
  ·exact hok hh
end
structure Scr30 where
 G:Gnd
 P:Int
 D:Int
 R:Int
 L:List Act30
def Act30.good(a:Act30):Prop:=(yq a.K/\yq a.P/\yq a.N/\yq a.I)/\a.C.length<=140737488355328/\∀c∈a.C,c.sized
def Fl(a:Scr30):List AV:=zw a.G++[int a.P,int a.D,int a.R,lst 5 Ag a.L]
def Scr30.good(a:Scr30):Prop:=a.G.T.length<=140737488355328/\(yq a.P/\yq a.D/\yq a.R)/\a.L.length<=140737488355328/\∀x∈a.L,x.good
def zc4(p:Scr30):Prop:=p.L.length<=100/\p.G.T.length<=200/\∀a∈p.L,small a.C
def zcu(p:Scr30):Prop:=zv p.G/\(1<=p.P/\p.P<=8)/\(1<=p.D/\p.D<=8)/\1<=p.R/\p.R<=4096
def yin(p:Scr30)(hp:p.good)(st:Store)(R:Ja)(h:∀z:Bool,(z=false->zc4 p)->R (V.bool z) st):Jb 17 [.agg (Fl p)] st R:=by
 have hll:=hp.2.2.1;refine Qy 40 Tryz.func17 ?_;refine AWp.loop (σ:=Nat×Int) ⟨λx=>[(1,.bx 1 0),(3,.av (int x.2)),(4,.av (int (x.1:Nat)))],λ_=>[(1,Fl p)],λx st'=>st'=st/\x.1<=p.L.length/\(0<=x.2/\x.2<=281474977759232)/\(x.2<=500->∀a∈p.L.take x.1,small a.C),λx=>p.L.length-x.1⟩ zb ?_ ?_
 ·exact⟨(0,0),Tv,⟨rfl,Fae _,(by decide:(0:Int)<=0/\(0:Int)<=281474977759232),λ_ a ha=>(nomatch ha)⟩,Qax,⟨rfl,Tv⟩⟩
 rintro⟨i,n⟩ st' ⟨rfl,hi,hn,hs⟩;dsimp only at hi hn hs⊢;have yes:=h true (λe=>nomatch e);refine zk (λc1=>?_) (λc1=>?_)
 ·have hlt:i<p.L.length:=Bu c1;obtain⟨_,hc1,hc2⟩:=hp.2.2.2 _ (Faa hlt);refine bcd (λc2=>?_) (λc2=>?_)
  ·refine⟨i,rfl,za _ (zr hlt) (yme p.L[i].C hc1 hc2 _ _ (λw w1 w2 w3=>?_))⟩;have hw0:0<=w:=θ;refine Qd (Qd ⟨(i+1,n+w),(show p.L.length-(i+1)<p.L.length-i by omega),⟨rfl,hlt,ζ,λh5 a ha=>?_⟩,Qax,⟨rfl,Tv⟩⟩);dsimp only at h5 ha;rw[Fad hlt]at ha;rcases Fas.1 ha with ha|ha
   ·exact hs θ a ha
   ·rw[Fbo.1 ha];exact⟨θ,λc hc=>by have:=w2 θ c hc;omega⟩
  ·exact bcd (λ_=>ret yes) (λc3=>absurd c3 θ)
 ·have:i=p.L.length:=Dd c1 hi;subst this;rw[Faj]at hs;refine bcd (λ_=>ret yes) (λc3=>zk (λ_=>ret yes) (λc4=>ret (h _ λhz=>?_)));have c4:=of_decide_eq_false c4;have hz:=of_decide_eq_false hz;rw[zj]at c4;rw[zj]at hz;exact⟨θ,θ,hs θ⟩
def ybp(n:Int)(st:Store)(R:Ja)(h:∀b:Bool,(b=true↔1<=n/\n<=4096)->R (V.bool b) st):Jb 26 [int n] st R:=by
 refine Qy 9 Tryz.func26 ?_;refine bcd (λc1=>?_) (λc1=>?_)
 ·exact ret (h _ (by rw[decide_eq_true_eq];omega))
 ·exact ret (h false χ)
def ygh(p:Scr30)(hp:p.G.T.length<=1000)(st:Store)(R:Ja)(h:∀z:Bool,(z=true↔zcu p)->R (V.bool z) st):Jb 18 [.agg (Fl p)] st R:=by have no:¬zcu p->R (V.bool false) st:=λhn=>h false θe;refine Qy 31 Tryz.func18 ?_;refine yix p.G (by unfold Gnd.fits;omega) _ _ (λz hz=>?_);refine zk (λc0=>?_) (λc0=>ret (no λhh=>by have:=hz.2 hh.1;rw[this]at c0;cases c0));have hg:=hz.1 c0;exact bcd (λc1=>bcd (λc2=>bcd (λc3=>bcd (λc4=>ybp p.R _ _ (λb hb=>ret (h b (hb.trans ⟨λq=>⟨hg,⟨c1,c2⟩,⟨c3,c4⟩,q⟩,λq=>q.2.2.2⟩)))) (λc4=>ret (no λhh=>c4 hh.2.2.1.2))) (λc3=>ret (no λhh=>c3 hh.2.2.1.1))) (λc2=>ret (no λhh=>c2 hh.2.1.2))) (λc1=>ret (no λhh=>c1 hh.2.1.1))
def yms(l:List Cmd)(hl:l.length<=1000000000000)(hf:∀x∈l,Cmd.fits x)(st:Store)(R:Ja)(h:R (lst 10 z6 l) st):Jb 32 [lst 10 z6 l] st R:=by
 refine Qy 20 Tryz.func32 ?_;refine AWp.loop (σ:=Nat×AV) ⟨λs=>[(0,.av (lst 10 z6 l)),(3,.av s.2),(4,.av (int s.1))],λ_=>[],λs st'=>s.1<=l.length/\App 10 st s.2 (rws z6 (l.take s.1)) st',λs=>l.length-s.1⟩ zb ?_ ?_
 ·exact⟨(0,_),Tv,⟨Fae _,App.start 10 st⟩,⟨Tq,Tq,Tq,Tv⟩,Tv⟩
 ·rintro⟨i,v⟩ st' ⟨hi,ha⟩;simp only at hi;refine zk (λh1=>?_) (λh1=>?_)
  ·have hlt:i<l.length:=Bu h1;refine⟨i,rfl,za _ (zr hlt) (ymr l[i] (hf _ (Faa hlt)) st' _ ⟨ψ,vq (ie:=ti136) (rows':=[z6 l[i]]) ha ?_ ?_ ⟨?_,?_⟩ (λv2 st2 ha2=>?_)⟩)⟩
   ·rfl
   ·rfl
   ·simp[zj,ti136];omega
   ·simp[zj];omega
   ·refine⟨⟨θ,θ⟩,⟨(i+1,v2),?_,⟨hlt,?_⟩,Qax,Tv⟩⟩
    ·show l.length-(i+1)<l.length-i;omega
    ·rw[<-Sk hlt];exact ha2
  ·have hge:i=l.length:=Dd h1 hi;subst hge;refine⟨_,st,AV.le_trans ha.le ?_,ha.has,h⟩;rw[Faj];exact Tt
def ck{q:Prop}(h:q:=by
 refine⟨ψ,vq (ie:=ti59) (rows':=[Ag b]) ha ?_ ?_ ⟨?_,?_⟩ (λv2 st2 ha2=>?_)⟩
 ·rfl
 ·rfl
 ·simp[zj,ti59];omega
 ·simp[zj];omega
 refine Qd ⟨(i+1,cc,l++[b],v2),(show p.L.length-(i+1)<p.L.length-i by omega),⟨hlt,(show i+1<=60 by omega),hcc,(show(l++[b]).length<=i+1 by rw[Fab,Fan];omega),λa ha=>?_,?_⟩,Qax,⟨rfl,Tv⟩⟩
 ·rcases Fas.1 ha with ha|ha
  ·exact hls a ha
  ·rw[Fbo.1 ha];exact hb
 ·dsimp only;rw[show rws Ag (l++[b])=rws Ag l++[Ag b]from Faz];exact ha2):q:=h
def zhd(p:Scr30)(hp:zc4 p)(st:Store)(R:Ja)(h:∀l:List Act30,l.length<=60->(∀a∈l,small a.C)->R (lst 5 Ag l) st):Jb 9 [.agg (Fl p)] st R:=by
 obtain⟨hl,hT,hs⟩:=hp;refine Qy 56 Tryz.func9 ?_;refine AWp.loop (σ:=Nat×Int×List Act30×AV) ⟨λx=>[(1,.bx 1 0),(3,.av x.2.2.2),(4,.av (int x.2.1)),(5,.av (int (x.1:Nat)))],λ_=>[(1,Fl p)],λx st'=>x.1<=p.L.length/\x.1<=60/\(0<=x.2.1/\x.2.1<=4*x.1)/\x.2.2.1.length<=x.1/\(∀a∈x.2.2.1,small a.C)/\App 5 st x.2.2.2 (rws Ag x.2.2.1) st',λx=>p.L.length-x.1⟩ zb ?_ ?_
 ·exact⟨(0,0,[],_),Tv,⟨Fae _,Fae _,(by decide:(0:Int)<=0/\(0:Int)<=4*0),Fai _,λa ha=>(nomatch ha),App.start 5 st⟩,⟨Tq,Tq,Tq,Tq,Tv⟩,⟨rfl,Tv⟩⟩
 rintro⟨i,c,l,v⟩ st' ⟨hi,hi6,hc,hll,hls,ha⟩;dsimp only at hi hi6 hc hll hls ha⊢;refine zk (λc1=>?_) (λc1=>?_);rotate_left
 ·exact⟨_,st,ha.le,ha.has,h l θ hls⟩
 have hlt:i<p.L.length:=Bu c1;refine bcd (λc2=>?_) (λc2=>?_);rotate_left
 ·exact⟨_,st,ha.le,ha.has,h l θ hls⟩
 refine⟨i,rfl,za _ (zr hlt) ?_⟩;have hsm:=hs _ (Faa hlt);refine yms p.L[i].C (by have:=hsm.1;omega) (λx hx=>by have:=hsm.2 x hx;unfold Cmd.fits;omega) _ _ ?_;refine zu (λc3=>?_) (λc3=>by
  let b:Act30:=p.L[i]
  let cc:Int:=c
  have hcc:0<=cc/\cc<=4*((i+1:Nat):Int):=by show 0<=c/\c<=_;omega
  have hb:small b.C:=hsm;exact ck)
 refine bcd (λc4=>?_) (λc4=>by
  let b:Act30:=p.L[i]
  let cc:Int:=c
  have hcc:0<=cc/\cc<=4*((i+1:Nat):Int):=by show 0<=c/\c<=_;omega
  have hb:small b.C:=hsm;exact ck)
 refine bcd (λc5=>?_) (λc5=>by
  let b:Act30:=p.L[i]
  let cc:Int:=c
  have hcc:0<=cc/\cc<=4*((i+1:Nat):Int):=by show 0<=c/\c<=_;omega
  have hb:small b.C:=hsm;exact ck)
 have ht1:=Int.tmod_lt_of_pos p.L[i].N (show(0:Int)<4 by decide);have ht0:=Int.tmod_nonneg (a:=p.L[i].N) 4 θ;refine⟨ψ,Qd (Qd ?_)⟩;refine bcd (λc6=>?_) (λc6=>by
  let b:Act30:={p.L[i]with N:=1+p.L[i].N.tmod 4}
  let cc:Int:=c+(1+p.L[i].N.tmod 4)
  have hcc:0<=cc/\cc<=4*((i+1:Nat):Int):=by show 0<=c+(1+p.L[i].N.tmod 4)/\c+(1+p.L[i].N.tmod 4)<=_;omega
  have hb:small b.C:=hsm;exact ck)
 exact Qd ⟨(i+1,c+(1+p.L[i].N.tmod 4),l,v),(show p.L.length-(i+1)<p.L.length-i by omega),⟨hlt,(show i+1<=60 by omega),ζ,(show l.length<=i+1 by omega),hls,ha⟩,Qax,⟨rfl,Tv⟩⟩
def ypj:Codec Tryz.prog 60 Act30 Ag Act30.good:=by refine⟨λ{H} enc w base held fuel cs x hx hw=>?_⟩;have hu:=Tryz.underlying60;have hl:cs.length=5:=(Ok hu hx).trans κ;obtain⟨a0,q0,h0⟩:=jv hu hx hw 0 0 1 rfl rfl κ At;obtain⟨a1,q1,h1⟩:=jv hu hx hw 1 1 1 rfl rfl κ At;obtain⟨a2,q2,h2⟩:=jv hu hx hw 2 2 1 rfl rfl κ At;obtain⟨a3,q3,h3⟩:=jv hu hx hw 3 3 1 rfl rfl κ At;obtain⟨a4,q4,h4⟩:=jv hu hx hw 4 4 1 rfl rfl κ ymx;refine⟨⟨a0,a1,a2,a3,a4⟩,⟨⟨q0,q1,q2,q3⟩,q4⟩,?_⟩;have:=h0.cons rfl (h1.cons rfl (h2.cons rfl (h3.cons rfl (h4.cons rfl (CellsOK.stop hl)))));rw[Fc1]at this;exact this
def yph:Codec Tryz.prog 25 (List Act30) (λl=>[lst 5 Ag l]) (λl=>l.length<=140737488355328/\∀x∈l,x.good):=
 (Codec.slice Tryz.underlying25 (k:=5) κ ψ (of_decide_eq_true κ) ypj).weaken λ_ h=>⟨h.2,h.1⟩
def scr30_codec:Codec Tryz.prog 27 Scr30 Fl Scr30.good:=by refine⟨λ{H} enc w base held fuel cs x hx hw=>?_⟩;have hu:=Tryz.underlying27;have hl:cs.length=7:=(Ok hu hx).trans κ;obtain⟨a0,q0,h0⟩:=jv hu hx hw 0 0 3 rfl rfl κ yjk;obtain⟨a1,q1,h1⟩:=jv hu hx hw 1 3 1 rfl rfl κ At;obtain⟨a2,q2,h2⟩:=jv hu hx hw 2 4 1 rfl rfl κ At;obtain⟨a3,q3,h3⟩:=jv hu hx hw 3 5 1 rfl rfl κ At;obtain⟨a4,q4,h4⟩:=jv hu hx hw 4 6 1 rfl rfl κ yph;refine⟨⟨a0,a1,a2,a3,a4⟩,⟨q0,⟨q1,q2,q3⟩,q4⟩,?_⟩;have:=h0.cons rfl (h1.cons rfl (h2.cons rfl (h3.cons rfl (h4.cons rfl (CellsOK.stop hl)))));rw[Fc1]at this;exact this
structure Nm where
 turn:Int
 said:Int
 has:List Int
 acked:List Int
structure Nn where
 src:Int
 dst:Int
 t:Int
 hv:Int
structure Ns where
 X:List Nm
 m:List Nn
def Ci(o:Pee):Nm:=⟨o.p.turn,o.p.said,o.p.has,o.p.acked⟩
def K0(x:Nte):Nn:=⟨x.src,x.dst,x.inp.t,x.have_⟩
def Ik(σ:Pty):Ns:=⟨σ.X.map Ci,σ.m.map K0⟩
def Sl(k:Nat):Nat->Ns->Ns
 |0,σ=>σ
 |c+1,σ=>match σ.X[k]? with
  |none=>σ
  |some x=>if x.turn<=yv x.has/\x.turn<maxT then Sl k c {σ with X:=σ.X.set k {x with turn:=x.turn+1}}else σ
def zb2(k:Nat)(x:Nm)(j:Nat):Nn:=⟨(k:Int)+1,((j+1:Nat):Int),if x.acked.getD j 0+1<=x.said then x.acked.getD j 0+1 else -1,x.has.getD j 0⟩
def Vp(k:Nat)(x:Nm):Nat->List Nn
 |0=>[]
 |n+1=>Vp k x n++(if n=k then []else [zb2 k x n])
def ee(n k:Nat)(σ:Ns):Ns:=match σ.X[k]? with
 |none=>σ
 |some x=>Sl k 4 {σ with m:=σ.m++Vp k x n}
theorem zby(σ:Pty)(k:Nat):(Ik σ).X[k]?=σ.X[k]?.map Ci:=Faq ..
theorem yeq(σ:Pty)(k:Nat)(o:Pee)(m:List Nte)(l:List Frm):Ik ⟨σ.X.set k o,m,l⟩=⟨(Ik σ).X.set k (Ci o),m.map K0⟩:=by show Ns.mk ((σ.X.set k o).map Ci) _=_;rw[Fc3];rfl
section
variable {n:Nat} {d:Int} {B:Nat} {σ:Pty}
theorem zaf(k:Nat):∀(c:Nat) {σ:Pty},Ik (ww k c σ)=Sl k c (Ik σ)
 |0,σ=>rfl
 |c+1,σ=>by
  unfold ww Sl;rw[zby];cases ho:σ.X[k]? with
  |none=>rfl
  |some o=>
   dsimp only[Option.map];by_cases hc:Bj o.p
   ·rw[if_pos hc,if_pos (show(Ci o).turn<=yv (Ci o).has/\(Ci o).turn<maxT from hc),zaf k c,yeq];rfl
   ·rw[if_neg hc,if_neg (show¬((Ci o).turn<=yv (Ci o).has/\(Ci o).turn<maxT)from hc)]
theorem yex{k:Nat}{o:Pee}(hid:o.p.id=(k:Int)+1)(hp:qe o.p){j:Nat}(hj:j<o.p.players.toNat):K0 (D3 o.p (j+1))=zb2 k (Ci o) j:=by
 have hm:=hp.2.2.2.2.2.2.2.2.1;have hal:=hp.2.2.2.1.2.1;have hja:j<o.p.acked.length:=θ;have hg:o.p.acked.getD j 0=o.p.acked[j]:=by rw[Fap,Fac hja];rfl
 have hmin:=Bt (Faa hja);have hb:=hp.2.2.2.1.1 j hja;have hd:=hp.1.2.2.1;have key:((o.p.mine.find? (Dl o.p (j+1))).getD inp0).t=if o.p.acked.getD j 0+1<=o.p.said then o.p.acked.getD j 0+1 else -1:=by
  have hw:∀i:Inp,Dl o.p (j+1) i=(i.t==o.p.acked.getD j 0+1):=λi=>rfl;cases h:o.p.mine.find? (Dl o.p (j+1))with
  |none=>
   rw[if_neg]
   ·rfl
   intro hle;rw[Fei]at h;have hlt:(o.p.acked[j]-yv o.p.acked).toNat<o.p.mine.length:=by have:=hm.1;omega
   refine h _ (Faa hlt) ?_;rw[hw,(hm.2 _ hlt).2.2,hg,beq_iff_eq];have:=hm.1;omega
  |some x=>
   have h1:=List.find?_some h;have h2:=Fc5 h;obtain⟨i,hi,e⟩:=Faf h2;have h3:=(hm.2 i hi).2.2;rw[e]at h3;rw[hw,beq_iff_eq]at h1;show x.t=_;rw[if_pos θ,h1]
 show Nn.mk o.p.id ((j+1:Nat):Int) ((o.p.mine.find? (Dl o.p (j+1))).getD inp0).t (o.p.has.getD j 0)=_;rw[key,hid];rfl
theorem zbz{k:Nat}{o:Pee}(hid:o.p.id=(k:Int)+1)(hp:qe o.p):∀c,c<=o.p.players.toNat->(jj o.p c).map K0=Vp k (Ci o) c
 |0,_=>rfl
 |c+1,hc=>by
  show(jj o.p c++_).map K0=Vp k (Ci o) c++_;rw[Faz,zbz hid hp c θ]
  congr 1
  by_cases e:((c+1:Nat):Int)=o.p.id
  ·rw[if_pos e,if_pos θ];rfl
  ·rw[if_neg e,if_neg θ];show [K0 _]=_;rw[yex hid hp θ]
def zj3(hP:PtyOK n d B σ)(k:Nat):Ik (Bb k σ)=ee n k (Ik σ):=by
 unfold Bb ee;rw[zby];cases ho:σ.X[k]? with
 |none=>rfl
 |some o=>
  obtain⟨⟨a1,a2,a3⟩,hp,_⟩:=hP.peer k o ho;dsimp only[Option.map];rw[zaf]
  congr 1
  show Ns.mk _ ((σ.m++_).map K0)=_;rw[Faz,zbz a1 hp _ (Fai _),a2];rfl
end
def zb5(n:Nat)(d:Int):Ns:=⟨List.replicate n ⟨0,d-1,List.replicate n (d-1),List.replicate n (d-1)⟩,[]⟩
def Ga:Gnd:=⟨1,1,[0]⟩
def Rt:List Act30:=[⟨2,1,0,0,[]⟩]
theorem zh4:(G7 Ga 1 1 Rt).X.map (λo=>o.p.turn)=[1]:=by
 have hp:jk Ga 1:=⟨⟨ψ,ψ,ψ,ψ⟩,ψ,ψ⟩
 have h:=zj3 (n:=1) (Vr (d:=1) hp ⟨ψ,ψ⟩) 0;have e:G7 Ga 1 1 Rt=Bb 0 (Ho Ga ((1:Nat):Int) 1):=by show Fh (Ho Ga 1 1) ⟨2,1,0,0,[]⟩=_;unfold Fh;rw[if_neg ψ,if_pos rfl,if_pos ⟨ψ,ψ⟩];rfl
 have e2:Ik (Ho Ga ((1:Nat):Int) 1)=zb5 1 1:=rfl;rw[e2]at h;have h3:=congrArg (λs:Ns=>s.X.map λx=>x.turn) h;rw[e];have e4:((ee 1 0 (zb5 1 1)).X.map λx=>x.turn)=[1]:=ψ;rw[<-e4];refine Eq.trans ?_ h3;show _=((Bb 0 _).X.map Ci).map _;rw[Fdh];rfl
def zwf(st:Store)(R:Ja)(h:∀X W D L,R (.tup [.agg [yd [1],lst 1 Gv X,lst 8 zt W,lst 1 qu D,lst 3 jt L],int 0]) st):Jb 8 [.agg (zw Ga),int 1,int 1,int 1,.lst 5 [[int 2,int 1,int 0,int 0,nil]] none] st R:=by
 have hp:jk Ga 1:=⟨⟨ψ,ψ,ψ,ψ⟩,ψ,ψ⟩
 refine ACalls.le (ys:=[.agg (zw Ga),int 1,int 1,int 1,lst 5 Ag Rt]) ⟨Tt,Tt,Tt,Tt,lp ⟨⟨Tt,Tt,Tt,Tt,AV.le_nil 10,Tv⟩,Tv⟩,Tv⟩ (tq ze3 Ga (by unfold Gnd.fits;decide) ψ 1 1 1 (by unfold yq;decide) ψ ψ Rt ψ (λa ha=>?_) st R (λhh=>absurd ⟨hp,ψ,ψ⟩ hh) λ_=>?_)
 ·rw[Fbo.1 ha];exact⟨Fae _,λc hc=>(nomatch hc)⟩
 ·unfold Hl;rw[zh4];exact h _ _ _ _
def zbx(n:Int)(st:Store)(R:Ja)(h:R (int n) st):Jb 19 [int n] st R:=by refine Qy 4 Tryz.func19 ?_;exact ret h
def zil(st:Store)(R:Ja)(h:R (V.bool true) st):Jb 22 [] st R:=by refine Qy 20 Tryz.func22 ?_;exact⟨ψ,⟨ψ,zwf _ _ (λX W D L=>zbx _ _ _ ⟨ψ,yk4 [1] [1] ψ _ _ (ret h)⟩)⟩⟩
def iA(n:Nat)(A:Nat->List Inp)(t:Int):List Inp:=(List.range n).flatMap λj=>(A j).filter λi=>i.t==t
noncomputable def wA(g:Gnd)(n:Nat)(A:Nat->List Inp):Nat->Wld
 |0=>D4 g n
 |t+1=>Dz (wA g n A t) (wn (iA n A t))
structure PeeA(g:Gnd)(n:Nat)(d:Int)(A:Nat->List Inp)(i:Nat)(o:Pee):Prop where
 said:o.p.said=d-1+(A i).length
 has:∀j,j<n->o.p.has.getD j 0<=d-1+(A j).length
 inp:∀x,x∈o.p.inputs↔∃j,j<n/\x∈A j/\o.p.turn<=x.t/\x.t<=o.p.has.getD j 0
 mine:∀x∈o.p.mine,x∈A i
 h:o.h=(List.range o.h.length).map λt=>jg (wA g n A (t+1))
 w:o.w=wA g n A o.h.length
 tick:o.w.tick=o.h.length
 hs:o.p.hashes=o.h.drop (o.h.length-o.p.hashes.length)
 split:o.p.split=false
structure Agr(g:Gnd)(n:Nat)(d:Int)(A:Nat->List Inp)(σ:Pty):Prop where
 all:∀i j,(hj:j<(A i).length)->(A i)[j].t=d+j/\(A i)[j].p=(i:Int)+1
 peer:∀(i:Nat) (o:Pee),σ.X[i]?=some o->PeeA g n d A i o
 inp:∀x∈σ.m,x.inp.t=-1\/∃j,j<n/\x.inp∈A j
 done:∀x∈σ.m,(x.done=-1)\/∃t:Nat,x.done=t/\x.hash=jg (wA g n A (t+1))/\∀j,j<n->(t:Int)<=d-1+(A j).length
theorem ue:∀{a b:List Inp},a.Pairwise qr->b.Pairwise qr->(∀x,x∈a↔x∈b)->a=b
 |[],[],_,_,_=>rfl
 |[],y::b,_,_,h=>nomatch (h y).2 Fa1
 |x::a,[],_,_,h=>nomatch (h x).1 Fa1
 |x::a,y::b,ha,hb,h=>by
  obtain⟨a1,a2⟩:=Fb2.1 ha;obtain⟨b1,b2⟩:=Fb2.1 hb;have e:x=y:=by
   rcases Fax.1 ((h x).1 Fa1)with e|hx
   ·exact e
   rcases Fax.1 ((h y).2 Fa1)with e|hy
   ·exact e.symm
   exact(li (Pc (a1 y hy) (b1 x hx))).elim
  subst e;rw[ue a2 b2 λz=>?_];refine⟨λhz=>?_,λhz=>?_⟩
  ·rcases Fax.1 ((h z).1 (Fau _ hz))with rfl|hz2
   ·exact(li (a1 _ hz)).elim
   ·exact hz2
  ·rcases Fax.1 ((h z).2 (Fau _ hz))with rfl|hz2
   ·exact(li (b1 _ hz)).elim
   ·exact hz2
theorem Wo{l:List Int}{i:Nat}(h:i<l.length):l.getD i 0=l[i]:=by rw[Fap,Fac h];rfl
theorem Ps{l:List Int}{i j:Nat}(h:i<l.length)(v:Int):(l.set i v).getD j 0=if i=j then v else l.getD j 0:=by
 rw[Fap,Fap,Fdm];split
 ·rfl
 ·rfl
def ycp{L t:Nat}(f:Nat->Int)(h:t<L):((List.range L).map f).getD t 0=f t:=by simp[h]
section
variable {g:Gnd} {n:Nat} {d:Int} {A:Nat->List Inp} {σ:Pty}
theorem Agr.at(h:Agr g n d A σ){i:Nat}{x:Inp}(hx:x∈A i):x.p=(i:Int)+1/\d<=x.t/\x.t<=d-1+(A i).length:=by obtain⟨j,hj,rfl⟩:=Faf hx;have:=h.all i j hj;exact⟨this.2,θ,θ⟩
def Agr.uni(h:Agr g n d A σ){i:Nat}{x y:Inp}(hx:x∈A i)(hy:y∈A i)(e:x.t=y.t):x=y:=by obtain⟨j,hj,rfl⟩:=Faf hx;obtain⟨k,hk,rfl⟩:=Faf hy;have h1:=h.all i j hj;have h2:=h.all i k hk;have:j=k:=θ;subst this;rfl
def Agr.pw(h:Agr g n d A σ)(i:Nat):(A i).Pairwise qr:=Fbv.2 λj k hj hk hjk=>by have h1:=h.all i j hj;have h2:=h.all i k hk;exact .inl θ
def yii(h:Agr g n d A σ)(t:Int):(iA n A t).Pairwise qr:=by
 unfold iA;rw[List.pairwise_flatMap];refine⟨λj hj=>(h.pw j).filter _,Fbv.2 λa b ha hb hab x hx y hy=>?_⟩;rw[List.getElem_range]at hx hy;obtain⟨hx1,hx2⟩:=Fbc.1 hx;obtain⟨hy1,hy2⟩:=Fbc.1 hy;have h1:=h.at hx1;have h2:=h.at hy1;have e1:x.t=t:=by simpa using hx2
 have e2:y.t=t:=by simpa using hy2
 exact .inr ⟨θ,θ⟩
theorem yij{t:Int}{x:Inp}:x∈iA n A t↔∃j,j<n/\x∈A j/\x.t=t:=by
 unfold iA;rw[List.mem_flatMap];constructor
 ·rintro⟨j,hj,hx⟩;obtain⟨h1,h2⟩:=Fbc.1 hx;exact⟨j,Fbf.1 hj,h1,θv⟩
 ·rintro⟨j,hj,hx,e⟩;exact⟨j,Fbf.2 hj,Fbc.2 ⟨hx,by simpa using e⟩⟩
theorem ye2(h:Agr g n d A σ){i:Nat}{o:Pee}(ho:PeeA g n d A i o)(hp:qe o.p)(hn:o.p.players=n)(hc:Bj o.p):xl o.p=wn (iA n A o.p.turn):=by
 unfold xl;refine congrArg wn (ue ((risesI_iff.1 hp.2.2.2.2.2.2.2.2.2.1).2.filter _) (yii h _) λx=>?_);rw[yij];constructor
 ·intro hx;obtain⟨h1,h2⟩:=Fbc.1 hx;obtain⟨j,h3,h4,_⟩:=(ho.inp x).1 h1;exact⟨j,h3,h4,θv⟩
 ·rintro⟨j,hj,hx,e⟩;refine Fbc.2 ⟨(ho.inp x).2 ⟨j,hj,hx,θ,?_⟩,by simpa using e⟩;have hlt:j<o.p.has.length:=by have:=hp.2.2.1.2.1;omega
  rw[Wo hlt];have:=Bt (Faa hlt);have:=hc.1;omega
def Cp(A:Nat->List Inp)(k:Nat)(x:Inp):Nat->List Inp:=λi=>if i=k then A k++[x]else A i
def pt(A:Nat->List Inp)(k:Nat)(x:Inp)(j:Nat):(A j).length<=(Cp A k x j).length:=by
 unfold Cp;split
 ·rename_i e;subst e;rw[Fab];omega
 ·exact Fai _
def addA_mem{k j:Nat}{x y:Inp}:y∈Cp A k x j↔y∈A j\/(j=k/\y=x):=by
 unfold Cp;split
 ·rename_i e;subst e;simp
 ·rename_i e;simp[e]
theorem yik{k:Nat}{x:Inp}{t:Int}(h:x.t≠t):iA n (Cp A k x) t=iA n A t:=by
 unfold iA
 congr 1
 funext j
 unfold Cp;split
 ·rename_i e;subst e;rw[Fb5,List.filter_cons_of_neg θx,List.filter_nil,Fbh]
 ·rfl
theorem L9{k:Nat}{x:Inp}:∀{t:Nat},(t:Int)<=x.t->wA g n (Cp A k x) t=wA g n A t
 |0,_=>rfl
 |t+1,h=>by show Dz _ _=Dz _ _;rw[L9 θ,yik θ]
def PeeA.due{i:Nat}{o:Pee}(ho:PeeA g n d A i o)(hp:qe o.p)(hn:o.p.players=n)(ht:o.p.turn=o.h.length):∀j,j<n->(o.h.length:Int)-1<=d-1+(A j).length:=λj hj=>by
 have hlt:j<o.p.has.length:=by have:=hp.2.2.1.2.1;omega
 have h1:=ho.has j hj;rw[Wo hlt]at h1;have:=Bt (Faa hlt);have:=hp.2.2.2.2.1;omega
theorem PeeA.get{i:Nat}{o:Pee}(ho:PeeA g n d A i o){t:Nat}(ht:t<o.h.length):o.h.getD t 0=jg (wA g n A (t+1)):=
 (congrArg (λl:List Int=>l.getD t 0) ho.h).trans (ycp _ ht)
theorem PeeA.hsget{i:Nat}{o:Pee}(ho:PeeA g n d A i o)(j:Nat):o.p.hashes.getD j 0=o.h.getD (o.h.length-o.p.hashes.length+j) 0:=
 (congrArg (λl:List Int=>l.getD j 0) ho.hs).trans (by rw[Fap,Fbw,Fap])
theorem PeeA.add{i k:Nat}{x:Inp}{o:Pee}(ho:PeeA g n d A i o)(hp:qe o.p)(hn:o.p.players=n)(ht:o.p.turn=o.h.length)(hk:k<n)(hx:x.t=d+(A k).length)(hik:i≠k):PeeA g n d (Cp A k x) i o:=by
 have hd:=ho.due hp hn ht k hk;refine⟨?_,λj hj=>?_,λy=>?_,λy hy=>addA_mem.2 (.inl (ho.mine y hy)),?_,?_,ho.tick,ho.hs,ho.split⟩
 ·rw[ho.said];unfold Cp;rw[if_neg hik]
 ·have:=ho.has j hj;have:=pt A k x j;omega
 ·rw[ho.inp];constructor
  ·rintro⟨j,h1,h2,h3⟩;exact⟨j,h1,addA_mem.2 (.inl h2),h3⟩
  ·rintro⟨j,h1,h2,h3⟩;rcases addA_mem.1 h2 with h2|⟨rfl,rfl⟩
   ·exact⟨j,h1,h2,h3⟩
   ·have:=ho.has j h1;omega
 ·conv=>lhs;rw[ho.h]
  refine Fbx λt ht=>?_;have:=Fbf.1 ht;rw[L9 θ]
 ·rw[ho.w,L9 θ]
def yo1{B:Nat}(hP:PtyOK n d B σ)(h:Agr g n d A σ)(k:Nat)(l:List Cmd):∃A',Agr g n d A' (Km k l σ):=by
 unfold Km;split
 ·exact⟨A,h⟩
 rename_i o ho;split;rotate_left
 ·exact⟨A,h⟩
 rename_i he;obtain⟨⟨a1,a2,a3⟩,hp,hw,ht,hB⟩:=hP.peer k o ho;obtain⟨_,hs1,hs2,hsd⟩:=zep he;have hk:k<n:=by have:=(Faw.1 ho).1;have:=hP.len;omega
 have hA:=h.peer k o ho;have hmy:=hA.said;have hid:(o.p.id-1).toNat=k:=θ;have hkl:k<o.p.has.length:=by have:=hp.2.2.1.2.1;omega
 have hhk:o.p.has.getD k 0=o.p.said:=by have h2:=hp.2.2.1.2.2;simp only[hid]at h2;rw[Wo hkl];exact h2 hkl
 generalize hx:jh o.p (ofP ((k:Int)+1) l)=x;have hxt:x.t=d+(A k).length:=by rw[<-hx];show o.p.said+1=_;omega
 have hxs:x.t=o.p.said+1:=by rw[<-hx];rfl
 have hdue:=hA.due hp a2 ht;refine⟨Cp A k x,λi j hj=>?_,λi y hy=>?_,λy hy=>?_,λy hy=>?_⟩
 ·unfold Cp at hj⊢;split
  ·rename_i e;subst e;simp only[if_true]at hj;by_cases hlt:j<(A i).length
   ·rw[Fbp hlt];exact h.all i j hlt
   ·have:j=(A i).length:=by rw[Fab,Fan]at hj;omega
    subst this;simp only[Fcq (Fai _),Fc8,Fby];exact⟨hxt,by rw[<-hx];exact a1⟩
  ·rename_i e;simp only[if_neg e]at hj;exact h.all i j hj
 ·rcases Pp hy with⟨rfl,rfl⟩|⟨e,hy⟩
  ·have hh:∀j,(jc o.p (ofP ((i:Int)+1) l)).has.getD j 0=if i=j then o.p.said+1 else o.p.has.getD j 0:=λj=>by
    show(o.p.has.set (o.p.id-1).toNat (o.p.said+1)).getD j 0=_;rw[hid];exact Ps hkl _
   refine⟨?_,λj hj=>?_,λy=>?_,λy hy=>?_,?_,?_,hA.tick,hA.hs,hA.split⟩
   ·show o.p.said+1=_;unfold Cp;rw[if_pos rfl,Fab,Fan];omega
   ·dsimp only;rw[hh];split
    ·rename_i e;subst e;unfold Cp;rw[if_pos rfl,Fab,Fan];omega
    ·have:=hA.has j hj;have:=pt A i x j;omega
   ·show y∈jl o.p.inputs (jh o.p (ofP ((i:Int)+1) l))↔_;rw[hx,mem_insI,hA.inp];constructor
    ·rintro(rfl|⟨j,h1,h2,h3,h4⟩)
     ·refine⟨i,hk,addA_mem.2 (.inr ⟨rfl,rfl⟩),?_,?_⟩
      ·show o.p.turn<=_;have:=hdue i hk;omega
      ·dsimp only;rw[hh,if_pos rfl];omega
     ·refine⟨j,h1,addA_mem.2 (.inl h2),h3,?_⟩;dsimp only;rw[hh];split
      ·rename_i e;subst e;omega
      ·exact h4
    ·rintro⟨j,h1,h2,h3,h4⟩;dsimp only at h4;rw[hh]at h4;rcases addA_mem.1 h2 with h2|⟨rfl,rfl⟩
     ·refine .inr ⟨j,h1,h2,h3,?_⟩;split at h4
      ·rename_i e;subst e;have:=(h.at h2).2.2;omega
      ·exact h4
     ·exact .inl rfl
   ·have:y∈(jc o.p (ofP ((i:Int)+1) l)).mine:=hy;unfold jc at this;dsimp only at this;split at this
    ·rcases Fas.1 this with h1|h1
     ·exact addA_mem.2 (.inl (hA.mine y h1))
     ·rw[hx]at h1;exact addA_mem.2 (.inr ⟨rfl,Fbo.1 h1⟩)
    ·exact addA_mem.2 (.inl (hA.mine y this))
   ·show o.h=_
    conv=>lhs;rw[hA.h]
    refine Fbx λt ht=>?_;have:=Fbf.1 ht;have:=hdue i hk;rw[L9 θ]
   ·show o.w=wA g n (Cp A i x) o.h.length;have:=hdue i hk;rw[L9 θ,<-hA.w]
  ·obtain⟨⟨b1,b2,b3⟩,bp,bw,bt,bB⟩:=hP.peer i y hy;exact(h.peer i y hy).add bp b2 bt hk hxt e
 ·exact(h.inp y hy).imp id λ⟨j,h1,h2⟩=>⟨j,h1,addA_mem.2 (.inl h2)⟩
 ·refine(h.done y hy).imp id λ⟨t,h1,h2,h3⟩=>⟨t,h1,?_,λj hj=>?_⟩
  ·have:=h3 k hk;rw[h2,L9 θ]
  ·have:=h3 j hj;have:=pt A k x j;omega
def zg5{B:Nat}(hP:PtyOK n d B σ)(h:Agr g n d A σ){x:Nte}(hi:x.inp.t=-1\/∃j,j<n/\x.inp∈A j)(hd:(x.done=-1)\/∃t:Nat,x.done=t/\x.hash=jg (wA g n A (t+1))/\∀j,j<n->(t:Int)<=d-1+(A j).length):Agr g n d A (Bw σ x):=by
 unfold Bw;split
 ·exact h
 rename_i o ho;split;rotate_left
 ·exact h
 rename_i he;generalize hk:(x.dst-1).toNat=k at ho⊢;obtain⟨⟨a1,a2,a3⟩,hp,hw,ht,hB⟩:=hP.peer k o ho;obtain⟨_,hn,hds,hsp,htu⟩:=m6 he;have hA:=h.peer k o ho;have hs1:=hn.1;have hhl:=hp.2.2.1.2.1;obtain⟨f,hf⟩:∃f:Nat,x.src=(f:Int)+1:=⟨(x.src-1).toNat,θ⟩
 have hfe:(x.src-1).toNat=f:=θ;have hfl:f<o.p.has.length:=θ;have hfn:f<n:=θ;obtain⟨i1,i2,i3,i4,i5,i6,i7,i8,i9⟩:=s7 (p:=o.p) x;have hack:(xi o.p x).has=(jf o.p x).has/\(xi o.p x).inputs=(jf o.p x).inputs/\(xi o.p x).said=o.p.said/\(xi o.p x).turn=o.p.turn/\(xi o.p x).hashes=o.p.hashes/\∀y∈(xi o.p x).mine,y∈o.p.mine:=by
  unfold xi qy;dsimp only;split
  ·exact⟨rfl,rfl,i4,i3,i7,λy hy=>by rw[<-i6];exact hy⟩
  ·exact⟨rfl,rfl,i4,i3,i7,λy hy=>by rw[<-i6];exact(Fbc.1 hy).1⟩
 obtain⟨k1,k2,k3,k4,k5,k6⟩:=hack;have hti:(∀j,j<n->(jf o.p x).has.getD j 0<=d-1+(A j).length)/\∀y,y∈(jf o.p x).inputs↔∃j,j<n/\y∈A j/\o.p.turn<=y.t/\y.t<=(jf o.p x).has.getD j 0:=by
  unfold jf;split;rotate_left
  ·exact⟨hA.has,hA.inp⟩
  rename_i c6;obtain⟨hip,hpp,hno⟩:=sy hp hn hsp c6;rw[hfe]at c6⊢;have hgf:=Wo hfl;have hlow:=Bt (Faa hfl);have hmin:=hp.2.2.2.2.1;obtain⟨j0,hj0,hin⟩:=hi.resolve_left (by have:=hip.1;omega);have hat:=h.at hin;have:j0=f:=θ;subst this;refine⟨λj hj=>?_,λy=>?_⟩
  ·dsimp only;rw[Ps hfl];split
   ·rename_i e;subst e;omega
   ·exact hA.has j hj
  ·dsimp only;rw[mem_insI,hA.inp];constructor
   ·rintro(rfl|⟨j,h1,h2,h3,h4⟩)
    ·exact⟨j0,hfn,hin,θ,by rw[Ps hfl,if_pos rfl];omega⟩
    ·refine⟨j,h1,h2,h3,?_⟩;rw[Ps hfl];split
     ·rename_i e;subst e;omega
     ·exact h4
   ·rintro⟨j,h1,h2,h3,h4⟩;rw[Ps hfl]at h4;split at h4
    ·rename_i e;subst e;by_cases e2:y.t=o.p.has.getD j0 0+1
     ·exact .inl (h.uni h2 hin θ)
     ·exact .inr ⟨j0,h1,h2,h3,θ⟩
    ·exact .inr ⟨j,h1,h2,h3,h4⟩
 refine⟨h.all,λi y hy=>?_,h.inp,h.done⟩;rcases Pp hy with⟨rfl,rfl⟩|⟨e,hy⟩;rotate_left
 ·exact h.peer i y hy
 refine⟨k3.trans hA.said,λj hj=>by dsimp only;rw[k1];exact hti.1 j hj,λy=>by dsimp only;rw[k1,k2,k4];exact hti.2 y,λy hy=>hA.mine y (k6 y hy),hA.h,hA.w,hA.tick,by dsimp only;rw[k5];exact hA.hs,?_⟩;show(o.p.split||Hi (qy (jf o.p x) _ x.have_) x.done x.hash)=false;rw[hA.split,Fes];obtain⟨q1,q2,q3⟩:=zhe (jf o.p x) (x.src-1).toNat x.have_;refine decide_eq_false ?_;rw[q1,q2,i7,i3];rintro⟨c1,c2,c3⟩;have hl2:=hp.2.2.2.2.2.2.2.1;rcases hd with hd|⟨t,ht1,ht2,ht3⟩
 ·rw[hd]at c2;omega
 ·refine c3 ?_;rw[ht1]at c1 c2⊢;have e1:((o.p.hashes.length:Int)-(o.p.turn-t)).toNat=t-(o.h.length-o.p.hashes.length):=θ;rw[e1];have hb:o.p.hashes.length<=o.h.length:=θ;rw[hA.hsget,show o.h.length-o.p.hashes.length+(t-(o.h.length-o.p.hashes.length))=t by omega,hA.get θ,ht2]
def zg4{B:Nat}:∀(l:List Nte) {σ:Pty},PtyOK n d B σ->Agr g n d A σ->(∀x∈l,(x.inp.t=-1\/∃j,j<n/\x.inp∈A j)/\((x.done=-1)\/∃t:Nat,x.done=t/\x.hash=jg (wA g n A (t+1))/\∀j,j<n->(t:Int)<=d-1+(A j).length))->Agr g n d A (l.foldl Bw σ)
 |[],_,_,h,_=>h
 |x::l,_,hP,h,hl=>zg4 l (gi hP x) (zg5 hP h (hl x Fa1).1 (hl x Fa1).2) λy hy=>hl y (Fau _ hy)
def zg3(k:Nat):∀(c:Nat) {B:Nat} {σ:Pty},PtyOK n d B σ->Agr g n d A σ->Agr g n d A (ww k c σ)
 |0,B,σ,hP,h=>h
 |c+1,B,σ,hP,h=>by
  have hP':=Vg k 1 hP;unfold ww at hP'⊢;cases ho:σ.X[k]? with
  |none=>exact h
  |some o=>
   rw[ho]at hP';dsimp only at hP'⊢;split;rotate_left
   ·exact h
   rename_i hc;rw[if_pos hc]at hP';refine zg3 k c hP' ⟨h.all,λi y hy=>?_,h.inp,h.done⟩;rcases Pp hy with⟨rfl,rfl⟩|⟨e,hy⟩;rotate_left
   ·exact h.peer i y hy
   obtain⟨⟨a1,a2,a3⟩,hp,hw,ht,hB⟩:=hP.peer i o ho;have hA:=h.peer i o ho;have hlen:(o.h++[jg o.next]).length=o.h.length+1:=by rw[Fab,Fan]
   have en:o.next=wA g n A (o.h.length+1):=by show Dz o.w (xl o.p)=Dz _ _;rw[ye2 h hA hp a2 hc,hA.w,ht]
   refine⟨hA.said,hA.has,λy=>?_,hA.mine,?_,?_,?_,?_,hA.split⟩
   ·show y∈Ch o.p.turn o.p.inputs↔∃j,j<n/\y∈A j/\o.p.turn+1<=y.t/\_;unfold Ch;rw[Fbc,hA.inp];constructor
    ·rintro⟨⟨j,h1,h2,h3,h4⟩,h5⟩;have:y.t≠o.p.turn:=by simpa using h5
     exact⟨j,h1,h2,θ,h4⟩
    ·rintro⟨j,h1,h2,h3,h4⟩;exact⟨⟨j,h1,h2,θ,h4⟩,by simpa using(show y.t≠o.p.turn by omega)⟩
   ·show o.h++[jg o.next]=(List.range (o.h++[jg o.next]).length).map _;rw[hlen,Fc7,Faz,<-hA.h,en];rfl
   ·show o.next=wA g n A (o.h++[jg o.next]).length;rw[hlen,en]
   ·show o.next.tick=((o.h++[jg o.next]).length:Nat)
    rw[hlen];show(Dz o.w (xl o.p)).tick=_;have hct:=hc.2;have e:¬o.w.tick=1099511627776:=by rw[hA.tick,<-ht];unfold maxT at hct;omega
    rw[(gz e _).1,yld hw,hA.tick];rfl
   ·show(if 16<o.p.hashes.length+1 then(o.p.hashes++[_]).drop 1 else o.p.hashes++[_])=(o.h++[jg o.next]).drop ((o.h++[jg o.next]).length-(if 16<o.p.hashes.length+1 then(o.p.hashes++[_]).drop 1 else o.p.hashes++[_]).length);have hl2:=hp.2.2.2.2.2.2.2.1;have e:o.p.hashes++[jg o.next]=(o.h++[jg o.next]).drop (o.h.length-o.p.hashes.length):=by
     rw[List.drop_append_of_le_length θ,<-hA.hs]
    generalize jg o.next=s at*;rw[hlen];split
    ·rw[Fbj,Fab,Fan]
     conv=>lhs;rw[e,Fdr]
     congr 1
     omega
    ·rw[Fab,Fan]
     conv=>lhs;rw[e]
     congr 1
     omega
def zg2{B:Nat}(hP:PtyOK n d B σ)(h:Agr g n d A σ)(k:Nat):Agr g n d A (Bb k σ):=by
 have hP':=ge hP k;unfold Bb;split
 ·exact h
 rename_i o ho;obtain⟨⟨a1,a2,a3⟩,hp,hw,ht,hB⟩:=hP.peer k o ho;have hA:=h.peer k o ho;have hkn:k<n:=by have:=(Faw.1 ho).1;have:=hP.len;omega
 have hP2:PtyOK n d (B+8) {σ with m:=σ.m++jj o.p o.p.players.toNat}:=⟨hP.n8,hP.len,(hP.up (C:=B+8) θ).peer,λx hx=>by
   rcases Fas.1 hx with hx|hx
   ·exact hP.note x hx
   ·exact ia ⟨⟨a1,a2,a3⟩,hp⟩ hx,by
   have h1:=hP.lm;have h2:=hP.n8;have hl:=O6 o.p o.p.players.toNat;dsimp only;rw[Fab];omega,by have:=hP.ll;dsimp only;omega⟩
 refine zg3 k 4 hP2 ⟨h.all,h.peer,λx hx=>?_,λx hx=>?_⟩
 ·rcases Fas.1 hx with hx|hx
  ·exact h.inp x hx
  ·obtain⟨j,h1,h2,rfl⟩:=Vo hx;rcases zb1 o.p (j+1)with e|e
   ·rw[e];exact .inl rfl
   ·exact .inr ⟨k,hkn,hA.mine _ e⟩
 ·rcases Fas.1 hx with hx|hx
  ·exact h.done x hx
  ·obtain⟨j,h1,h2,rfl⟩:=Vo hx;by_cases e:o.p.hashes=[]
   ·exact .inl (if_pos e)
   ·have hl2:=hp.2.2.2.2.2.2.2.1;have hpos:=Fco.2 e;refine .inr ⟨o.h.length-1,?_,?_,λj hj=>?_⟩
    ·show(if o.p.hashes=[]then(-1:Int)else o.p.turn-1)=_;rw[if_neg e];omega
    ·show o.p.hashes.getLastD 0=_;rw[Fek,Fel,<-Fap,hA.hsget,show o.h.length-o.p.hashes.length+(o.p.hashes.length-1)=o.h.length-1 by omega,hA.get θ]
    ·have:=hA.due hp a2 ht j hj;omega
def zg1{B:Nat}(hP:PtyOK n d B σ)(h:Agr g n d A σ):∀c,Agr g n d A ((List.range c).foldl (fun σ k=>Bb k σ) σ)
 |0=>h
 |c+1=>by rw[Fc7,Fcp];exact zg2 (Vf hP c) (zg1 hP h c) c
def yo3{B:Nat}(hP:PtyOK n d B σ)(h:Agr g n d A σ):Agr g n d A (Nv σ):=by have h2:=zg1 hP h σ.X.length;exact zg4 (Cb σ).m (gk hP).m0 ⟨h2.all,h2.peer,λx hx=>(nomatch hx),λx hx=>(nomatch hx)⟩ λx hx=>⟨h2.inp x hx,h2.done x hx⟩
def zg6:∀(c:Nat) {B:Nat} {σ:Pty},PtyOK n d B σ->Agr g n d A σ->Agr g n d A (I1 c σ)
 |0,B,σ,_,h=>h
 |c+1,B,σ,hP,h=>zg6 c (gj hP) (yo3 hP h)
def yo2{B:Nat}(hP:PtyOK n d B σ)(h:Agr g n d A σ)(K N:Int):Agr g n d A (Gs K N σ):=by
 have he:∀j,Agr g n d A {σ with m:=σ.m.eraseIdx j}:=λj=>⟨h.all,h.peer,λx hx=>h.inp x (Fcw hx),λx hx=>h.done x (Fcw hx)⟩
 have hPe:∀j,PtyOK n d B {σ with m:=σ.m.eraseIdx j}:=λj=>⟨hP.n8,hP.len,hP.peer,λx hx=>hP.note x (Fcw hx),by have:=Feq σ.m j;have:=hP.lm;dsimp only;omega,hP.ll⟩
 unfold Gs;split
 ·exact h
 rename_i x hx;have hm:=Fa5 hx;split
 ·refine⟨h.all,h.peer,λy hy=>?_,λy hy=>?_⟩
  ·rcases Fas.1 hy with hy|hy
   ·exact h.inp y hy
   ·rw[Fbo.1 hy];exact h.inp x hm
  ·rcases Fas.1 hy with hy|hy
   ·exact h.done y hy
   ·rw[Fbo.1 hy];exact h.done x hm
 ·split
  ·exact zg5 (hPe _) (he _) (h.inp x hm) (h.done x hm)
  ·exact he _
def yo4{B:Nat}(hP:PtyOK n d B σ)(h:Agr g n d A σ)(a:Act30):∃A',Agr g n d A' (Fh σ a):=by
 unfold Fh;split
 ·split
  ·exact yo1 hP h _ _
  ·exact⟨A,h⟩
 refine⟨A,?_⟩;split
 ·split
  ·exact zg2 hP h _
  ·exact h
 split
 ·exact yo2 hP h _ _
 split
 ·split
  ·exact zg6 _ hP h
  ·exact h
 ·exact h
end
section
variable {g:Gnd} {d:Int}
def ye7{n:Nat}(hp:jk g n):Agr g n d (λ_=>[]) (Ho g n d):=by
 refine⟨λi j hj=>absurd hj (Fa2 j),λi o ho=>?_,λx hx=>(nomatch hx),λx hx=>(nomatch hx)⟩;have ho:((List.range (n:Int).toNat).map λi=>Pee.mk (xm ((i+1:Nat):Int) n d) (D4 g n) [])[i]?=some o:=ho;rw[Faq]at ho;by_cases hi:i<(n:Int).toNat
 ·rw[List.getElem?_range hi]at ho;cases ho;refine⟨?_,λj hj=>?_,λx=>⟨λhx=>(nomatch hx),λ⟨j,_,hx,_⟩=>(nomatch hx)⟩,λx hx=>(nomatch hx),rfl,rfl,rfl,rfl,rfl⟩
  ·show d-1=d-1+((0:Nat):Int);omega
  ·have e:(xm ((i+1:Nat):Int) n d).has=List.replicate (n:Int).toNat (d-1):=if_pos hp.2;show(xm ((i+1:Nat):Int) n d).has.getD j 0<=d-1+((0:Nat):Int);rw[e,Fap,Fbu,if_pos θ];show d-1<=_;omega
 ·rw[Fbl (by rw[Fcn];omega)]at ho;cases ho
def zhc{n:Nat}:∀(l:List Act30) {B:Nat} {σ:Pty} {A:Nat->List Inp},PtyOK n d B σ->Agr g n d A σ->∃A',Agr g n d A' (l.foldl Fh σ)
 |[],B,σ,A,_,h=>⟨A,h⟩
 |a::l,B,σ,A,hP,h=>by obtain⟨A',h'⟩:=yo4 hP h a;exact zhc l (za6 hP a) h'
def ylf{n:Int}(hp:jk g n)(hd:1<=d/\d<=8)(l:List Act30){i k:Nat}{a b:Pee}(ha:(G7 g n d l).X[i]?=some a)(hb:(G7 g n d l).X[k]?=some b):
  a.p.split=false/\(a.h.length:Int)=a.p.turn/\a.w.tick=a.p.turn/\(∀m,m<=a.h.length->m<=b.h.length->a.h.take m=b.h.take m)/\(a.p.turn=b.p.turn->a.w=b.w):=by
 obtain⟨m,rfl⟩:∃m:Nat,n=m:=⟨n.toNat,by have:=hp.2;omega⟩
 obtain⟨A,hA⟩:=zhc l (Vr hp hd) (ye7 hp);have hok:=zeu hp hd l;have h1:=hA.peer i a ha;have h2:=hA.peer k b hb;obtain⟨_,_,_,t1,_⟩:=hok.peer i a ha;obtain⟨_,_,_,t2,_⟩:=hok.peer k b hb;refine⟨h1.split,t1.symm,by rw[h1.tick,t1],λc c1 c2=>?_,λe=>?_⟩
 ·rw[h1.h,h2.h,<-Fep,<-Fep,List.take_range,List.take_range,Fde c1,Fde c2]
 ·rw[h1.w,h2.w,show a.h.length=b.h.length by omega]
end
def Qaw{p:Prop}(h:p:=by rw[Fc1];exact Fep.symm):p:=h
def yk5(a b:List Int)(ha:a.length<=1000000000000)(st:Store)(R:Ja)(h:R (bool (decide (a=b))) st):Jb 20 [lst 1 yh a,lst 1 yh b] st R:=by
 refine Qy 26 Tryz.func20 ?_;refine zk (λh1=>?_) (λh1=>?_)
 ·have:a≠b:=λh2=>O8 h1 (by rw[h2]);rw[show decide (a=b)=false by simp[this]]at h;exact⟨_,st,Tt,Store.Has.refl st,h⟩
 ·have hl:a.length=b.length:=Ln h1;refine AWp.loop (σ:=Nat) ⟨λi=>[(0,.av (lst 1 yh a)),(1,.av (lst 1 yh b)),(5,.av (int i))],λ_=>[],λi st'=>i<=a.length/\a.take i=b.take i/\st'=st,λi=>a.length-i⟩ zb ?_ ?_
  ·exact⟨0,Tv,⟨Fae _,rfl,rfl⟩,Qax,Tv⟩
  ·rintro i st' ⟨hi,heq,hst⟩;refine zk (λh2=>?_) (λh2=>?_)
   ·have hlt:i<a.length:=Bu h2;have hltb:i<b.length:=θ;refine Qc zb zzz ⟨i,rfl,za _ (zr hlt) ⟨i,rfl,za _ (zr hltb) (zk (λh3=>?_) (λh3=>?_))⟩⟩
    ·have hne:a[i]≠b[i]:=by
      intro h4;rw[h4]at h3;simp at h3
     have:a≠b:=θ4;rw[show decide (a=b)=false by simp[this]]at h;subst hst;exact⟨_,st',Tt,Store.Has.refl st',h⟩
    ·refine⟨⟨θ,θ⟩,⟨i+1,?_,⟨hlt,?_,hst⟩,Qax,Tv⟩⟩
     ·show a.length-(i+1)<a.length-i;omega
     ·rw[Fad hlt,Fad hltb,heq];have:a[i]=b[i]:=by simpa using h3
      rw[this]
   ·have hge:i=a.length:=Dd h2 hi;subst hge hst;have:a=b:=by
     rw[Faj,hl,Faj]at heq;exact heq
    rw[show decide (a=b)=true by simp[this]]at h;exact⟨_,st',Tt,Store.Has.refl st',h⟩
def rwm{α β:Type}{f:β->List AV}(g:α->β){X:List α}{i:Nat}(h:i<X.length):(rws f (X.map g))[i]?=some (f (g X[i])):=by rw[rws,Fdh,Faq,Fac h];rfl
def yfv{x y:Nat}{a b:Int}(ha:(x:Int)=a)(hb:(y:Int)=b):min2 a b=((min x y:Nat):Int):=by
 subst ha hb;unfold min2;by_cases h:(y:Int)<x
 ·rw[decide_eq_true h];show(y:Int)=_;omega
 ·rw[decide_eq_false h];show(x:Int)=_;omega
def yk6(a b:List Int){ra rb:List (List AV)}(hra:ra=rws yh a)(hrb:rb=rws yh b)(ha:a.length<=1000000000000)(st:Store)(R:Ja)(h:R (V.bool (decide (a=b))) st):Jb 20 [.lst 1 ra none,.lst 1 rb none] st R:=by subst hra hrb;exact yk5 a b ha st R h
def yk0{a b:Wld}(e:a=b)(hw:a.fits)(st:Store)(R:Ja)(h:R (V.bool true) st):Jb 21 [.agg (zt a),.agg (zt b)] st R:=by subst e;exact ykz a hw st R h
def Co{q:Prop}(h:q:=by repeat(first|exact Tv|refine⟨rfl,?_⟩)):q:=h
def yo5{q:Prop}(h:q:=by repeat(first|exact Tv|refine⟨rfl,?_⟩|refine⟨⟨i,rfl,za _ (rwm (λo:Pee=>o.p.turn) hlt) rfl⟩,?_⟩|refine⟨⟨k,rfl,za _ (rwm (λo:Pee=>o.p.turn) hkx) rfl⟩,?_⟩)):q:=h
def zg7{q:Prop}(h:q:=by exact⟨k+1,(show i-(k+1)<i-k by omega),⟨rfl,(show k+1<=i by omega)⟩,Qax,⟨rfl,rfl,Tv⟩⟩):q:=h
def pq{q:Prop}(h:q:=by repeat(first|exact Tv|refine⟨rfl,?_⟩|refine⟨⟨i,rfl,za _ (rwm (λo:Pee=>o.p.turn) hlt) rfl⟩,?_⟩|refine⟨⟨k,rfl,za _ (rwm (λo:Pee=>o.p.turn) hkx) rfl⟩,?_⟩|refine⟨⟨i,rfl,za _ (rwm (λo:Pee=>o.w) hlt) rfl⟩,?_⟩|refine⟨⟨k,rfl,za _ (rwm (λo:Pee=>o.w) hkx) rfl⟩,?_⟩|refine⟨⟨i,rfl,za _ (zr (f:=Gv) hlt) rfl⟩,?_⟩|refine⟨⟨k,rfl,za _ (zr (f:=Gv) hkx) rfl⟩,?_⟩|refine⟨⟨0,q,rfl,hq,Fae _,by rw[zj];exact hql,rfl⟩,?_⟩|refine⟨⟨0,q,rfl,hq,Fae _,by rw[zj];exact hqr,rfl⟩,?_⟩)):q:=h
def zw9(p:Scr30)(hp:p.good)(st:Store)(R:Ja)(h:R (V.bool true) st):Jb 5 [.agg (Fl p)] st R:=by
 refine Qb (c:=cfg 163) zb Tryz.func5 (AWp.seq (AWp.of_vc zb ?_));refine AWp.seq (AWp.of_vc zb (yin p hp _ _ (λz1 h1=>?_)));refine zk (λc1=>ret h) (λc1=>?_);have hl:=h1 c1;refine ygh p (by have:=hl.2.1;omega) _ _ (λz2 h2=>ym (zk (λc2=>?_) (λc2=>ret h)));have hm:=h2.1 c2;have hnp:jk p.G p.P:=⟨hm.1,hm.2.1⟩
 refine AWp.meet (σ:=Pty) ⟨λ_=>[(1,.bx 1 0),(3,.bx 3 0),(4,.av (int 0))],fun σ=>[(1,Fl p),(3,Hl σ)],fun σ st'=>st'=st/\∃l,l.length<=60/\σ=G7 p.G p.P p.D l⟩ zb ?_ ?_
 ·refine Qc zb zxs ?_
  have run:∀(l:List Act30) (q1:l.length<=60) (q2:∀a∈l,small a.C) (R2:Ja),R2 (.tup [.agg (Hl (G7 p.G p.P p.D l)),int 0]) st->Jb 8 [.agg (zw p.G),int p.P,int p.D,int p.R,lst 5 Ag l] st R2:=λl q1 q2 R2 hR2=>
   tq ze3 p.G (by have:=hl.2.1;unfold Gnd.fits;omega) (by have:=hl.2.1;omega) p.P p.D p.R hp.2.1.1 (by have:=hm.2.2.1;omega) hm.2.2.2 l θ q2 st R2 (λhh=>absurd ⟨hnp,hm.2.2.1⟩ hh) λ_=>hR2
  refine⟨zhd p hl _ _ (λl q1 q2=>⟨Co,⟨run l q1 q2 _ ⟨Co,⟨⟨Co,⟨⟨Co,⟨⟨Co,⟨_,⟨rfl,l,q1,rfl⟩,⟨Tq,Tq,Tq,Tv⟩,⟨rfl,rfl,Tv⟩⟩⟩,Tv⟩⟩,Tv⟩⟩,Tv⟩⟩,⟨⟨Co,⟨run l q1 q2 _ ⟨Co,⟨⟨Co,⟨⟨Co,⟨_,⟨rfl,l,q1,rfl⟩,⟨Tq,Tq,Tq,Tv⟩,⟨rfl,rfl,Tv⟩⟩⟩,Tv⟩⟩,Tv⟩⟩,Tv⟩⟩,Tv⟩⟩⟩),⟨⟨Co,⟨zhd p hl _ _ (λl q1 q2=>⟨Co,⟨run l q1 q2 _ ⟨Co,⟨⟨Co,⟨⟨Co,⟨_,⟨rfl,l,q1,rfl⟩,⟨Tq,Tq,Tq,Tv⟩,⟨rfl,rfl,Tv⟩⟩⟩,Tv⟩⟩,Tv⟩⟩,Tv⟩⟩),Tv⟩⟩,Tv⟩⟩
 rintro⟨X,m,log⟩ st' ⟨rfl,l,hl60,hσ⟩;refine AWp.seq (AWp.of_vc zb ?_);have hok:=zeu hnp hm.2.2.1 l;have hagr:=λ{i k:Nat}{a b:Pee}=>ylf (g:=p.G) (n:=p.P) (d:=p.D) hnp hm.2.2.1 l (i:=i) (k:=k) (a:=a) (b:=b);rw[<-hσ]at hok hagr;have hlen:(X.length:Int)=p.P:=hok.len;have hbig:∀{i:Nat} (hi:i<X.length),X[i].h.length<=345600:=λ{i} hi=>by have:=(hok.peer i X[i] (Fac hi)).2.2.2.2;omega
 have hn:=hm.2.1;have at1:∀{i:Nat} (hi:i<X.length),X[i]?=some X[i]:=λhi=>Fac hi;refine zbx _ _ _ ?_;have e1:∀{α:Type} (f:α->List AV) (k:List α),k.length=X.length->((rws f k).length:Int)=p.P:=λf k hk=>by rw[zj,hk];exact hlen
 refine xj (λc=>absurd (e1 _ _ (Fam ..)) c) (λ_=>xj (λc=>absurd (e1 _ _ rfl) c) (λ_=>xj (λc=>absurd (e1 _ _ (Fam ..)) c) (λ_=>xj (λc=>absurd (e1 _ _ (Fam ..)) c) (λ_=>AWp.seq (AWp.of_vc zb (AWp.loop (σ:=Nat) ⟨λi=>[(1,.bx 1 0),(3,.bx 3 0),(5,.av (int (i:Nat)))],λ_=>[(1,Fl p),(3,Hl ⟨X,m,log⟩)],λi S=>S=st'/\i<=X.length,λi=>X.length-i⟩ zb ?_ ?_))))))
 ·exact⟨0,Tv,⟨rfl,Fae _⟩,Qax,⟨rfl,rfl,Tv⟩⟩
 rintro i S ⟨rfl,hi⟩;refine bcd (λc3=>?_) (λc3=>?_)
 ·have hlt:i<X.length:=θ;obtain⟨g1,g2,g3,_⟩:=hagr (at1 hlt) (at1 hlt);refine Qc zb zxr ⟨i,rfl,za _ (rwm (λo:Pee=>o.p.split) hlt) (zk (λc=>by rw[g1]at c;cases c) (λ_=>⟨i,rfl,za _ (zr (f:=Gv) hlt) ⟨i,rfl,za _ (rwm (λo:Pee=>o.p.turn) hlt) (xj (λc=>absurd (by rw[zj];exact g2) c) (λ_=>⟨i,rfl,za _ (rwm (λo:Pee=>o.w) hlt) ⟨i,rfl,za _ (rwm (λo:Pee=>o.p.turn) hlt) (xj (λc=>absurd g3 c) (λ_=>AWp.loop (σ:=Nat) ⟨λk=>[(1,.bx 1 0),(3,.bx 3 0),(5,.av (int (i:Nat))),(6,.av (int (k:Nat)))],λ_=>[(1,Fl p),(3,Hl ⟨X,m,log⟩)],λk S2=>S2=S/\k<=i,λk=>i-k⟩ zb ?_ ?_))⟩⟩))⟩⟩))⟩
  ·exact⟨0,Tv,⟨rfl,Fae _⟩,Qax,⟨rfl,rfl,Tv⟩⟩
  rintro k S2 ⟨rfl,hk⟩;refine bcd (λc4=>?_) (λc4=>?_)
  ·have hkx:k<X.length:=θ;obtain⟨f1,f2,f3,_⟩:=hagr (at1 hkx) (at1 hkx);obtain⟨_,_,_,g4,g5⟩:=hagr (at1 hlt) (at1 hkx);refine Qc zb zxu ⟨i,rfl,za _ (rwm (λo:Pee=>o.p.turn) hlt) ⟨k,rfl,za _ (rwm (λo:Pee=>o.p.turn) hkx) ⟨⟨yo5,Qc zb zxt ⟨i,rfl,za _ (zr (f:=Gv) hlt) ?_⟩⟩,Tv⟩⟩⟩;have hq:min2 X[i].p.turn X[k].p.turn=((min X[i].h.length X[k].h.length:Nat):Int):=yfv g2 f2;have hql:min X[i].h.length X[k].h.length<=X[i].h.length:=Nat.min_le_left _ _;have hqr:min X[i].h.length X[k].h.length<=X[k].h.length:=Nat.min_le_right _ _;generalize min X[i].h.length X[k].h.length=q at*;refine⟨0,q,rfl,hq,Fae _,by rw[zj];exact hql,⟨k,rfl,za _ (zr (f:=Gv) hkx) ⟨0,q,rfl,hq,Fae _,by rw[zj];exact hqr,⟨yk6 (X[i].h.take q) (X[k].h.take q) Qaw Qaw (by rw[Fah];have:=hbig hlt;omega) _ _ ⟨pq,?_⟩,Tv⟩⟩⟩⟩;rw[g4 q hql hqr,decide_eq_true rfl];refine⟨i,rfl,za _ (rwm (λo:Pee=>o.p.turn) hlt) ⟨k,rfl,za _ (rwm (λo:Pee=>o.p.turn) hkx) (zu (λc5=>?_) (λc5=>?_))⟩⟩
   ·have hw:=(hok.peer i X[i] (at1 hlt)).2.2.1;refine⟨i,rfl,za _ (rwm (λo:Pee=>o.w) hlt) ⟨k,rfl,za _ (rwm (λo:Pee=>o.w) hkx) ⟨za _ rfl ?_,Tv⟩⟩⟩;have hz:=hw.sizes;exact yk0 (g5 c5) ⟨by unfold Gnd.fits;omega,θ,θ⟩ _ _ ⟨pq,Qd zg7⟩
   ·exact⟨za _ rfl ⟨pq,Qd zg7⟩,Tv⟩
  ·exact Qd ⟨i+1,(show X.length-(i+1)<X.length-i by omega),⟨rfl,hlt⟩,Qax,⟨rfl,rfl,Tv⟩⟩
 ·exact AWp.of_vc zb (zil _ _ (ret h))
end Go.Proofs
