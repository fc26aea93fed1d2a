/- Ground of laws of throngtop: contracts and plain lemmas; no condition beyond the row's own. -/
import Derived.Test.YtkahacegdhllcaaGreatLD
import Derived.Test.YtkahacegdhllcaaGreatKN
set_option linter.unusedSimpArgs false
set_option linter.unusedVariables false
set_option linter.defProp false
namespace Go.Proofs
open Go Go.V
set_option maxRecDepth 20000
set_option maxHeartbeats 4000000
section
def Qau{p:Prop}(h:p:=by rw[if_neg θ];exact h.up θ):p:=h
def Qav{p:Prop}(h:p:=by rw[if_pos θ];exact h2.up θ):p:=h
variable {room:Int} {s hb K:Nat} {σ:Pty} {S:Store} {n d:Int} {B:Nat}
def ys5(hdo:DoC)(h:PtyX room s hb K σ S)(hok:PtyOK n d B σ)(hB:B<=880000)(hK:K<=9000000000000000)(R:Ja)(hR:∀S',PtyX room s hb (K+131072) (Iz σ) S'->R (.tup []) S'):Jb 69 [ptr s] S R:=by
 have hn:=hok.n8;have hall:=Rn hok;refine Qy 35 Tryz.func69 ?_;have⟨X,vp,vm,vl,hX,hk,hS⟩:=h;have hl:=hok.lenX hX;have hXl:X.length=σ.X.length:=by rw[<-hX,Fal]
 obtain⟨t,rfl⟩:=Lv hS (λe=>by rw[e]at hl;simp at hl;omega);refine za (o:=S.obj s) _ (Ci hS) (AWp.loop (σ:=Nat) ⟨λj=>[(0,.av (ptr s)),(10,.av (int (X.length:Nat))),(11,.av (int (j:Nat)))],λ_=>[],λj S'=>j<=X.length/\PtyX room s hb (K+16384*j) ((List.range j).foldl (fun σ k=>Bp k σ) σ) S',λj=>X.length-j⟩ zb ?_ ?_)
 ·refine⟨0,Tv,⟨Fae _,X,_,vm,vl,hX,hk,hS⟩,⟨Tq,?_,Tq,Tv⟩,Tv⟩;rw[<-Fal (f:=λo:One=>[ptr o.q])];exact Tq
 rintro j S1 ⟨hj,h1⟩;have hok1:=Rm hok j;refine bcd (λc1=>?_) (λc1=>?_)
 ·refine zb7 hdo h1 hok1 θ θ (i:=j) θ _ λS2 h2=>Qd ⟨j+1,ϑ,⟨(show j+1<=X.length by omega),?_⟩,Qax,Tv⟩;rw[Fcw,Fce];exact h2.up θ
 have:j=σ.X.length:=θ;subst this;have h1:PtyX room s hb (K+131072) (Cg σ) S1:=h1.up θ;clear hS hX hk;have⟨X,vp,vm,vl,hX,hk,hS⟩:=h1;obtain⟨oa,cap,rfl,hr⟩:=RowsQ.form (k:=8) (f:=yg) (l:=(Cg σ).m) (Lp (k:=8) (f:=yg) (l:=(Cg σ).m) (v:=vm) (hS.at 0 rfl));have h0:=Ci hS;refine Qbc (ye (i:=ti72) (v:=nil) (b:=s) (o:=1) rfl rfl rfl h0 (show 1+1<=7 by decide) rfl ?_);have⟨a,b,e,hd,ha,hb2⟩:=(hS.at 7 rfl).store [vp,nil,nil,.s (.slice (some ⟨hb,0,none⟩) X.length X.length),nil,nil,vl];have h2:PtyX room s hb (K+131072) {Cg σ with m:=[]} b:=⟨X,vp,nil,vl,hX,hk,Sp.none (P:=λa=>RowsQ 8 yg a nil []) (.inl (.inl ⟨rfl,rfl⟩)) hb2⟩
 have e:S1.sO s (.cells (zq [vp,.s (.slice oa (Cg σ).m.length cap),nil,.s (.slice (some ⟨hb,0,none⟩) X.length X.length),nil,nil,vl] 1 [nil]))=b.un a:=e.trans (unC hd);rw[e];have hd:=xy hd;clear e hb2 hS h0 hX hk hr;have ha:RowsQ 8 yg a (.s (.slice oa (Cg σ).m.length cap)) (Cg σ).m:=ha;have hnote:=hall.note;have hlm:=hall.lm;have hok2:=hall.m0;have er:Iz σ=(Cg σ).m.foldl Ab {Cg σ with m:=[]}:=rfl;rw[er]at hR;generalize(Cg σ).m=l at*;generalize Pty.mk _ _ _=τ at hR h2 hok2;refine AWp.loop (σ:=Nat×Store) ⟨λx=>[(0,.av (ptr s)),(25,.av (.s (.slice oa l.length cap))),(26,.av (int (l.length:Nat))),(27,.av (int (x.1:Nat)))],λ_=>[],λx S'=>x.1<=l.length/\S'=x.2.un a/\zj x.2 a/\PtyX room s hb (K+131072) ((l.take x.1).foldl Ab τ) x.2,λx=>l.length-x.1⟩ zb ?_ ?_
 ·exact⟨(0,b),Tv,⟨Fae _,rfl,hd,h2⟩,Qax,Tv⟩
 clear h2 hd;rintro⟨k,b⟩ S2 ⟨hk,rfl,hd,h2⟩;dsimp only at hk hd h2⊢;have hok3:=nl (l.take k) hok2;refine bcd (λc2=>?_) (λc2=>?_)
 ·have hlt:k<l.length:=θ;have⟨oa2,cap2,e2,hr⟩:=RowsQ.form (k:=8) (f:=yg) (l:=l) (RowsQ.un (a:=b) ha);cases e2;obtain⟨bl,L,rfl,ho⟩:=hr k hlt;refine⟨k,rfl,hlt,za (o:=(b.un a).obj bl) _ ho (xr (i:=ti183) (row:=yg l[k]) rfl rfl (D3 (f:=yg) (k:=8) (λ_=>rfl) hlt) (ACalls.frame hd (zjf h2 hok3 θ (hnote _ (Faa hlt)) (λr S'=>r=.tup []/\PtyX room s hb (K+131072) (Ab ((l.take k).foldl Ab τ) l[k]) S') λS' h'=>⟨rfl,h'⟩) λr b' ⟨hr,hb'⟩ hd'=>?_))⟩;subst hr;refine Qd ⟨(k+1,b'),ϑ,⟨hlt,rfl,hd',?_⟩,Qax,Tv⟩;dsimp only;rw[Fad hlt,Fce];exact hb'
 have:k=l.length:=θ;subst this;rw[Faj]at h2;exact⟨_,b,Tt,⟨λb x hx=>yf hd hx,λb y hy=>K7 hd hy⟩,hR b h2⟩
def ofZ{P:Program}{f:FuncId}{x:AV}{xs:List AV}{z:Int}{i:Nat}{S:Store}{R:Ja}(hz:z=i)(h:ACalls P f (x::int (i:Int)::xs) S R):ACalls P f (x::int z::xs) S R:=hz▸h
def zav{q:Prop}(h:q:=by
 try refine zu (λ_=>?_) (λc=>absurd ‹a.K=_› c)
 refine ylo h hok θ a _ λS2 h2=>?_;exact ret (hR S2 (h2.up θ))):q:=h
def yu3(hdo:DoC)(h:PtyX room s hb K σ S)(hok:PtyOK n d B σ)(hB:B<=800000)(hK:K<=1000000000000000)(a:Act30)(hcs:small a.C)(R:Ja)(hR:∀S',PtyX room s hb (K+7864320) (Cb σ a) S'->R (.tup []) S'):Jb 30 [ptr s,.agg (wl a)] S R:=by
 have hn:=hok.n8;have hsl:(σ.X.length:Int)=n:=hok.len;have h':=h;have⟨X,vp,vm,vl,hX,hk,hS⟩:=h';have hl:=hok.lenX hX;obtain⟨t,rfl⟩:=Lv hS (λe=>by rw[e]at hl;simp at hl;omega);have hXm:((X.map λo=>[ptr o.q]).length:Int)=n:=by rw[Fal];exact hl
 have hs:=Ci hS;unfold Cb at hR;rw[hsl]at hR;refine Qy 61 Tryz.func30 ?_;refine Qc zb ycn (bcd (λc1=>?_) (λc1=>?_));refine Qbc ?_;rotate_left
 all_goals
  refine Qbb (zu (λe1=>?_) (λe1=>?_))
  ·rw[if_pos e1]at hR;first
   |exact ret (hR S Qau)
   |refine bcd (λc2=>?_) (λc2=>ret (hR S Qau))
    exact Qd (ofZ (z:=a.P-1) (i:=(a.P-1).toNat) θ (yfw h hok θ θ a.C hcs _ λS2 h2=>ret (hR S2 Qav)))
  rw[if_neg e1]at hR;refine zu (λe2=>?_) (λe2=>?_)
  ·rw[if_pos e2]at hR;first
   |exact ret (hR S Qau)
   |refine bcd (λc2=>?_) (λc2=>ret (hR S Qau))
    exact Qd (ofZ (z:=a.P-1) (i:=(a.P-1).toNat) θ (zb7 hdo h hok θ θ θ _ λS2 h2=>ret (hR S2 Qav)))
  rw[if_neg e2]at hR;refine zu (λe3=>?_) (λe3=>?_)
  ·rw[if_pos (.inl e3)]at hR;exact zav
  refine zu (λe4=>?_) (λe4=>?_)
  ·rw[if_pos (.inr (.inl e4))]at hR;exact zav
  refine zu (λe5=>?_) (λe5=>?_)
  ·rw[if_pos (.inr (.inr e5))]at hR;exact zav
  rw[if_neg θ]at hR;refine zu (λe6=>?_) (λe6=>?_);rotate_left
  ·rw[if_neg e6]at hR;exact ret (hR S (h.up θ))
  rw[if_pos e6]at hR;refine AWp.loop (σ:=Nat×Pty) ⟨λx=>[(0,.av (ptr s)),(3,.bx 3 0),(5,.av (int (a.N-(x.1:Nat))))],λ_=>[(3,wl a)],λx S2=>PtyX room s hb (K+131072*x.1) x.2 S2/\PtyOK n d (B+96*x.1) x.2/\x.1<=a.N.toNat/\(x.1=0\/a.N<=60)/\H4 (a.N.toNat-x.1) x.2=H4 a.N.toNat σ/\(x.1=0->x.2=σ),λx=>a.N.toNat-x.1⟩ zb ?_ ?_
  ·refine⟨(0,σ),Tv,⟨h,hok,Fae _,.inl rfl,rfl,λ_=>rfl⟩,⟨Tq,Tq,?_,Tv⟩,⟨rfl,Tv⟩⟩;show LV.le (.av (int a.N)) (.av (int (a.N-0)));rw[Int.sub_zero];exact Tq
  rintro⟨c,ρ⟩ S2 ⟨h2,hok2,hc,hc60,hrun,hz⟩;dsimp only at h2 hok2 hc hc60 hrun hz⊢;refine bcd (λc3=>?_) (λc3=>?_)
  ·refine bcd (λc4=>?_) (λc4=>?_)
   ·obtain⟨j,hj⟩:∃j,a.N.toNat-c=j+1:=⟨a.N.toNat-c-1,θ⟩
    rw[hj]at hrun;refine ys5 hdo h2 hok2 θ θ _ λS3 h3=>Qd ⟨(c+1,Iz ρ),ϑ,⟨h3.up θ,(W8 hok2).up θ,(show c+1<=_ by omega),.inr c4,?_,λe=>nomatch e⟩,⟨Tq,Tq,?_,Tv⟩,⟨rfl,Tv⟩⟩
    ·show H4 (a.N.toNat-(c+1)) _=_;rw[<-hrun,show a.N.toNat-(c+1)=j by omega];rfl
    ·show LV.le (.av (int (a.N-(c:Nat)-1))) (.av (int (a.N-((c+1:Nat):Int))));rw[show a.N-((c+1:Nat):Int)=a.N-(c:Nat)-1 by omega];exact Tq
   ·rw[if_neg c4]at hR;have:c=0:=θ;subst this;rw[hz rfl]at h2;exact ret (hR S2 (h2.up θ))
  ·have:c=a.N.toNat:=θ;subst this;rw[Fc3]at hrun;have hrun:ρ=H4 a.N.toNat σ:=hrun;by_cases h60:a.N<=60
   ·rw[if_pos h60,<-hrun]at hR;exact ret (hR S2 (h2.up θ))
   ·omega
end
def Ho(g:Gnd)(n d:Int):Pty:=⟨(List.range n.toNat).map λi=>⟨xt ((i+1:Nat):Int) n d,F7 g n,[]⟩,[],[]⟩
noncomputable def Aa(g:Gnd)(n d:Int)(l:List Act30):Pty:=l.foldl Cb (Ho g n d)
def Ml(o:Pee):List AV:=[lst 1 ym o.h]
noncomputable def C6(σ:Pty):List AV:=[yc (σ.X.map λo=>o.p.turn),lst 1 Ml σ.X,lst 8 zr (σ.X.map λo=>o.w),lst 1 qu (σ.X.map λo=>o.p.split),lst 3 xx σ.log]
section
variable {g:Gnd} {n d:Int}
def Oe(hp:xu g n)(hd:1<=d/\d<=8):PtyOK n d 0 (Ho g n d):=by
 have hn:=hp.2;refine⟨hn,?_,λi o ho=>?_,λx hx=>(nomatch hx),Fah _,Fah _,λx hx=>(nomatch hx)⟩
 ·show(((List.range n.toNat).map _).length:Int)=n;rw[Fal,Fcd];omega
 ·have ho:((List.range n.toNat).map λi=>Pee.mk (xt ((i+1:Nat):Int) n d) (F7 g n) [])[i]?=some o:=ho;rw[Far]at ho;by_cases hi:i<n.toNat
  ·rw[List.getElem?_range hi]at ho;cases ho;exact⟨⟨by show((i+1:Nat):Int)=_;omega,rfl,rfl⟩,(zfm hn ⟨θ,θ⟩).2 hd,nw hp,rfl,Fah _⟩
  ·rw[Fbe (by rw[Fcd];omega)]at ho;cases ho
def zas:∀(l:List Act30) {B:Nat} {σ:Pty},PtyOK n d B σ->PtyOK n d (B+5760*l.length) (l.foldl Cb σ)
 |[],B,σ,h=>h
 |a::l,B,σ,h=>by have:=zas l (nn h a);rw[Fbf,show B+5760*(l.length+1)=B+5760+5760*l.length by omega];exact this
def ez(hp:xu g n)(hd:1<=d/\d<=8)(l:List Act30):PtyOK n d (5760*l.length) (Aa g n d l):=by have:=zas l (Oe hp hd);rw[Fa9]at this;exact this
def zdz(g:Gnd)(n d:Int)(l:List Act30)(i:Nat)(X:List One)(vm:AV)(m:List Nte)(log:List Frm):Prop:=xu g n/\(1<=d/\d<=8)/\i<=l.length/\(⟨X.map One.core,m,log⟩:Pty)=(l.take i).foldl Cb (Ho g n d)/\∀o∈X,o.k<=7864320*i
def V9(hdo:DoC)(g:Gnd)(hg:g.fits)(hT:g.T.length<=1000000)(n d room:Int)(hn:yu n)(hd:-1000000<=d/\d<=1000000)(hr:1<=room/\room<=4096)(l:List Act30)(hl:l.length<=100)(hcs:∀a∈l,small a.C)(st:Store)(R:Ja)
  (hbad:¬(xu g n/\1<=d/\d<=8)->R (.tup [.agg [nil,nil,nil,nil,nil],int 1]) st) (hok:(xu g n/\1<=d/\d<=8)->R (.tup [.agg (C6 (Aa g n d l)),int 0]) st):Jb 8 [.agg (zw g),int n,int d,int room,lst 5 wl l] st R:=by
 have hok3:∀i X vm m log,zdz g n d l i X vm m log->PtyOK n d (5760*i) (⟨X.map One.core,m,log⟩:Pty):=λi X vm m log ⟨h1,h2,h3,h4,h5⟩=>by rw[h4];have:=zas (l.take i) (Oe h1 h2);rw[Fai,Fdm h3,Fa9]at this;exact this
 have key:=yaq g hg hT n d room hn hd hr (rws wl l) θe (λrow hrow=>by
   obtain⟨a,_,rfl⟩:=Fag.1 hrow;exact⟨a.K,a.P,a.N,a.I,lst 10 zz a.C,rfl,.inr ⟨a.C,rfl⟩⟩) (zdz g n d l)
  (λX h1 h2 h3 h4=>⟨h1,h2,Fae _,by
   show Pty.mk _ _ _=Ho g n d;unfold Ho
   congr 1
   refine Fb4 λi=>?_;rw[Far,Far];by_cases hi:i<X.length
   ·rw[List.getElem?_range θ,Fab hi];have⟨q1,q2,q3,q4,_⟩:=h4 i hi;show some (One.core X[i])=some _;unfold One.core;rw[q1,q2,q3]
   ·rw[Fbe θ,Fbe (by rw[Fcd];omega)];rfl,λo ho=>by
   obtain⟨j,hj,rfl⟩:=Faf ho;rw[(h4 j hj).2.2.2.1];exact Fae _⟩)
  (λi X vm m log hI=>by have h:=hok3 i X vm m log hI;have h2:=h.ll;have h3:=hI.2.2.1;refine⟨by have:=h.len;rw[Fal]at this;exact this,λo ho=>?_,by dsimp only at h2;omega⟩;obtain⟨j,hj,rfl⟩:=Faf ho;exact(h.peer j X[j].core (H1 rfl hj)).2.2.1)
  (λi hi s hb X vp vm vl m log S hI hS=>by
   have hil:i<l.length:=by rw[zi]at hi;exact hi
   have e:(rws wl l)[i]=wl l[i]:=Fb0 ..;rw[e];have h:=hok3 i X vm m log hI;have⟨h1,h2,h3,h4,h5⟩:=hI;refine yu3 hdo (σ:=⟨X.map One.core,m,log⟩) ⟨X,vp,vm,vl,rfl,h5,hS⟩ h θ θ l[i] (hcs _ (Faa hil)) _ λS' hS'=>⟨rfl,?_⟩
   have⟨X',vp',vm',vl',q1,q2,q3⟩:=hS';refine⟨X',vp',vm',vl',_,_,⟨h1,h2,hil,?_,λo ho=>by have:=q2 o ho;omega⟩,q3⟩;rw[Fad hil,Fce,<-h4,q1];rfl)
 refine Dn (Q:=λr=>(¬(xu g n/\1<=d/\d<=8)/\r=.tup [.agg [nil,nil,nil,nil,nil],int 1])\/((xu g n/\1<=d/\d<=8)/\r=.tup [.agg (C6 (Aa g n d l)),int 0])) (key.frozen ?_) st R λr hr=>?_
 ·rintro r S (⟨h1,rfl⟩|⟨h1,X,vm,m,log,hb,hI,⟨ho,hv⟩,rfl⟩)
  ·exact⟨_,.inl ⟨h1,rfl⟩,λOth M W y sto hy=>qv hy⟩
  ·refine⟨_,.inr ⟨h1,rfl⟩,λOth M W y sto hy=>VRel.tup2 hy (λz hz=>?_) (λz hz=>qv hz)⟩;have⟨_,_,_,h4,_⟩:=hI;rw[zi,Faj]at h4;have h4:(⟨X.map One.core,m,log⟩:Pty)=Aa g n d l:=h4;rw[<-h4];have e1:C6 ⟨X.map One.core,m,log⟩=[yc (X.map λo=>o.p.turn),.s (.slice (some ⟨hb,0,none⟩) X.length X.length),lst 8 zr (X.map λo=>o.w),lst 1 qu (X.map λo=>o.p.split),lst 3 xx log].set 1 (lst 1 Ml (X.map One.core)):=by
    unfold C6;simp only[Fdc];rfl
   rw[e1];refine zap (a:=.s (.slice (some ⟨hb,0,none⟩) X.length X.length)) (λb o hb=>hb.1) hz λu hu=>?_;have hu:=VRel.eq_s hu;subst hu;have hfl:(X.map λo=>[o.vh]).flatten=X.map λo=>o.vh:=by rw[<-List.flatMap_def];exact List.map_eq_flatMap.symm
   have hrel:VRel W (λb o=>(M b o\/Oth b o)/\S.obj b=none) (.lst 1 (X.map λo=>[o.vh]) none) (.slice (some ⟨hb,0,none⟩) X.length X.length):=
    ux (pad:=[]) (by rw[Fbi,hfl];exact(sto.obj hb _ ho).1) (λo hT=>ψr) (λ_ _ h=>h.1) (Fal ..) (Fah _)
     (λrow hr=>by obtain⟨o,_,rfl⟩:=Fag.1 hr;rfl) (λrow hr y hy=>by
     obtain⟨o,ho2,rfl⟩:=Fag.1 hr;rw[Fbl.1 hy];exact(hv o ho2).2)
   refine co (ys:=rws Ml (X.map One.core)) ?_ _ _ _ hrel;have:∀l:List One,(∀o∈l,AV.le o.vh (lst 1 ym o.h))->leQ (l.map λo=>[o.vh]) (rws Ml (l.map One.core)):=by
    intro l;induction l with
    |nil=>exact λ_=>trivial
    |cons o l ih=>exact λh=>⟨⟨h o Fa1,Tv⟩,ih λx hx=>h x (Fau _ hx)⟩
   exact this X λo ho=>(hv o ho).1
 ·rcases hr with⟨hh,rfl⟩|⟨hh,rfl⟩
  ·exact hbad hh
  ·exact hok hh
end
structure Scr30 where
 G:Gnd
 P:Int
 D:Int
 R:Int
 L:List Act30
def Act30.good(a:Act30):Prop:=(yu a.K/\yu a.P/\yu a.N/\yu a.I)/\a.C.length<=140737488355328/\∀c∈a.C,c.sized
def Ah(a:Scr30):List AV:=zw a.G++[int a.P,int a.D,int a.R,lst 5 wl a.L]
def Scr30.good(a:Scr30):Prop:=a.G.T.length<=140737488355328/\(yu a.P/\yu a.D/\yu a.R)/\a.L.length<=140737488355328/\∀x∈a.L,x.good
def p7(p:Scr30):Prop:=p.L.length<=100/\p.G.T.length<=200/\∀a∈p.L,small a.C
def pu(p:Scr30):Prop:=zv p.G/\(1<=p.P/\p.P<=8)/\(1<=p.D/\p.D<=8)/\1<=p.R/\p.R<=4096
def zhg(p:Scr30)(hp:p.good)(st:Store)(R:Ja)(h:∀z:Bool,(z=false->p7 p)->R (V.bool z) st):Jb 17 [.agg (Ah p)] st R:=by
 have hll:=hp.2.2.1;refine Qy 40 Tryz.func17 ?_;refine AWp.loop (σ:=Nat×Int) ⟨λx=>[(1,.bx 1 0),(3,.av (int x.2)),(4,.av (int (x.1:Nat)))],λ_=>[(1,Ah p)],λx st'=>st'=st/\x.1<=p.L.length/\(0<=x.2/\x.2<=281474977759232)/\(x.2<=500->∀a∈p.L.take x.1,small a.C),λx=>p.L.length-x.1⟩ zb ?_ ?_
 ·exact⟨(0,0),Tv,⟨rfl,Fae _,(by decide:(0:Int)<=0/\(0:Int)<=281474977759232),λ_ a ha=>(nomatch ha)⟩,Qax,⟨rfl,Tv⟩⟩
 rintro⟨i,n⟩ st' ⟨rfl,hi,hn,hs⟩;dsimp only at hi hn hs⊢;have yes:=h true (λe=>nomatch e);refine zk (λc1=>?_) (λc1=>?_)
 ·have hlt:i<p.L.length:=k9 c1;have⟨_,hc1,hc2⟩:=hp.2.2.2 _ (Faa hlt);refine bcd (λc2=>?_) (λc2=>?_)
  ·refine⟨i,rfl,za _ (zp hlt) (yrx p.L[i].C hc1 hc2 _ _ (λw w1 w2 w3=>?_))⟩;have hw0:0<=w:=θ;refine Qd (Qd ⟨(i+1,n+w),ϑ,⟨rfl,hlt,ξ,λh5 a ha=>?_⟩,Qax,⟨rfl,Tv⟩⟩);dsimp only at h5 ha;rw[Fad hlt]at ha;rcases Faq.1 ha with ha|ha
   ·exact hs θ a ha
   ·rw[Fbl.1 ha];exact⟨θ,λc hc=>by have:=w2 θ c hc;omega⟩
  ·exact bcd (λ_=>ret yes) (λc3=>absurd c3 θ)
 ·have:i=p.L.length:=Fg c1 hi;subst this;rw[Faj]at hs;refine bcd (λ_=>ret yes) (λc3=>zk (λ_=>ret yes) (λc4=>ret (h _ λhz=>?_)));have c4:=of_decide_eq_false c4;have hz:=of_decide_eq_false hz;rw[zi]at c4;rw[zi]at hz;exact⟨θ,θ,hs θ⟩
def zd0(n:Int)(st:Store)(R:Ja)(h:∀b:Bool,(b=true↔1<=n/\n<=4096)->R (V.bool b) st):Jb 26 [int n] st R:=by
 refine Qy 9 Tryz.func26 ?_;refine bcd (λc1=>?_) (λc1=>?_)
 ·exact ret (h _ (by rw[decide_eq_true_eq];omega))
 ·exact ret (h false χ)
def ysa(l:List Cmd)(hl:l.length<=1000000000000)(hf:∀x∈l,Cmd.fits x)(st:Store)(R:Ja)(h:R (lst 10 zz l) st):Jb 32 [lst 10 zz l] st R:=by
 refine Qy 20 Tryz.func32 ?_;refine AWp.loop (σ:=Nat×AV) ⟨λs=>[(0,.av (lst 10 zz l)),(3,.av s.2),(4,.av (int s.1))],λ_=>[],λs st'=>s.1<=l.length/\App 10 st s.2 (rws zz (l.take s.1)) st',λs=>l.length-s.1⟩ zb ?_ ?_
 ·exact⟨(0,_),Tv,⟨Fae _,App.start 10 st⟩,⟨Tq,Tq,Tq,Tv⟩,Tv⟩
 ·rintro⟨i,v⟩ st' ⟨hi,ha⟩;simp only at hi;refine zk (λh1=>?_) (λh1=>?_)
  ·have hlt:i<l.length:=k9 h1;refine⟨i,rfl,za _ (zp hlt) (yr9 l[i] (hf _ (Faa hlt)) st' _ ⟨ψ,jy (ie:=ti136) (rows':=[zz l[i]]) ha ?_ ?_ ⟨?_,?_⟩ (λv2 st2 ha2=>?_)⟩)⟩
   ·rfl
   ·rfl
   ·simp[zi,ti136];omega
   ·simp[zi];omega
   ·refine⟨⟨θ,θ⟩,⟨(i+1,v2),?_,⟨hlt,?_⟩,Qax,Tv⟩⟩
    ·show l.length-(i+1)<l.length-i;omega
    ·rw[<-Rf hlt];exact ha2
  ·have hge:i=l.length:=Fg h1 hi;subst hge;refine⟨_,st,AV.le_trans ha.le ?_,ha.has,h⟩;rw[Faj];exact Tt
def gu{q:Prop}(h:q:=by
 refine⟨ψ,jy (ie:=ti59) (rows':=[wl b]) ha ?_ ?_ ⟨?_,?_⟩ (λv2 st2 ha2=>?_)⟩
 ·rfl
 ·rfl
 ·simp[zi,ti59];omega
 ·simp[zi];omega
 refine Qd ⟨(i+1,cc,l++[b],v2),ϑ,⟨hlt,(show i+1<=60 by omega),hcc,(show(l++[b]).length<=i+1 by rw[Fac,Fan];omega),λa ha=>?_,?_⟩,Qax,⟨rfl,Tv⟩⟩
 ·rcases Faq.1 ha with ha|ha
  ·exact hls a ha
  ·rw[Fbl.1 ha];exact hb
 ·dsimp only;rw[show rws wl (l++[b])=rws wl l++[wl b]from Fav];exact ha2):q:=h
def zau(p:Scr30)(hp:p7 p)(st:Store)(R:Ja)(h:∀l:List Act30,l.length<=60->(∀a∈l,small a.C)->R (lst 5 wl l) st):Jb 9 [.agg (Ah p)] st R:=by
 have⟨hl,hT,hs⟩:=hp;refine Qy 56 Tryz.func9 ?_;refine AWp.loop (σ:=Nat×Int×List Act30×AV) ⟨λx=>[(1,.bx 1 0),(3,.av x.2.2.2),(4,.av (int x.2.1)),(5,.av (int (x.1:Nat)))],λ_=>[(1,Ah p)],λx st'=>x.1<=p.L.length/\x.1<=60/\(0<=x.2.1/\x.2.1<=4*x.1)/\x.2.2.1.length<=x.1/\(∀a∈x.2.2.1,small a.C)/\App 5 st x.2.2.2 (rws wl x.2.2.1) st',λx=>p.L.length-x.1⟩ zb ?_ ?_
 ·exact⟨(0,0,[],_),Tv,⟨Fae _,Fae _,(by decide:(0:Int)<=0/\(0:Int)<=4*0),Fah _,λa ha=>(nomatch ha),App.start 5 st⟩,⟨Tq,Tq,Tq,Tq,Tv⟩,⟨rfl,Tv⟩⟩
 rintro⟨i,c,l,v⟩ st' ⟨hi,hi6,hc,hll,hls,ha⟩;dsimp only at hi hi6 hc hll hls ha⊢;refine zk (λc1=>?_) (λc1=>?_);rotate_left
 ·exact⟨_,st,ha.le,ha.has,h l θ hls⟩
 have hlt:i<p.L.length:=k9 c1;refine bcd (λc2=>?_) (λc2=>?_);rotate_left
 ·exact⟨_,st,ha.le,ha.has,h l θ hls⟩
 refine⟨i,rfl,za _ (zp hlt) ?_⟩;have hsm:=hs _ (Faa hlt);refine ysa p.L[i].C (by have:=hsm.1;omega) (λx hx=>by have:=hsm.2 x hx;unfold Cmd.fits;omega) _ _ ?_;refine zu (λc3=>?_) (λc3=>by
  let b:Act30:=p.L[i]
  let cc:Int:=c
  have hcc:0<=cc/\cc<=4*((i+1:Nat):Int):=by show 0<=c/\c<=_;omega
  have hb:small b.C:=hsm;exact gu)
 refine bcd (λc4=>?_) (λc4=>by
  let b:Act30:=p.L[i]
  let cc:Int:=c
  have hcc:0<=cc/\cc<=4*((i+1:Nat):Int):=by show 0<=c/\c<=_;omega
  have hb:small b.C:=hsm;exact gu)
 refine bcd (λc5=>?_) (λc5=>by
  let b:Act30:=p.L[i]
  let cc:Int:=c
  have hcc:0<=cc/\cc<=4*((i+1:Nat):Int):=by show 0<=c/\c<=_;omega
  have hb:small b.C:=hsm;exact gu)
 have ht1:=Int.tmod_lt_of_pos p.L[i].N (show(0:Int)<4 by decide);have ht0:=Int.tmod_nonneg (a:=p.L[i].N) 4 θ;refine⟨ψ,Qd (Qd ?_)⟩;refine bcd (λc6=>?_) (λc6=>by
  let b:Act30:={p.L[i]with N:=1+p.L[i].N.tmod 4}
  let cc:Int:=c+(1+p.L[i].N.tmod 4)
  have hcc:0<=cc/\cc<=4*((i+1:Nat):Int):=by show 0<=c+(1+p.L[i].N.tmod 4)/\c+(1+p.L[i].N.tmod 4)<=_;omega
  have hb:small b.C:=hsm;exact gu)
 exact Qd ⟨(i+1,c+(1+p.L[i].N.tmod 4),l,v),ϑ,⟨hlt,(show i+1<=60 by omega),ξ,(show l.length<=i+1 by omega),hls,ha⟩,Qax,⟨rfl,Tv⟩⟩
def yu5:Codec Tryz.prog 60 Act30 wl Act30.good:=by refine⟨λ{H} enc w base held fuel cs x hx hw=>?_⟩;have hu:=Tryz.underlying60;have hl:cs.length=5:=(Px hu hx).trans κ;have⟨a0,q0,h0⟩:=kk hu hx hw 0 0 1 rfl rfl κ By;have⟨a1,q1,h1⟩:=kk hu hx hw 1 1 1 rfl rfl κ By;have⟨a2,q2,h2⟩:=kk hu hx hw 2 2 1 rfl rfl κ By;have⟨a3,q3,h3⟩:=kk hu hx hw 3 3 1 rfl rfl κ By;have⟨a4,q4,h4⟩:=kk hu hx hw 4 4 1 rfl rfl κ ysg;refine⟨⟨a0,a1,a2,a3,a4⟩,⟨⟨q0,q1,q2,q3⟩,q4⟩,?_⟩;have:=h0.cons rfl (h1.cons rfl (h2.cons rfl (h3.cons rfl (h4.cons rfl (CellsOK.stop hl)))));rw[Fda]at this;exact this
def yu2:Codec Tryz.prog 25 (List Act30) (λl=>[lst 5 wl l]) (λl=>l.length<=140737488355328/\∀x∈l,x.good):=
 (Codec.slice Tryz.underlying25 (k:=5) κ ψ (of_decide_eq_true κ) yu5).weaken λ_ h=>⟨h.2,h.1⟩
def scr30_codec:Codec Tryz.prog 27 Scr30 Ah Scr30.good:=by refine⟨λ{H} enc w base held fuel cs x hx hw=>?_⟩;have hu:=Tryz.underlying27;have hl:cs.length=7:=(Px hu hx).trans κ;have⟨a0,q0,h0⟩:=kk hu hx hw 0 0 3 rfl rfl κ yoj;have⟨a1,q1,h1⟩:=kk hu hx hw 1 3 1 rfl rfl κ By;have⟨a2,q2,h2⟩:=kk hu hx hw 2 4 1 rfl rfl κ By;have⟨a3,q3,h3⟩:=kk hu hx hw 3 5 1 rfl rfl κ By;have⟨a4,q4,h4⟩:=kk hu hx hw 4 6 1 rfl rfl κ yu2;refine⟨⟨a0,a1,a2,a3,a4⟩,⟨q0,⟨q1,q2,q3⟩,q4⟩,?_⟩;have:=h0.cons rfl (h1.cons rfl (h2.cons rfl (h3.cons rfl (h4.cons rfl (CellsOK.stop hl)))));rw[Fda]at this;exact this
structure Nm where
 turn:Int
 said:Int
 has:List Int
 acked:List Int
structure Nn where
 src:Int
 dst:Int
 t:Int
 hv:Int
structure Ns where
 X:List Nm
 m:List Nn
def xp(o:Pee):Nm:=⟨o.p.turn,o.p.said,o.p.has,o.p.acked⟩
def Dl(x:Nte):Nn:=⟨x.src,x.dst,x.inp.t,x.have_⟩
def qz(σ:Pty):Ns:=⟨σ.X.map xp,σ.m.map Dl⟩
def Wl(k:Nat):Nat->Ns->Ns
 |0,σ=>σ
 |c+1,σ=>match σ.X[k]? with
  |none=>σ
  |some x=>if x.turn<=yy x.has/\x.turn<maxT then Wl k c {σ with X:=σ.X.set k {x with turn:=x.turn+1}}else σ
def zfk(k:Nat)(x:Nm)(j:Nat):Nn:=⟨(k:Int)+1,((j+1:Nat):Int),if x.acked.getD j 0+1<=x.said then x.acked.getD j 0+1 else -1,x.has.getD j 0⟩
def bu(k:Nat)(x:Nm):Nat->List Nn
 |0=>[]
 |n+1=>bu k x n++(if n=k then []else [zfk k x n])
def Pw(n k:Nat)(σ:Ns):Ns:=match σ.X[k]? with
 |none=>σ
 |some x=>Wl k 4 {σ with m:=σ.m++bu k x n}
theorem Rt(σ:Pty)(k:Nat):(qz σ).X[k]?=σ.X[k]?.map xp:=Far ..
theorem oz(σ:Pty)(k:Nat)(o:Pee)(m:List Nte)(l:List Frm):qz ⟨σ.X.set k o,m,l⟩=⟨(qz σ).X.set k (xp o),m.map Dl⟩:=by show Ns.mk ((σ.X.set k o).map xp) _=_;rw[Fc6];rfl
section
variable {n:Nat} {d:Int} {B:Nat} {σ:Pty}
theorem zdw(k:Nat):∀(c:Nat) {σ:Pty},qz (Ax k c σ)=Wl k c (qz σ)
 |0,σ=>rfl
 |c+1,σ=>by
  unfold Ax Wl;rw[Rt];cases ho:σ.X[k]? with
  |none=>rfl
  |some o=>
   dsimp only[Option.map];by_cases hc:Cr o.p
   ·rw[if_pos hc,if_pos (show(xp o).turn<=yy (xp o).has/\(xp o).turn<maxT from hc),zdw k c,oz];rfl
   ·rw[if_neg hc,if_neg (show¬((xp o).turn<=yy (xp o).has/\(xp o).turn<maxT)from hc)]
theorem yjo{k:Nat}{o:Pee}(hid:o.p.id=(k:Int)+1)(hp:qj o.p){j:Nat}(hj:j<o.p.players.toNat):Dl (F6 o.p (j+1))=zfk k (xp o) j:=by
 have hm:=hp.2.2.2.2.2.2.2.2.1;have hal:=hp.2.2.2.1.2.1;have hja:j<o.p.acked.length:=θ;have hg:o.p.acked.getD j 0=o.p.acked[j]:=by rw[Fao,Fab hja];rfl
 have hmin:=C9 (Faa hja);have hb:=hp.2.2.2.1.1 j hja;have hd:=hp.1.2.2.1;have key:((o.p.mine.find? (Fo o.p (j+1))).getD inp0).t=if o.p.acked.getD j 0+1<=o.p.said then o.p.acked.getD j 0+1 else -1:=by
  have hw:∀i:Inp,Fo o.p (j+1) i=(i.t==o.p.acked.getD j 0+1):=λi=>rfl;cases h:o.p.mine.find? (Fo o.p (j+1))with
  |none=>
   rw[if_neg]
   ·rfl
   intro hle;rw[Fem]at h;have hlt:(o.p.acked[j]-yy o.p.acked).toNat<o.p.mine.length:=by have:=hm.1;omega
   refine h _ (Faa hlt) ?_;rw[hw,(hm.2 _ hlt).2.2,hg,beq_iff_eq];have:=hm.1;omega
  |some x=>
   have h1:=List.find?_some h;have h2:=Fc9 h;have⟨i,hi,e⟩:=Faf h2;have h3:=(hm.2 i hi).2.2;rw[e]at h3;rw[hw,beq_iff_eq]at h1;show x.t=_;rw[if_pos θ,h1]
 show Nn.mk o.p.id ((j+1:Nat):Int) ((o.p.mine.find? (Fo o.p (j+1))).getD inp0).t (o.p.has.getD j 0)=_;rw[key,hid];rfl
theorem zfh{k:Nat}{o:Pee}(hid:o.p.id=(k:Int)+1)(hp:qj o.p):∀c,c<=o.p.players.toNat->(j4 o.p c).map Dl=bu k (xp o) c
 |0,_=>rfl
 |c+1,hc=>by
  show(j4 o.p c++_).map Dl=bu k (xp o) c++_;rw[Fav,zfh hid hp c θ]
  congr 1
  by_cases e:((c+1:Nat):Int)=o.p.id
  ·rw[if_pos e,if_pos θ];rfl
  ·rw[if_neg e,if_neg θ];show [Dl _]=_;rw[yjo hid hp θ]
def zb8(hP:PtyOK n d B σ)(k:Nat):qz (Bp k σ)=Pw n k (qz σ):=by
 unfold Bp Pw;rw[Rt];cases ho:σ.X[k]? with
 |none=>rfl
 |some o=>
  have⟨⟨a1,a2,a3⟩,hp,_⟩:=hP.peer k o ho;dsimp only[Option.map];rw[zdw]
  congr 1
  show Ns.mk _ ((σ.m++_).map Dl)=_;rw[Fav,zfh a1 hp _ (Fah _),a2];rfl
end
def Rw(n:Nat)(d:Int):Ns:=⟨List.replicate n ⟨0,d-1,List.replicate n (d-1),List.replicate n (d-1)⟩,[]⟩
def G8:Gnd:=⟨1,1,[0]⟩
def Vn:List Act30:=[⟨2,1,0,0,[]⟩]
theorem zl1:(Aa G8 1 1 Vn).X.map (λo=>o.p.turn)=[1]:=by
 have hp:xu G8 1:=⟨⟨ψ,ψ,ψ,ψ⟩,ψ,ψ⟩
 have h:=zb8 (n:=1) (Oe (d:=1) hp ⟨ψ,ψ⟩) 0;have e:Aa G8 1 1 Vn=Bp 0 (Ho G8 ((1:Nat):Int) 1):=by show Cb (Ho G8 1 1) ⟨2,1,0,0,[]⟩=_;unfold Cb;rw[if_neg ψ,if_pos rfl,if_pos ⟨ψ,ψ⟩];rfl
 have e2:qz (Ho G8 ((1:Nat):Int) 1)=Rw 1 1:=rfl;rw[e2]at h;have h3:=congrArg (λs:Ns=>s.X.map λx=>x.turn) h;rw[e];have e4:((Pw 1 0 (Rw 1 1)).X.map λx=>x.turn)=[1]:=ψ;rw[<-e4];refine Eq.trans ?_ h3;show _=((Bp 0 _).X.map xp).map _;rw[Fdc];rfl
def zcr(st:Store)(R:Ja)(h:∀X W D L,R (.tup [.agg [yc [1],lst 1 Ml X,lst 8 zr W,lst 1 qu D,lst 3 xx L],int 0]) st):Jb 8 [.agg (zw G8),int 1,int 1,int 1,.lst 5 [[int 2,int 1,int 0,int 0,nil]] none] st R:=by
 have hp:xu G8 1:=⟨⟨ψ,ψ,ψ,ψ⟩,ψ,ψ⟩
 refine ACalls.le (ys:=[.agg (zw G8),int 1,int 1,int 1,lst 5 wl Vn]) ⟨Tt,Tt,Tt,Tt,co ⟨⟨Tt,Tt,Tt,Tt,AV.le_nil 10,Tv⟩,Tv⟩,Tv⟩ (V9 fg G8 (by unfold Gnd.fits;decide) ψ 1 1 1 (by unfold yu;decide) ψ ψ Vn ψ (λa ha=>?_) st R (λhh=>absurd ⟨hp,ψ,ψ⟩ hh) λ_=>?_)
 ·rw[Fbl.1 ha];exact⟨Fae _,λc hc=>(nomatch hc)⟩
 ·unfold C6;rw[zl1];exact h _ _ _ _
def Du{q:Prop}(h:q:=by repeat(first|exact Tv|refine⟨rfl,?_⟩)):q:=h
def rdO(p:Nat)(s:Rd)(st:Store):Store:=st.sO p (.cells [qa s.b,int s.e])
def yq(p:Nat)(s:Rd)(st:Store):(rdO p s st).obj p=some (.cells [qa s.b,int s.e]):=zd _ _ _
theorem Wv(p:Nat)(s:Rd)(st:Store)(b:List UInt8)(e:Int):(rdO p s st).sO p (.cells [qa b,int e])=rdO p ⟨b,e⟩ st:=yw _ _ _ _
def zih(p:Nat)(s:Rd)(st:Store)(e:Int)(R:Ja)(h:R (.tup []) (rdO p (s.fail e) st)):Jb 84 [ptr p,int e] (rdO p s st) R:=by
 refine Qy 13 Tryz.func84 ?_;first|refine za _ (yq p s st) ?_|refine optR (za _ (yq p s st) ?_)|refine optR (optR (za _ (yq p s st) ?_))
 unfold Rd.fail at h;refine zu (λh1=>?_) (λh1=>?_)
 ·rw[if_pos h1]at h;first|refine za _ (yq p s st) ?_|refine optR (za _ (yq p s st) ?_)|refine optR (optR (za _ (yq p s st) ?_))
  refine⟨φ,ret ?_⟩;show R _ ((rdO p s st).sO p (.cells [qa s.b,int e]));rw[Wv];exact h
 ·rw[if_neg h1]at h;exact ret h
def Rz(p:Nat)(s:Rd)(st:Store)(ok:Bool)(R:Ja)(h:R (.tup []) (rdO p (s.must ok) st)):Jb 44 [ptr p,bool ok] (rdO p s st) R:=by
 refine Qy 8 Tryz.func44 ?_;cases ok with
 |true=>exact ret h
 |false=>exact zih p s st 1 _ (ret h)
def ygc(p:Nat)(s:Rd)(st:Store)(n:Int)(k:Nat)(e:Int)(hk:s.e=0->e=0->k<=s.b.length)(R:Ja)(h:R (int (s.take n k e).1) (rdO p (s.take n k e).2 st)):Jb 83 [ptr p,int n,int k,int e] (rdO p s st) R:=by
 refine Qy 27 Tryz.func83 ?_;refine zih p s st e _ ?_;unfold Rd.take at h;first|refine za _ (yq p _ st) ?_|refine optR (za _ (yq p _ st) ?_)|refine optR (optR (za _ (yq p _ st) ?_))
 refine qi (λh1=>?_) (λh1=>?_)
 ·rw[if_pos h1]at h;exact ret h
 ·rw[if_neg θj]at h;have hse:s.fail e=⟨s.b,0⟩/\k<=s.b.length:=by
   unfold Rd.fail at h1⊢;split at h1
   ·rename_i h2;simp only at h1;rw[if_pos h2,h1];exact⟨rfl,hk h2 h1⟩
   ·rename_i h2;exact absurd h1 h2
  rw[hse.1];first|refine za _ (yq p _ st) ?_|refine optR (za _ (yq p _ st) ?_)|refine optR (optR (za _ (yq p _ st) ?_))
  refine⟨k,(rowsB s.b).length,rfl,rfl,by rw[zi];exact hse.2,Fah _,?_⟩;first|refine za _ (yq p _ st) ?_|refine optR (za _ (yq p _ st) ?_)|refine optR (optR (za _ (yq p _ st) ?_))
  refine⟨φ,ret ?_⟩;rw[Faj,zdv];show R _ ((rdO p ⟨s.b,0⟩ st).sO p (.cells [qa (s.b.drop k),int 0]));rw[Wv];exact h
def zj6(p:Nat)(s:Rd)(st:Store)(R:Ja)(h:R (u8 s.byte.1) (rdO p s.byte.2 st)):Jb 43 [ptr p] (rdO p s st) R:=by
 refine Qy 40 Tryz.func43 ?_;first|refine za _ (yq p _ st) ?_|refine optR (za _ (yq p _ st) ?_)|refine optR (optR (za _ (yq p _ st) ?_))
 unfold Rd.byte at h;have⟨b,e⟩:=s;refine zu (λh1=>?_) (λh1=>?_)
 ·simp only at h1;subst h1;first|refine za _ (yq p _ st) ?_|refine optR (za _ (yq p _ st) ?_)|refine optR (optR (za _ (yq p _ st) ?_))
  refine zu (λh2=>?_) (λh2=>?_)
  ·rw[zi]at h2;obtain rfl:b=[]:=Fa0 θs;first|refine za _ (yq p _ st) ?_|refine optR (za _ (yq p _ st) ?_)|refine optR (optR (za _ (yq p _ st) ?_))
   refine⟨φ,?_⟩;first|refine za _ (zd _ _ _) ?_|refine optR (za _ (zd _ _ _) ?_)|refine optR (optR (za _ (zd _ _ _) ?_))
   refine ret ?_;show R _ ((rdO p ⟨[],0⟩ st).sO p (.cells [qa [],int 11]));rw[Wv];exact h
  ·rw[zi]at h2;cases b with
   |nil=>simp at h2
   |cons c l=>
   first|refine za _ (yq p _ st) ?_|refine optR (za _ (yq p _ st) ?_)|refine optR (optR (za _ (yq p _ st) ?_))
   first|refine za _ (yq p _ st) ?_|refine optR (za _ (yq p _ st) ?_)|refine optR (optR (za _ (yq p _ st) ?_))
   refine⟨0,rfl,za _ rfl ?_⟩;first|refine za _ (yq p _ st) ?_|refine optR (za _ (yq p _ st) ?_)|refine optR (optR (za _ (yq p _ st) ?_))
   refine⟨1,(rowsB (c::l)).length,rfl,rfl,by rw[zi];simp,Fah _,?_⟩;first|refine za _ (yq p _ st) ?_|refine optR (za _ (yq p _ st) ?_)|refine optR (optR (za _ (yq p _ st) ?_))
   refine⟨φ,ret ?_⟩;rw[Faj,zdv];show R _ ((rdO p ⟨c::l,0⟩ st).sO p (.cells [qa l,int 0]));rw[Wv];exact h
 ·simp only at h1;rw[if_pos h1]at h;first|refine za _ (yq p _ st) ?_|refine optR (za _ (yq p _ st) ?_)|refine optR (optR (za _ (yq p _ st) ?_))
  exact qi (λh2=>ret h) (λh2=>absurd h2 h1)
def zds(p:Nat)(s:Rd)(st:Store)(l:List UInt8){v:AV}(hv:AV.le v (qa l))(hl:l.length<=1000000000000)(R:Ja)(h:R (.tup []) (rdO p (s.same l) st)):Jb 41 [ptr p,v] (rdO p s st) R:=by
 refine ACalls.le (ys:=[ptr p,qa l]) ⟨Tt,hv,Tv⟩ (Qy 21 Tryz.func41 ?_)
 refine AWp.loop (σ:=Nat) ⟨λi=>[(0,.av (ptr p)),(7,.av (qa l)),(8,.av (int l.length)),(9,.av (int (i:Nat)))],λ_=>[],
  λi st'=>i<=l.length/\st'=rdO p (s.same (l.take i)) st,λi=>l.length-i⟩ zb ?_ ?_
 ·refine⟨0,Tv,⟨Fae _,rfl⟩,⟨Tq,Tq,?_,Tq,Tv⟩,Tv⟩;rw[<-zi (f:=u8C) l];exact Tq
 ·rintro i st' ⟨hi,rfl⟩;refine bcd (λh1=>?_) (λh1=>?_)
  ·have hlt:i<l.length:=θ;refine⟨i,rfl,za _ (zp hlt) (zj6 p _ st _ (Rz p _ st (((s.same (l.take i)).byte.1.toNat:Int)==(l[i].toNat:Int)) _ ⟨⟨θ,θ⟩,⟨i+1,?_,⟨hlt,?_⟩,Qax,Tv⟩⟩))⟩
   ·show l.length-(i+1)<l.length-i;omega
   ·have e:(((s.same (l.take i)).byte.1.toNat:Int)==(l[i].toNat:Int))=((s.same (l.take i)).byte.1==l[i]):=by
     rw[Fb9];simp only[beq_iff_eq];constructor
     ·intro h;exact UInt8.toNat_inj.1 θ
     ·intro h;rw[h]
    rw[e,Fad hlt];unfold Rd.same;rw[Fce];rfl
  ·obtain rfl:i=l.length:=θ;rw[Faj];exact ret h
def yol(b:List UInt8)(hb:b.length<=140737488355328)(st:Store)(R:Ja)(h:R (.tup [int (xk b).1,int (xk b).2.1,int (xk b).2.2]) st):Jb 82 [qa b] st R:=by
 refine Qy 42 Tryz.func82 ?_
 refine AWp.loop (σ:=Nat×Int) ⟨λs=>[(2,.av (int s.2)),(7,.av (qa b)),(8,.av (int b.length)),(9,.av (int (s.1:Nat)))],λ_=>[],
  λs st'=>s.1<=b.length/\s.1<=8/\st'=st/\wh (b.drop s.1) s.1 s.2=xk b/\0<=s.2/\s.2<128^s.1,λs=>b.length-s.1⟩ zb ?_ ?_
 ·refine⟨(0,0),Tv,⟨Fae _,φ,rfl,rfl,ψ,ψ⟩,⟨Tq,Tq,?_,Tq,Tv⟩,Tv⟩;rw[<-zi (f:=u8C) b];exact Tq
 ·rintro⟨i,n⟩ st' ⟨hi,h8,rfl,hg,h0,hn⟩;dsimp only at hi h8 hg h0 hn⊢;refine bcd (λh1=>?_) (λh1=>?_)
  ·have hlt:i<b.length:=θ;refine⟨i,rfl,za _ (zp hlt) ?_⟩;rw[Fcl hlt]at hg;unfold wh at hg;have hx:b[i].toNat%128<128:=Nat.mod_lt _ θ;have hs:=V8 (x:=b[i].toNat%128) h0 hn hx;have hp:=bd (i:=i+1) θ;refine⟨?_,⟨θ,θ⟩,θ,?_⟩
   ·rw[zk1];exact⟨θ,θ⟩
   have hor:vr .or .i64 n (IntKind.i64.wrap (vr .and .u8 b[i].toNat 127*2^(min ((7:Int)*(i:Int)).toNat IntKind.i64.bits)))=n+(b[i].toNat%128:Nat)*128^i:=by rw[zk1];exact or7 h0 hn hx h8
   refine bcd (λh2=>?_) (λh2=>?_)
   ·refine zu (λh3=>?_) (λh3=>?_)
    ·rw[if_pos (.inl ⟨θ,θ⟩)]at hg;refine zu (λ_=>?_) (λh=>absurd h3 h);rw[<-hg]at h;exact ret h
    ·refine zu (λh4=>by exfalso;omega) (λh4=>?_);rw[if_neg θ,if_neg θ]at hg;refine bcd (λh5=>by exfalso;omega) (λh5=>⟨⟨θ,θ⟩,⟨(i+1,n+(b[i].toNat%128:Nat)*128^i),?_,⟨hlt,θ,rfl,hg,hs.1,hs.2⟩,⟨?_,Tq,Tq,Tq,Tv⟩,Tv⟩⟩)
     ·show b.length-(i+1)<b.length-i;omega
     ·simp only;rw[<-hor];exact Tq
   ·refine zu (λh4=>?_) (λh4=>?_)
    ·refine bcd (λh5=>?_) (λh5=>?_)
     ·rw[if_pos (.inr ⟨θ,θ⟩)]at hg;rw[<-hg]at h;exact ret h
     ·rw[if_neg θ,if_pos θ]at hg;refine bcd (λh6=>⟨⟨θ,θ⟩,?_⟩) (λh6=>by exfalso;omega);rw[<-hg,<-hor]at h;exact ret h
    ·rw[if_neg θ,if_pos θ]at hg;refine bcd (λh6=>⟨⟨θ,θ⟩,?_⟩) (λh6=>by exfalso;omega);rw[<-hg,<-hor]at h;exact ret h
  ·obtain rfl:i=b.length:=θ;rw[Fdy]at hg;rw[<-hg]at h;exact ret h
def zff(p:Nat)(s:Rd)(st:Store)(lo hi:Int)(hb:s.b.length<=140737488355328)(R:Ja)(h:R (int (s.num lo hi).1) (rdO p (s.num lo hi).2 st)):Jb 42 [ptr p,int lo,int hi] (rdO p s st) R:=by
 refine Qy 40 Tryz.func42 ?_;first|refine za _ (yq p s st) ?_|refine optR (za _ (yq p s st) ?_)|refine optR (optR (za _ (yq p s st) ?_))
 unfold Rd.num Rd.got at h;refine qi (λh1=>?_) (λh1=>?_)
 ·rw[if_pos h1]at h;exact ret h
 rw[if_neg θj]at h;first|refine za _ (yq p s st) ?_|refine optR (za _ (yq p s st) ?_)|refine optR (optR (za _ (yq p s st) ?_))
 refine yol s.b hb _ _ ?_;have hf:=yom s.b;refine ygc p s st _ _ _ (λ_ he=>θ) _ ?_;generalize s.take (xk s.b).1 (xk s.b).2.1 (xk s.b).2.2=t at h⊢;simp only at h;refine bcd (λh2=>?_) (λh2=>?_)
 ·refine Rz p t.2 st (decide (t.1<=hi)) _ ?_;have e:inB t.1 lo hi=decide (t.1<=hi):=by unfold inB;rw[Fb9];simp;omega
  rw[e]at h;exact ret h
 ·refine Rz p t.2 st false _ ?_;have e:inB t.1 lo hi=false:=by unfold inB;simp;omega
  rw[e]at h;exact ret h
def ypv(p:Nat)(s:Rd)(st:Store)(R:Ja)(h:R (.tup []) (rdO p s.fin st)):Jb 48 [ptr p] (rdO p s st) R:=by
 refine Qy 10 Tryz.func48 ?_;first|refine za _ (yq p s st) ?_|refine optR (za _ (yq p s st) ?_)|refine optR (optR (za _ (yq p s st) ?_))
 refine Rz p s st (((rowsB s.b).length:Int)==0) _ ?_;have e:(((rowsB s.b).length:Int)==0)=(s.b.length==0):=by rw[zi,Fb9];simp
 rw[e];exact ret h
def yhe{p:Nat}{s:Rd}{st:Store}(h:st.obj p=none):(rdO p s st).Has st:=Fe h
def yls:AV.le nil (qa []):=AV.le_nil 1
def ylc(b:List UInt8)(hb:b.length<=1048576)(st:Store)(R:Ja)(h:R (.tup [.agg (zw (R4 b).1),int (R4 b).2]) st):Jb 15 [qa b] st R:=by
 refine Qa (c:=cfg 77 [10,12] [25]) zb Tryz.func15 ?_;intro p hp;refine⟨ψ,λtk htk=>optR (optR (optR (za _ (Kd _ _ _) (ACalls.drop (st':=rdO p ⟨b,0⟩ st) (ynl htk.2) (zds p ⟨b,0⟩ st [84,71] (AV.le_tok _ _ _) φ _ ?_)))))⟩;have l1:=zdu ⟨b,0⟩ [84,71];simp only at l1;refine zff p _ st 1 128 θ _ ?_;have l2:=ou (Rd.same ⟨b,0⟩ [84,71]) 1 128;refine zff p (Bx b).2 st 1 128 (by unfold Bx;omega) _ ?_;have lt:=ylb b
 refine AWp.loop (σ:=Int×Rd×List UInt8×AV) ⟨λx=>[(0,.av (qa b)),(2,.bx 2 0),(4,.bx 4 0),(5,.av (ptr p)),(6,.av (int x.1))],λx=>[(2,[int 0,int 0,nil]),(4,[int (Bx b).1,int (Bw b).1,x.2.2.2])],
  λx st'=>(x.2.1.e=0->0<=x.1/\x.1+x.2.2.1.length<=16384)/\Rd.tilesGo x.1.toNat x.2.1 x.2.2.1=Im b/\App 1 (rdO p x.2.1 st) x.2.2.2 (rowsB x.2.2.1) st',λx=>x.1.toNat⟩ zb ?_ ?_
 ·refine⟨(IntKind.i64.wrap ((Bx b).1*(Bw b).1),(Bw b).2,[],nil),Tv,⟨λhe=>?_,?_,App.start 1 _⟩,Qax,Qe⟩
  ·have:=zgk he;simp only;rw[Pj ⟨θ,θ⟩];simp;omega
  ·simp only;by_cases he:(Bw b).2.e=0
   ·have:=zgk he;rw[Pj ⟨θ,θ⟩];rfl
   ·unfold Im;rw[V1 he,V1 he]
 rintro⟨m,s,l,v⟩ st' ⟨hm,hg,ha⟩;dsimp only at hm hg ha⊢;obtain⟨st1,rfl,hs1,hA⟩:=ha.split;show vc _ _ _ _ _ (rdO p s st1);by_cases hx:m>0/\s.e=0
 ·have⟨h1,h2⟩:=hx;refine bcd (λ_=>?_) (λh=>absurd h1 h);first|refine za _ (yq p _ _) ?_|refine optR (za _ (yq p _ _) ?_)|refine optR (optR (za _ (yq p _ _) ?_))
  refine zu (λ_=>?_) (λh=>absurd h2 h);have⟨b1,b2⟩:=hm h2;refine zj6 p s st1 _ (Rz p _ st1 (decide ((s.byte.1.toNat:Int)<=5)) _ ⟨ψ,?_⟩);have e5:decide ((s.byte.1.toNat:Int)<=5)=decide (s.byte.1.toNat<=5):=by rw[Fb9];simp;omega
  rw[e5];refine Pe (hA (.cells [qa (s.byte.2.must (decide (s.byte.1.toNat<=5))).b,int (s.byte.2.must (decide (s.byte.1.toNat<=5))).e])) (l:=[s.byte.1]) ζ χ (λv2 st2 ha2=>yag ha2.cells ha2.one ζ ζ φ ⟨⟨θ,θ⟩,?_⟩);obtain⟨k,rfl⟩:∃k:Nat,m=k+1:=⟨(m-1).toNat,θ⟩
  have e1:((k:Int)+1).toNat=k+1:=θ;rw[e1,ls h2]at hg;refine⟨((k:Int)+1-1,s.byte.2.must (decide (s.byte.1.toNat<=5)),l++[s.byte.1],v2),?_,⟨λ_=>?_,?_,ha2⟩,Qax,⟨rfl,rfl,Tv⟩⟩
  ·show((k:Int)+1-1).toNat<((k:Int)+1).toNat;omega
  ·simp;omega
  ·show Rd.tilesGo ((k:Int)+1-1).toNat _ _=_;have e2:((k:Int)+1-1).toNat=k:=θ;rw[e2];exact hg
 ·have hT:Im b=(l,s):=by
   rw[<-hg];by_cases h2:s.e=0
   ·have:m.toNat=0:=θ;rw[this];rfl
   ·exact V1 h2
  rw[hT]at lt;have hS:Oi b=(s.same (wi (vd Bf (b.take (b.length-s.b.length))))).fin:=by unfold Oi;rw[hT]
  unfold R4 at h;rw[hT,hS]at h;have hdr:=yhe (p:=p) (s:=(s.same (wi (vd Bf (b.take (b.length-s.b.length))))).fin) hp.1;first|refine bcd (λh1=>za _ (yq p s st1) (zu (λh2=>absurd ⟨h1,h2⟩ hx) (λ_=>?_))) (λh1=>?_)|refine bcd (λh1=>optR (za _ (yq p s st1) (zu (λh2=>absurd ⟨h1,h2⟩ hx) (λ_=>?_)))) (λh1=>?_)|refine bcd (λh1=>optR (optR (za _ (yq p s st1) (zu (λh2=>absurd ⟨h1,h2⟩ hx) (λ_=>?_))))) (λh1=>?_)
  all_goals
   try dsimp only at h lt
   refine Qc zb yev ?_;first|refine za _ (yq p s st1) ?_|refine optR (za _ (yq p s st1) ?_)|refine optR (optR (za _ (yq p s st1) ?_))
   refine⟨by rw[zi,zi];exact⟨θ,θ⟩,⟨0,b.length-s.b.length,rfl,by rw[zi,zi];show((b.length:Int)-(s.b.length:Int))=((b.length-s.b.length:Nat):Int);omega,θ,θe,⟨l7 _ _ ⟨⟨rfl,optR (optR (optR (za _ (yq p s st1) rfl))),rfl,Tv⟩,⟨sr (l:=b.take (b.length-s.b.length)) _ (by rw[yf2];exact Tt) θq ⟨Tv,⟨zh3 _ _ _ ⟨Tv,⟨zds p s st1 (wi (vd Bf (b.take (b.length-s.b.length)))) (Tt) (by rw[fa];omega) _ ⟨Tv,ypv p _ st1 _ ?_⟩,Tv⟩⟩,Tv⟩⟩,Tv⟩⟩,Tv⟩⟩⟩;generalize(s.same (wi (vd Bf (b.take (b.length-s.b.length))))).fin=z at h hdr⊢;first|refine za _ (yq p z st1) ?_|refine optR (za _ (yq p z st1) ?_)|refine optR (optR (za _ (yq p z st1) ?_))
   refine qi (λh3=>?_) (λh3=>?_)
   ·rw[if_pos h3]at h;refine Qc zb yeu ?_;first|refine za _ (yq p z st1) ?_|refine optR (za _ (yq p z st1) ?_)|refine optR (optR (za _ (yq p z st1) ?_))
    exact Qba (Qbb (Lt h ((zhi hs1).trans hdr) (AV.le_tupL ⟨AV.le_aggL ⟨Tt,Tt,yls,Tv⟩,Tt,Tv⟩)))
   ·rw[if_neg (by simpa using h3)]at h;exact yaf (v:=.agg [int (Bx b).1,int (Bw b).1,v]) (xs:=[int (Bx b).1,int (Bw b).1,v]) ζ (by simp only[List.all_cons,List.all_nil,ha.one];rfl) ζ ζ φ (Lt h ((zhi hs1).trans hdr) (AV.le_tupL ⟨AV.le_aggL ⟨Tt,Tt,ha.le,Tv⟩,Tt,Tv⟩))
def Qaw{p:Prop}(h:p:=by rw[Fal];show X.length<=_;omega):p:=h
def Kj(n:Int)(st:Store)(R:Ja)(h:R (int n) st):Jb 10 [int n] st R:=by refine Qy 4 Tryz.func10 ?_;exact ret h
def za8(st:Store)(R:Ja)(h:R (V.bool true) st):Jb 13 [] st R:=by refine Qy 27 Tryz.func13 ?_;exact⟨ψ,⟨ψ,zcr _ _ (λX W D L=>Kj _ _ _ ⟨0,rfl,za _ rfl (ret h)⟩)⟩⟩
def zgg(p:Scr30)(hp:p.good)(st:Store)(R:Ja)(h:∀z:Bool,(z=true->p7 p/\pu p)->R (V.bool z) st):Jb 7 [.agg (Ah p)] st R:=by have no:=h false (λe=>nomatch e);refine Qy 36 Tryz.func7 ?_;refine zhg p hp _ _ (λz0 h0=>?_);refine yj (zk (λ_=>ret no) (λc=>?_));have hl:=h0 c;refine zhn p.G (by have:=hl.2.1;unfold Gnd.fits;omega) _ _ (λz hz=>zk (λc0=>?_) (λc0=>ret no));have hg:=hz.1 c0;exact bcd (λc1=>bcd (λc2=>bcd (λc3=>bcd (λc4=>zd0 p.R _ _ (λb hb=>ret (h b λe=>⟨hl,hg,⟨c1,c2⟩,⟨c3,c4⟩,hb.1 e⟩))) (λc4=>ret no)) (λc3=>ret no)) (λc2=>ret no)) (λc1=>ret no)
def yqe(l:List Int)(hl:l.length<=1000000000)(st:Store)(R:Ja)(h:R (V.bool true) st):Jb 49 [lst 1 zn l,lst 1 zn l] st R:=by
 refine Qy 26 Tryz.func49 ?_;refine qi (λc=>absurd rfl c) (λ_=>?_);refine AWp.loop (σ:=Nat) ⟨λi=>[(0,.av (lst 1 zn l)),(1,.av (lst 1 zn l)),(5,.av (int (i:Nat)))],λ_=>[],λi S=>i<=l.length/\S=st,λi=>l.length-i⟩ zb ?_ ?_
 ·exact⟨0,Tv,⟨Fae _,rfl⟩,Qax,Tv⟩
 rintro i S ⟨hi,rfl⟩;refine zk (λc=>?_) (λc=>ret h);have hlt:=k9 c;exact Qc zb mm ⟨i,rfl,za _ (zp hlt) ⟨i,rfl,za _ (zp hlt) (qi (λc=>absurd rfl c) (λ_=>Qd ⟨i+1,ϑ,⟨hlt,rfl⟩,Qax,Tv⟩))⟩⟩
def yqn(l:List Bool)(hl:l.length<=1000000000)(st:Store)(R:Ja)(h:R (V.bool true) st):Jb 51 [lst 1 qu l,lst 1 qu l] st R:=by
 refine Qy 26 Tryz.func51 ?_;refine qi (λc=>absurd rfl c) (λ_=>?_);refine AWp.loop (σ:=Nat) ⟨λi=>[(0,.av (lst 1 qu l)),(1,.av (lst 1 qu l)),(5,.av (int (i:Nat)))],λ_=>[],λi S=>i<=l.length/\S=st,λi=>l.length-i⟩ zb ?_ ?_
 ·exact⟨0,Tv,⟨Fae _,rfl⟩,Qax,Tv⟩
 rintro i S ⟨hi,rfl⟩;refine zk (λc=>?_) (λc=>ret h);have hlt:=k9 c;exact Qc zb yb5 ⟨i,rfl,za _ (zp hlt) ⟨i,rfl,za _ (zp hlt) (zk (λc=>by simp at c) (λ_=>Qd ⟨i+1,ϑ,⟨hlt,rfl⟩,Qax,Tv⟩))⟩⟩
def yqf(l:List Int)(hl:l.length<=1000000000)(st:Store)(R:Ja)(h:R (V.bool true) st):Jb 20 [lst 1 ym l,lst 1 ym l] st R:=by
 refine Qy 26 Tryz.func20 ?_;refine qi (λc=>absurd rfl c) (λ_=>?_);refine AWp.loop (σ:=Nat) ⟨λi=>[(0,.av (lst 1 ym l)),(1,.av (lst 1 ym l)),(5,.av (int (i:Nat)))],λ_=>[],λi S=>i<=l.length/\S=st,λi=>l.length-i⟩ zb ?_ ?_
 ·exact⟨0,Tv,⟨Fae _,rfl⟩,Qax,Tv⟩
 rintro i S ⟨hi,rfl⟩;refine zk (λc=>?_) (λc=>ret h);have hlt:=k9 c;exact Qc zb yeb ⟨i,rfl,za _ (zp hlt) ⟨i,rfl,za _ (zp hlt) (qi (λc=>absurd rfl c) (λ_=>Qd ⟨i+1,ϑ,⟨hlt,rfl⟩,Qax,Tv⟩))⟩⟩
def yp5(l:List Wld)(hl:l.length<=1000000000)(hf:∀x∈l,x.fits)(st:Store)(R:Ja)(h:R (V.bool true) st):Jb 50 [lst 8 zr l,lst 8 zr l] st R:=by
 refine Qy 27 Tryz.func50 ?_;refine qi (λc=>absurd rfl c) (λ_=>?_);refine AWp.loop (σ:=Nat) ⟨λi=>[(0,.av (lst 8 zr l)),(1,.av (lst 8 zr l)),(5,.av (int (i:Nat)))],λ_=>[],λi S=>i<=l.length/\S=st,λi=>l.length-i⟩ zb ?_ ?_
 ·exact⟨0,Tv,⟨Fae _,rfl⟩,Qax,Tv⟩
 rintro i S ⟨hi,rfl⟩;refine zk (λc=>?_) (λc=>ret h);have hlt:=k9 c;exact Qc zb yb6 ⟨i,rfl,za _ (zp hlt) ⟨i,rfl,za _ (zp hlt) ⟨yp6 l[i] (hf _ (Faa hlt)) _ _ ⟨Tv,Qd ⟨i+1,ϑ,⟨hlt,rfl⟩,Qax,Tv⟩⟩,Tv⟩⟩⟩
def yql(l:List Cmd)(hl:l.length<=1000000000)(hf:∀x∈l,x.fits)(st:Store)(R:Ja)(h:R (V.bool true) st):Jb 121 [lst 10 zz l,lst 10 zz l] st R:=by
 refine Qy 27 Tryz.func121 ?_;refine qi (λc=>absurd rfl c) (λ_=>?_);refine AWp.loop (σ:=Nat) ⟨λi=>[(0,.av (lst 10 zz l)),(1,.av (lst 10 zz l)),(5,.av (int (i:Nat)))],λ_=>[],λi S=>i<=l.length/\S=st,λi=>l.length-i⟩ zb ?_ ?_
 ·exact⟨0,Tv,⟨Fae _,rfl⟩,Qax,Tv⟩
 rintro i S ⟨hi,rfl⟩;refine zk (λc=>?_) (λc=>ret h);have hlt:=k9 c;refine Qc zb yfd ⟨i,rfl,za _ (zp hlt) ⟨i,rfl,za _ (zp hlt) ⟨yqk l[i] l[i] (hf _ (Faa hlt)) _ _ ⟨Tv,?_⟩,Tv⟩⟩⟩;rw[decide_eq_true rfl];exact Qd ⟨i+1,ϑ,⟨hlt,rfl⟩,Qax,Tv⟩
def yqj(f:Frm)(hf:f.C.length<=1000000/\∀c∈f.C,c.fits)(st:Store)(R:Ja)(h:R (V.bool true) st):Jb 85 [.agg (xx f),.agg (xx f)] st R:=by refine Qy 24 Tryz.func85 ?_;refine zu (λ_=>?_) (λc=>absurd rfl c);exact yql f.C θ hf.2 _ _ (ret (show R (V.bool (f.hash==f.hash)) st by rw[beq_self_eq_true];exact h))
def yqi(l:List Frm)(hl:l.length<=1000000000)(hf:∀x∈l,x.C.length<=1000000/\∀c∈x.C,c.fits)(st:Store)(R:Ja)(h:R (V.bool true) st):Jb 52 [lst 3 xx l,lst 3 xx l] st R:=by
 refine Qy 27 Tryz.func52 ?_;refine qi (λc=>absurd rfl c) (λ_=>?_);refine AWp.loop (σ:=Nat) ⟨λi=>[(0,.av (lst 3 xx l)),(1,.av (lst 3 xx l)),(5,.av (int (i:Nat)))],λ_=>[],λi S=>i<=l.length/\S=st,λi=>l.length-i⟩ zb ?_ ?_
 ·exact⟨0,Tv,⟨Fae _,rfl⟩,Qax,Tv⟩
 rintro i S ⟨hi,rfl⟩;refine zk (λc=>?_) (λc=>ret h);have hlt:=k9 c;exact Qc zb yb4 ⟨i,rfl,za _ (zp hlt) ⟨i,rfl,za _ (zp hlt) ⟨yqj l[i] (hf _ (Faa hlt)) _ _ ⟨Tv,Qd ⟨i+1,ϑ,⟨hlt,rfl⟩,Qax,Tv⟩⟩,Tv⟩⟩⟩
def yfz(X:List Pee)(m:List Nte)(log:List Frm)(hX:X.length<=8)(hw:∀o∈X,o.w.fits/\o.h.length<=1000000)(hl:log.length<=1000000)(hf:∀x∈log,x.C.length<=1000000/\∀c∈x.C,c.fits)(st:Store)(R:Ja)(h:R (V.bool true) st):Jb 16 [.agg (C6 ⟨X,m,log⟩),.agg (C6 ⟨X,m,log⟩)] st R:=by
 refine Qy 64 Tryz.func16 ?_;refine yqe _ Qaw _ _ ?_;refine yp5 _ Qaw (λx hx=>?_) _ _ ?_
 ·obtain⟨o,ho,rfl⟩:=Fag.1 hx;exact(hw o ho).1
 refine yqn _ Qaw _ _ (yqi _ (show log.length<=_ by omega) hf _ _ (qi (λc=>absurd rfl c) (λ_=>AWp.loop (σ:=Nat) ⟨λi=>[(2,.bx 2 0),(3,.bx 3 0),(5,.av (int (i:Nat)))],λ_=>[(2,C6 ⟨X,m,log⟩),(3,C6 ⟨X,m,log⟩)],λi S=>S=st/\i<=X.length,λi=>X.length-i⟩ zb ?_ ?_)))
 ·exact⟨0,Tv,⟨rfl,Fae _⟩,Qax,⟨rfl,rfl,Tv⟩⟩
 rintro i S ⟨rfl,hi⟩;refine zk (λc=>?_) (λc=>ret h);have hlt:i<X.length:=k9 c;exact Qc zb yep ⟨i,rfl,za _ (zp (f:=Ml) hlt) ⟨i,rfl,za _ (zp (f:=Ml) hlt) ⟨yqf X[i].h (by have:=(hw _ (Faa hlt)).2;omega) _ _ ⟨Tv,Qd ⟨i+1,ϑ,⟨rfl,hlt⟩,Qax,⟨rfl,rfl,Tv⟩⟩⟩,Tv⟩⟩⟩
def yok(g:Gnd)(hg:g.fits)(st:Store)(R:Ja)(hno:¬zv g->R (.tup [nil,int 1]) st)(hok:zv g->R (.tup [qa (j7 g),int 0]) st):Jb 14 [.agg (zw g)] st R:=by refine Qy 9 Tryz.func14 ?_;refine rz g hg _ _ (λb hb=>?_);exact yj (zk (λc=>zgl g (hb.1 c) _ _ (ret (hok (hb.1 c)))) (λc=>ret (hno λhh=>by have:=hb.2 hh;rw[this]at c;cases c)))
def znt(p:Scr30)(hp:p.good)(st:Store)(R:Ja)(h:R (V.bool true) st):Jb 4 [.agg (Ah p)] st R:=by
 refine Qy 77 Tryz.func4 ?_;refine zgg p hp _ _ (λz hz=>?_);refine yj (zk (λc=>?_) (λc=>ret h));have⟨hl,hm⟩:=hz c;have hT:=hl.2.1;have hgf:p.G.fits:=θ9;have hnp:xu p.G p.P:=⟨hm.1,hm.2.1⟩
 refine yok p.G hgf _ _ (λhh=>absurd hm.1 hh) (λ_=>ylc (j7 p.G) (by have:=(sa hm.1).2;omega) _ _ ?_);rw[yld hm.1];refine Kj _ _ _ (Kj _ _ _ (zau p hl _ _ (λl q1 q2=>?_)))
 have run:∀(R2:Ja),R2 (.tup [.agg (C6 (Aa p.G p.P p.D l)),int 0]) st->Jb 8 [.agg (zw p.G),int p.P,int p.D,int p.R,lst 5 wl l] st R2:=λR2 hR2=>
  V9 fg p.G hgf θ p.P p.D p.R hp.2.1.1 (by have:=hm.2.2.1;omega) hm.2.2.2 l θ q2 st R2 (λhh=>absurd ⟨hnp,hm.2.2.1⟩ hh) λ_=>hR2
 refine run _ (run _ (Kj _ _ _ (Kj _ _ _ ?_)));have hok:=ez hnp hm.2.2.1 l;generalize Aa p.G p.P p.D l=σ at hok⊢;have⟨X,m,log⟩:=σ;have hlen:(X.length:Int)=p.P:=hok.len;have hll:=hok.ll;dsimp only at hll;refine yfz X m log (by have:=hm.2.1;omega) (λo ho=>?_) θ hok.lc _ _ ?_
 ·obtain⟨i,hi,rfl⟩:=Faf ho;have⟨_,_,hw,_,hh⟩:=hok.peer i X[i] (Fab hi);have hz:=hw.sizes;exact⟨⟨θ9,θ,θ⟩,θ⟩
 exact za8 _ _ (ret h)
end Go.Proofs
