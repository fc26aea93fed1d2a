/- Ground of laws of throngtop: contracts and plain lemmas; no condition beyond the row's own. -/
import Derived.Test.YtkahacegdhllcaaGreatLD
import Derived.Test.YtkahacegdhllcaaGreatKN
set_option linter.unusedSimpArgs false
set_option linter.unusedVariables false
set_option linter.defProp false
namespace Go.Proofs
open Go Go.V
set_option maxRecDepth 20000
set_option maxHeartbeats 4000000
section
def Qau{p:Prop}(h:p:=by rw[if_neg θ];exact h.up θ):p:=h
def Qav{p:Prop}(h:p:=by rw[if_pos θ];exact h2.up θ):p:=h
variable {room:Int} {s hb K:Nat} {σ:Pty} {S:Store} {n d:Int} {B:Nat}
def ys5(hdo:DoC)(h:PtyX room s hb K σ S)(hok:PtyOK n d B σ)(hB:B<=880000)(hK:K<=9000000000000000)(R:Ja)(hR:∀S',PtyX room s hb (K+131072) (Iz σ) S'->R (.tup []) S'):Jb 69 [ptr s] S R:=by
 have hn:=hok.n8;have hall:=Rn hok;refine Qy 35 Tryz.func69 ?_;have⟨X,vp,vm,vl,hX,hk,hS⟩:=h;have hl:=hok.lenX hX;have hXl:X.length=σ.X.length:=by rw[<-hX,Fal]
 obtain⟨t,rfl⟩:=Lv hS (λe=>by rw[e]at hl;simp at hl;omega);refine za (o:=S.obj s) _ (Ci hS) (AWp.loop (σ:=Nat) ⟨λj=>[(0,.av (ptr s)),(10,.av (int (X.length:Nat))),(11,.av (int (j:Nat)))],λ_=>[],λj S'=>j<=X.length/\PtyX room s hb (K+16384*j) ((List.range j).foldl (fun σ k=>Bp k σ) σ) S',λj=>X.length-j⟩ zb ?_ ?_)
 ·refine⟨0,Tv,⟨Fae _,X,_,vm,vl,hX,hk,hS⟩,⟨Tq,?_,Tq,Tv⟩,Tv⟩;rw[<-Fal (f:=λo:One=>[ptr o.q])];exact Tq
 rintro j S1 ⟨hj,h1⟩;have hok1:=Rm hok j;refine bcd (λc1=>?_) (λc1=>?_)
 ·refine zb7 hdo h1 hok1 θ θ (i:=j) θ _ λS2 h2=>Qd ⟨j+1,ϑ,⟨(show j+1<=X.length by omega),?_⟩,Qax,Tv⟩;rw[Fcw,Fce];exact h2.up θ
 have:j=σ.X.length:=θ;subst this;have h1:PtyX room s hb (K+131072) (Cg σ) S1:=h1.up θ;clear hS hX hk;have⟨X,vp,vm,vl,hX,hk,hS⟩:=h1;obtain⟨oa,cap,rfl,hr⟩:=RowsQ.form (k:=8) (f:=yg) (l:=(Cg σ).m) (Lp (k:=8) (f:=yg) (l:=(Cg σ).m) (v:=vm) (hS.at 0 rfl));have h0:=Ci hS;refine Qbc (ye (i:=ti72) (v:=nil) (b:=s) (o:=1) rfl rfl rfl h0 (show 1+1<=7 by decide) rfl ?_);have⟨a,b,e,hd,ha,hb2⟩:=(hS.at 7 rfl).store [vp,nil,nil,.s (.slice (some ⟨hb,0,none⟩) X.length X.length),nil,nil,vl];have h2:PtyX room s hb (K+131072) {Cg σ with m:=[]} b:=⟨X,vp,nil,vl,hX,hk,Sp.none (P:=λa=>RowsQ 8 yg a nil []) (.inl (.inl ⟨rfl,rfl⟩)) hb2⟩
 have e:S1.sO s (.cells (zq [vp,.s (.slice oa (Cg σ).m.length cap),nil,.s (.slice (some ⟨hb,0,none⟩) X.length X.length),nil,nil,vl] 1 [nil]))=b.un a:=e.trans (unC hd);rw[e];have hd:=xy hd;clear e hb2 hS h0 hX hk hr;have ha:RowsQ 8 yg a (.s (.slice oa (Cg σ).m.length cap)) (Cg σ).m:=ha;have hnote:=hall.note;have hlm:=hall.lm;have hok2:=hall.m0;have er:Iz σ=(Cg σ).m.foldl Ab {Cg σ with m:=[]}:=rfl;rw[er]at hR;generalize(Cg σ).m=l at*;generalize Pty.mk _ _ _=τ at hR h2 hok2;refine AWp.loop (σ:=Nat×Store) ⟨λx=>[(0,.av (ptr s)),(25,.av (.s (.slice oa l.length cap))),(26,.av (int (l.length:Nat))),(27,.av (int (x.1:Nat)))],λ_=>[],λx S'=>x.1<=l.length/\S'=x.2.un a/\zj x.2 a/\PtyX room s hb (K+131072) ((l.take x.1).foldl Ab τ) x.2,λx=>l.length-x.1⟩ zb ?_ ?_
 ·exact⟨(0,b),Tv,⟨Fae _,rfl,hd,h2⟩,Qax,Tv⟩
 clear h2 hd;rintro⟨k,b⟩ S2 ⟨hk,rfl,hd,h2⟩;dsimp only at hk hd h2⊢;have hok3:=nl (l.take k) hok2;refine bcd (λc2=>?_) (λc2=>?_)
 ·have hlt:k<l.length:=θ;have⟨oa2,cap2,e2,hr⟩:=RowsQ.form (k:=8) (f:=yg) (l:=l) (RowsQ.un (a:=b) ha);cases e2;obtain⟨bl,L,rfl,ho⟩:=hr k hlt;refine⟨k,rfl,hlt,za (o:=(b.un a).obj bl) _ ho (xr (i:=ti183) (row:=yg l[k]) rfl rfl (D3 (f:=yg) (k:=8) (λ_=>rfl) hlt) (ACalls.frame hd (zjf h2 hok3 θ (hnote _ (Faa hlt)) (λr S'=>r=.tup []/\PtyX room s hb (K+131072) (Ab ((l.take k).foldl Ab τ) l[k]) S') λS' h'=>⟨rfl,h'⟩) λr b' ⟨hr,hb'⟩ hd'=>?_))⟩;subst hr;refine Qd ⟨(k+1,b'),ϑ,⟨hlt,rfl,hd',?_⟩,Qax,Tv⟩;dsimp only;rw[Fad hlt,Fce];exact hb'
 have:k=l.length:=θ;subst this;rw[Faj]at h2;exact⟨_,b,Tt,⟨λb x hx=>yf hd hx,λb y hy=>K7 hd hy⟩,hR b h2⟩
def ofZ{P:Program}{f:FuncId}{x:AV}{xs:List AV}{z:Int}{i:Nat}{S:Store}{R:Ja}(hz:z=i)(h:ACalls P f (x::int (i:Int)::xs) S R):ACalls P f (x::int z::xs) S R:=hz▸h
def zav{q:Prop}(h:q:=by
 try refine zu (λ_=>?_) (λc=>absurd ‹a.K=_› c)
 refine ylo h hok θ a _ λS2 h2=>?_;exact ret (hR S2 (h2.up θ))):q:=h
def yu3(hdo:DoC)(h:PtyX room s hb K σ S)(hok:PtyOK n d B σ)(hB:B<=800000)(hK:K<=1000000000000000)(a:Act30)(hcs:small a.C)(R:Ja)(hR:∀S',PtyX room s hb (K+7864320) (Cb σ a) S'->R (.tup []) S'):Jb 30 [ptr s,.agg (wl a)] S R:=by
 have hn:=hok.n8;have hsl:(σ.X.length:Int)=n:=hok.len;have h':=h;have⟨X,vp,vm,vl,hX,hk,hS⟩:=h';have hl:=hok.lenX hX;obtain⟨t,rfl⟩:=Lv hS (λe=>by rw[e]at hl;simp at hl;omega);have hXm:((X.map λo=>[ptr o.q]).length:Int)=n:=by rw[Fal];exact hl
 have hs:=Ci hS;unfold Cb at hR;rw[hsl]at hR;refine Qy 61 Tryz.func30 ?_;refine Qc zb ycn (bcd (λc1=>?_) (λc1=>?_));refine Qbc ?_;rotate_left
 all_goals
  refine Qbb (zu (λe1=>?_) (λe1=>?_))
  ·rw[if_pos e1]at hR;first
   |exact ret (hR S Qau)
   |refine bcd (λc2=>?_) (λc2=>ret (hR S Qau))
    exact Qd (ofZ (z:=a.P-1) (i:=(a.P-1).toNat) θ (yfw h hok θ θ a.C hcs _ λS2 h2=>ret (hR S2 Qav)))
  rw[if_neg e1]at hR;refine zu (λe2=>?_) (λe2=>?_)
  ·rw[if_pos e2]at hR;first
   |exact ret (hR S Qau)
   |refine bcd (λc2=>?_) (λc2=>ret (hR S Qau))
    exact Qd (ofZ (z:=a.P-1) (i:=(a.P-1).toNat) θ (zb7 hdo h hok θ θ θ _ λS2 h2=>ret (hR S2 Qav)))
  rw[if_neg e2]at hR;refine zu (λe3=>?_) (λe3=>?_)
  ·rw[if_pos (.inl e3)]at hR;exact zav
  refine zu (λe4=>?_) (λe4=>?_)
  ·rw[if_pos (.inr (.inl e4))]at hR;exact zav
  refine zu (λe5=>?_) (λe5=>?_)
  ·rw[if_pos (.inr (.inr e5))]at hR;exact zav
  rw[if_neg θ]at hR;refine zu (λe6=>?_) (λe6=>?_);rotate_left
  ·rw[if_neg e6]at hR;exact ret (hR S (h.up θ))
  rw[if_pos e6]at hR;refine AWp.loop (σ:=Nat×Pty) ⟨λx=>[(0,.av (ptr s)),(3,.bx 3 0),(5,.av (int (a.N-(x.1:Nat))))],λ_=>[(3,wl a)],λx S2=>PtyX room s hb (K+131072*x.1) x.2 S2/\PtyOK n d (B+96*x.1) x.2/\x.1<=a.N.toNat/\(x.1=0\/a.N<=60)/\H4 (a.N.toNat-x.1) x.2=H4 a.N.toNat σ/\(x.1=0->x.2=σ),λx=>a.N.toNat-x.1⟩ zb ?_ ?_
  ·refine⟨(0,σ),Tv,⟨h,hok,Fae _,.inl rfl,rfl,λ_=>rfl⟩,⟨Tq,Tq,?_,Tv⟩,⟨rfl,Tv⟩⟩;show LV.le (.av (int a.N)) (.av (int (a.N-0)));rw[Int.sub_zero];exact Tq
  rintro⟨c,ρ⟩ S2 ⟨h2,hok2,hc,hc60,hrun,hz⟩;dsimp only at h2 hok2 hc hc60 hrun hz⊢;refine bcd (λc3=>?_) (λc3=>?_)
  ·refine bcd (λc4=>?_) (λc4=>?_)
   ·obtain⟨j,hj⟩:∃j,a.N.toNat-c=j+1:=⟨a.N.toNat-c-1,θ⟩
    rw[hj]at hrun;refine ys5 hdo h2 hok2 θ θ _ λS3 h3=>Qd ⟨(c+1,Iz ρ),ϑ,⟨h3.up θ,(W8 hok2).up θ,(show c+1<=_ by omega),.inr c4,?_,λe=>nomatch e⟩,⟨Tq,Tq,?_,Tv⟩,⟨rfl,Tv⟩⟩
    ·show H4 (a.N.toNat-(c+1)) _=_;rw[<-hrun,show a.N.toNat-(c+1)=j by omega];rfl
    ·show LV.le (.av (int (a.N-(c:Nat)-1))) (.av (int (a.N-((c+1:Nat):Int))));rw[show a.N-((c+1:Nat):Int)=a.N-(c:Nat)-1 by omega];exact Tq
   ·rw[if_neg c4]at hR;have:c=0:=θ;subst this;rw[hz rfl]at h2;exact ret (hR S2 (h2.up θ))
  ·have:c=a.N.toNat:=θ;subst this;rw[Fc3]at hrun;have hrun:ρ=H4 a.N.toNat σ:=hrun;by_cases h60:a.N<=60
   ·rw[if_pos h60,<-hrun]at hR;exact ret (hR S2 (h2.up θ))
   ·omega
end
def Ho(g:Gnd)(n d:Int):Pty:=⟨(List.range n.toNat).map λi=>⟨xt ((i+1:Nat):Int) n d,F7 g n,[]⟩,[],[]⟩
noncomputable def Aa(g:Gnd)(n d:Int)(l:List Act30):Pty:=l.foldl Cb (Ho g n d)
def Ml(o:Pee):List AV:=[lst 1 ym o.h]
noncomputable def C6(σ:Pty):List AV:=[yc (σ.X.map λo=>o.p.turn),lst 1 Ml σ.X,lst 8 zr (σ.X.map λo=>o.w),lst 1 qu (σ.X.map λo=>o.p.split),lst 3 xx σ.log]
section
variable {g:Gnd} {n d:Int}
def Oe(hp:xu g n)(hd:1<=d/\d<=8):PtyOK n d 0 (Ho g n d):=by
 have hn:=hp.2;refine⟨hn,?_,λi o ho=>?_,λx hx=>(nomatch hx),Fah _,Fah _,λx hx=>(nomatch hx)⟩
 ·show(((List.range n.toNat).map _).length:Int)=n;rw[Fal,Fcd];omega
 ·have ho:((List.range n.toNat).map λi=>Pee.mk (xt ((i+1:Nat):Int) n d) (F7 g n) [])[i]?=some o:=ho;rw[Far]at ho;by_cases hi:i<n.toNat
  ·rw[List.getElem?_range hi]at ho;cases ho;exact⟨⟨by show((i+1:Nat):Int)=_;omega,rfl,rfl⟩,(zfm hn ⟨θ,θ⟩).2 hd,nw hp,rfl,Fah _⟩
  ·rw[Fbe (by rw[Fcd];omega)]at ho;cases ho
def zas:∀(l:List Act30) {B:Nat} {σ:Pty},PtyOK n d B σ->PtyOK n d (B+5760*l.length) (l.foldl Cb σ)
 |[],B,σ,h=>h
 |a::l,B,σ,h=>by have:=zas l (nn h a);rw[Fbf,show B+5760*(l.length+1)=B+5760+5760*l.length by omega];exact this
def ez(hp:xu g n)(hd:1<=d/\d<=8)(l:List Act30):PtyOK n d (5760*l.length) (Aa g n d l):=by have:=zas l (Oe hp hd);rw[Fa9]at this;exact this
def zdz(g:Gnd)(n d:Int)(l:List Act30)(i:Nat)(X:List One)(vm:AV)(m:List Nte)(log:List Frm):Prop:=xu g n/\(1<=d/\d<=8)/\i<=l.length/\(⟨X.map One.core,m,log⟩:Pty)=(l.take i).foldl Cb (Ho g n d)/\∀o∈X,o.k<=7864320*i
def V9(hdo:DoC)(g:Gnd)(hg:g.fits)(hT:g.T.length<=1000000)(n d room:Int)(hn:yu n)(hd:-1000000<=d/\d<=1000000)(hr:1<=room/\room<=4096)(l:List Act30)(hl:l.length<=100)(hcs:∀a∈l,small a.C)(st:Store)(R:Ja)
  (hbad:¬(xu g n/\1<=d/\d<=8)->R (.tup [.agg [nil,nil,nil,nil,nil],int 1]) st) (hok:(xu g n/\1<=d/\d<=8)->R (.tup [.agg (C6 (Aa g n d l)),int 0]) st):Jb 8 [.agg (zw g),int n,int d,int room,lst 5 wl l] st R:=by
 have hok3:∀i X vm m log,zdz g n d l i X vm m log->PtyOK n d (5760*i) (⟨X.map One.core,m,log⟩:Pty):=λi X vm m log ⟨h1,h2,h3,h4,h5⟩=>by rw[h4];have:=zas (l.take i) (Oe h1 h2);rw[Fai,Fdm h3,Fa9]at this;exact this
 have key:=yaq g hg hT n d room hn hd hr (rws wl l) θe (λrow hrow=>by
   obtain⟨a,_,rfl⟩:=Fag.1 hrow;exact⟨a.K,a.P,a.N,a.I,lst 10 zz a.C,rfl,.inr ⟨a.C,rfl⟩⟩) (zdz g n d l)
  (λX h1 h2 h3 h4=>⟨h1,h2,Fae _,by
   show Pty.mk _ _ _=Ho g n d;unfold Ho
   congr 1
   refine Fb4 λi=>?_;rw[Far,Far];by_cases hi:i<X.length
   ·rw[List.getElem?_range θ,Fab hi];have⟨q1,q2,q3,q4,_⟩:=h4 i hi;show some (One.core X[i])=some _;unfold One.core;rw[q1,q2,q3]
   ·rw[Fbe θ,Fbe (by rw[Fcd];omega)];rfl,λo ho=>by
   obtain⟨j,hj,rfl⟩:=Faf ho;rw[(h4 j hj).2.2.2.1];exact Fae _⟩)
  (λi X vm m log hI=>by have h:=hok3 i X vm m log hI;have h2:=h.ll;have h3:=hI.2.2.1;refine⟨by have:=h.len;rw[Fal]at this;exact this,λo ho=>?_,by dsimp only at h2;omega⟩;obtain⟨j,hj,rfl⟩:=Faf ho;exact(h.peer j X[j].core (H1 rfl hj)).2.2.1)
  (λi hi s hb X vp vm vl m log S hI hS=>by
   have hil:i<l.length:=by rw[zi]at hi;exact hi
   have e:(rws wl l)[i]=wl l[i]:=Fb0 ..;rw[e];have h:=hok3 i X vm m log hI;have⟨h1,h2,h3,h4,h5⟩:=hI;refine yu3 hdo (σ:=⟨X.map One.core,m,log⟩) ⟨X,vp,vm,vl,rfl,h5,hS⟩ h θ θ l[i] (hcs _ (Faa hil)) _ λS' hS'=>⟨rfl,?_⟩
   have⟨X',vp',vm',vl',q1,q2,q3⟩:=hS';refine⟨X',vp',vm',vl',_,_,⟨h1,h2,hil,?_,λo ho=>by have:=q2 o ho;omega⟩,q3⟩;rw[Fad hil,Fce,<-h4,q1];rfl)
 refine Dn (Q:=λr=>(¬(xu g n/\1<=d/\d<=8)/\r=.tup [.agg [nil,nil,nil,nil,nil],int 1])\/((xu g n/\1<=d/\d<=8)/\r=.tup [.agg (C6 (Aa g n d l)),int 0])) (key.frozen ?_) st R λr hr=>?_
 ·rintro r S (⟨h1,rfl⟩|⟨h1,X,vm,m,log,hb,hI,⟨ho,hv⟩,rfl⟩)
  ·exact⟨_,.inl ⟨h1,rfl⟩,λOth M W y sto hy=>qv hy⟩
  ·refine⟨_,.inr ⟨h1,rfl⟩,λOth M W y sto hy=>VRel.tup2 hy (λz hz=>?_) (λz hz=>qv hz)⟩;have⟨_,_,_,h4,_⟩:=hI;rw[zi,Faj]at h4;have h4:(⟨X.map One.core,m,log⟩:Pty)=Aa g n d l:=h4;rw[<-h4];have e1:C6 ⟨X.map One.core,m,log⟩=[yc (X.map λo=>o.p.turn),.s (.slice (some ⟨hb,0,none⟩) X.length X.length),lst 8 zr (X.map λo=>o.w),lst 1 qu (X.map λo=>o.p.split),lst 3 xx log].set 1 (lst 1 Ml (X.map One.core)):=by
    unfold C6;simp only[Fdc];rfl
   rw[e1];refine zap (a:=.s (.slice (some ⟨hb,0,none⟩) X.length X.length)) (λb o hb=>hb.1) hz λu hu=>?_;have hu:=VRel.eq_s hu;subst hu;have hfl:(X.map λo=>[o.vh]).flatten=X.map λo=>o.vh:=by rw[<-List.flatMap_def];exact List.map_eq_flatMap.symm
   have hrel:VRel W (λb o=>(M b o\/Oth b o)/\S.obj b=none) (.lst 1 (X.map λo=>[o.vh]) none) (.slice (some ⟨hb,0,none⟩) X.length X.length):=
    ux (pad:=[]) (by rw[Fbi,hfl];exact(sto.obj hb _ ho).1) (λo hT=>ψr) (λ_ _ h=>h.1) (Fal ..) (Fah _)
     (λrow hr=>by obtain⟨o,_,rfl⟩:=Fag.1 hr;rfl) (λrow hr y hy=>by
     obtain⟨o,ho2,rfl⟩:=Fag.1 hr;rw[Fbl.1 hy];exact(hv o ho2).2)
   refine co (ys:=rws Ml (X.map One.core)) ?_ _ _ _ hrel;have:∀l:List One,(∀o∈l,AV.le o.vh (lst 1 ym o.h))->leQ (l.map λo=>[o.vh]) (rws Ml (l.map One.core)):=by
    intro l;induction l with
    |nil=>exact λ_=>trivial
    |cons o l ih=>exact λh=>⟨⟨h o Fa1,Tv⟩,ih λx hx=>h x (Fau _ hx)⟩
   exact this X λo ho=>(hv o ho).1
 ·rcases hr with⟨hh,rfl⟩|⟨hh,rfl⟩
  ·exact hbad hh
  ·exact hok hh
end
structure Scr30 where
 G:Gnd
 P:Int
 D:Int
 R:Int
 L:List Act30
def Act30.good(a:Act30):Prop:=(yu a.K/\yu a.P/\yu a.N/\yu a.I)/\a.C.length<=140737488355328/\∀c∈a.C,c.sized
def Ah(a:Scr30):List AV:=zw a.G++[int a.P,int a.D,int a.R,lst 5 wl a.L]
def Scr30.good(a:Scr30):Prop:=a.G.T.length<=140737488355328/\(yu a.P/\yu a.D/\yu a.R)/\a.L.length<=140737488355328/\∀x∈a.L,x.good
def p7(p:Scr30):Prop:=p.L.length<=100/\p.G.T.length<=200/\∀a∈p.L,small a.C
def pu(p:Scr30):Prop:=zv p.G/\(1<=p.P/\p.P<=8)/\(1<=p.D/\p.D<=8)/\1<=p.R/\p.R<=4096
def zhg(p:Scr30)(hp:p.good)(st:Store)(R:Ja)(h:∀z:Bool,(z=false->p7 p)->R (V.bool z) st):Jb 17 [.agg (Ah p)] st R:=by
 have hll:=hp.2.2.1;refine Qy 40 Tryz.func17 ?_;refine AWp.loop (σ:=Nat×Int) ⟨λx=>[(1,.bx 1 0),(3,.av (int x.2)),(4,.av (int (x.1:Nat)))],λ_=>[(1,Ah p)],λx st'=>st'=st/\x.1<=p.L.length/\(0<=x.2/\x.2<=281474977759232)/\(x.2<=500->∀a∈p.L.take x.1,small a.C),λx=>p.L.length-x.1⟩ zb ?_ ?_
 ·exact⟨(0,0),Tv,⟨rfl,Fae _,(by decide:(0:Int)<=0/\(0:Int)<=281474977759232),λ_ a ha=>(nomatch ha)⟩,Qax,⟨rfl,Tv⟩⟩
 rintro⟨i,n⟩ st' ⟨rfl,hi,hn,hs⟩;dsimp only at hi hn hs⊢;have yes:=h true (λe=>nomatch e);refine zk (λc1=>?_) (λc1=>?_)
 ·have hlt:i<p.L.length:=k9 c1;have⟨_,hc1,hc2⟩:=hp.2.2.2 _ (Faa hlt);refine bcd (λc2=>?_) (λc2=>?_)
  ·refine⟨i,rfl,za _ (zp hlt) (yrx p.L[i].C hc1 hc2 _ _ (λw w1 w2 w3=>?_))⟩;have hw0:0<=w:=θ;refine Qd (Qd ⟨(i+1,n+w),ϑ,⟨rfl,hlt,ξ,λh5 a ha=>?_⟩,Qax,⟨rfl,Tv⟩⟩);dsimp only at h5 ha;rw[Fad hlt]at ha;rcases Faq.1 ha with ha|ha
   ·exact hs θ a ha
   ·rw[Fbl.1 ha];exact⟨θ,λc hc=>by have:=w2 θ c hc;omega⟩
  ·exact bcd (λ_=>ret yes) (λc3=>absurd c3 θ)
 ·have:i=p.L.length:=Fg c1 hi;subst this;rw[Faj]at hs;refine bcd (λ_=>ret yes) (λc3=>zk (λ_=>ret yes) (λc4=>ret (h _ λhz=>?_)));have c4:=of_decide_eq_false c4;have hz:=of_decide_eq_false hz;rw[zi]at c4;rw[zi]at hz;exact⟨θ,θ,hs θ⟩
def zd0(n:Int)(st:Store)(R:Ja)(h:∀b:Bool,(b=true↔1<=n/\n<=4096)->R (V.bool b) st):Jb 26 [int n] st R:=by
 refine Qy 9 Tryz.func26 ?_;refine bcd (λc1=>?_) (λc1=>?_)
 ·exact ret (h _ (by rw[decide_eq_true_eq];omega))
 ·exact ret (h false χ)
def ysa(l:List Cmd)(hl:l.length<=1000000000000)(hf:∀x∈l,Cmd.fits x)(st:Store)(R:Ja)(h:R (lst 10 zz l) st):Jb 32 [lst 10 zz l] st R:=by
 refine Qy 20 Tryz.func32 ?_;refine AWp.loop (σ:=Nat×AV) ⟨λs=>[(0,.av (lst 10 zz l)),(3,.av s.2),(4,.av (int s.1))],λ_=>[],λs st'=>s.1<=l.length/\App 10 st s.2 (rws zz (l.take s.1)) st',λs=>l.length-s.1⟩ zb ?_ ?_
 ·exact⟨(0,_),Tv,⟨Fae _,App.start 10 st⟩,⟨Tq,Tq,Tq,Tv⟩,Tv⟩
 ·rintro⟨i,v⟩ st' ⟨hi,ha⟩;simp only at hi;refine zk (λh1=>?_) (λh1=>?_)
  ·have hlt:i<l.length:=k9 h1;refine⟨i,rfl,za _ (zp hlt) (yr9 l[i] (hf _ (Faa hlt)) st' _ ⟨ψ,jy (ie:=ti136) (rows':=[zz l[i]]) ha ?_ ?_ ⟨?_,?_⟩ (λv2 st2 ha2=>?_)⟩)⟩
   ·rfl
   ·rfl
   ·simp[zi,ti136];omega
   ·simp[zi];omega
   ·refine⟨⟨θ,θ⟩,⟨(i+1,v2),?_,⟨hlt,?_⟩,Qax,Tv⟩⟩
    ·show l.length-(i+1)<l.length-i;omega
    ·rw[<-Rf hlt];exact ha2
  ·have hge:i=l.length:=Fg h1 hi;subst hge;refine⟨_,st,AV.le_trans ha.le ?_,ha.has,h⟩;rw[Faj];exact Tt
def gu{q:Prop}(h:q:=by
 refine⟨ψ,jy (ie:=ti59) (rows':=[wl b]) ha ?_ ?_ ⟨?_,?_⟩ (λv2 st2 ha2=>?_)⟩
 ·rfl
 ·rfl
 ·simp[zi,ti59];omega
 ·simp[zi];omega
 refine Qd ⟨(i+1,cc,l++[b],v2),ϑ,⟨hlt,(show i+1<=60 by omega),hcc,(show(l++[b]).length<=i+1 by rw[Fac,Fan];omega),λa ha=>?_,?_⟩,Qax,⟨rfl,Tv⟩⟩
 ·rcases Faq.1 ha with ha|ha
  ·exact hls a ha
  ·rw[Fbl.1 ha];exact hb
 ·dsimp only;rw[show rws wl (l++[b])=rws wl l++[wl b]from Fav];exact ha2):q:=h
def zau(p:Scr30)(hp:p7 p)(st:Store)(R:Ja)(h:∀l:List Act30,l.length<=60->(∀a∈l,small a.C)->R (lst 5 wl l) st):Jb 9 [.agg (Ah p)] st R:=by
 have⟨hl,hT,hs⟩:=hp;refine Qy 56 Tryz.func9 ?_;refine AWp.loop (σ:=Nat×Int×List Act30×AV) ⟨λx=>[(1,.bx 1 0),(3,.av x.2.2.2),(4,.av (int x.2.1)),(5,.av (int (x.1:Nat)))],λ_=>[(1,Ah p)],λx st'=>x.1<=p.L.length/\x.1<=60/\(0<=x.2.1/\x.2.1<=4*x.1)/\x.2.2.1.length<=x.1/\(∀a∈x.2.2.1,small a.C)/\App 5 st x.2.2.2 (rws wl x.2.2.1) st',λx=>p.L.length-x.1⟩ zb ?_ ?_
 ·exact⟨(0,0,[],_),Tv,⟨Fae _,Fae _,(by decide:(0:Int)<=0/\(0:Int)<=4*0),Fah _,λa ha=>(nomatch ha),App.start 5 st⟩,⟨Tq,Tq,Tq,Tq,Tv⟩,⟨rfl,Tv⟩⟩
 rintro⟨i,c,l,v⟩ st' ⟨hi,hi6,hc,hll,hls,ha⟩;dsimp only at hi hi6 hc hll hls ha⊢;refine zk (λc1=>?_) (λc1=>?_);rotate_left
 ·exact⟨_,st,ha.le,ha.has,h l θ hls⟩
 have hlt:i<p.L.length:=k9 c1;refine bcd (λc2=>?_) (λc2=>?_);rotate_left
 ·exact⟨_,st,ha.le,ha.has,h l θ hls⟩
 refine⟨i,rfl,za _ (zp hlt) ?_⟩;have hsm:=hs _ (Faa hlt);refine ysa p.L[i].C (by have:=hsm.1;omega) (λx hx=>by have:=hsm.2 x hx;unfold Cmd.fits;omega) _ _ ?_;refine zu (λc3=>?_) (λc3=>by
  let b:Act30:=p.L[i]
  let cc:Int:=c
  have hcc:0<=cc/\cc<=4*((i+1:Nat):Int):=by show 0<=c/\c<=_;omega
  have hb:small b.C:=hsm;exact gu)
 refine bcd (λc4=>?_) (λc4=>by
  let b:Act30:=p.L[i]
  let cc:Int:=c
  have hcc:0<=cc/\cc<=4*((i+1:Nat):Int):=by show 0<=c/\c<=_;omega
  have hb:small b.C:=hsm;exact gu)
 refine bcd (λc5=>?_) (λc5=>by
  let b:Act30:=p.L[i]
  let cc:Int:=c
  have hcc:0<=cc/\cc<=4*((i+1:Nat):Int):=by show 0<=c/\c<=_;omega
  have hb:small b.C:=hsm;exact gu)
 have ht1:=Int.tmod_lt_of_pos p.L[i].N (show(0:Int)<4 by decide);have ht0:=Int.tmod_nonneg (a:=p.L[i].N) 4 θ;refine⟨ψ,Qd (Qd ?_)⟩;refine bcd (λc6=>?_) (λc6=>by
  let b:Act30:={p.L[i]with N:=1+p.L[i].N.tmod 4}
  let cc:Int:=c+(1+p.L[i].N.tmod 4)
  have hcc:0<=cc/\cc<=4*((i+1:Nat):Int):=by show 0<=c+(1+p.L[i].N.tmod 4)/\c+(1+p.L[i].N.tmod 4)<=_;omega
  have hb:small b.C:=hsm;exact gu)
 exact Qd ⟨(i+1,c+(1+p.L[i].N.tmod 4),l,v),ϑ,⟨hlt,(show i+1<=60 by omega),ξ,(show l.length<=i+1 by omega),hls,ha⟩,Qax,⟨rfl,Tv⟩⟩
def yu5:Codec Tryz.prog 60 Act30 wl Act30.good:=by refine⟨λ{H} enc w base held fuel cs x hx hw=>?_⟩;have hu:=Tryz.underlying60;have hl:cs.length=5:=(Px hu hx).trans κ;have⟨a0,q0,h0⟩:=kk hu hx hw 0 0 1 rfl rfl κ By;have⟨a1,q1,h1⟩:=kk hu hx hw 1 1 1 rfl rfl κ By;have⟨a2,q2,h2⟩:=kk hu hx hw 2 2 1 rfl rfl κ By;have⟨a3,q3,h3⟩:=kk hu hx hw 3 3 1 rfl rfl κ By;have⟨a4,q4,h4⟩:=kk hu hx hw 4 4 1 rfl rfl κ ysg;refine⟨⟨a0,a1,a2,a3,a4⟩,⟨⟨q0,q1,q2,q3⟩,q4⟩,?_⟩;have:=h0.cons rfl (h1.cons rfl (h2.cons rfl (h3.cons rfl (h4.cons rfl (CellsOK.stop hl)))));rw[Fda]at this;exact this
def yu2:Codec Tryz.prog 25 (List Act30) (λl=>[lst 5 wl l]) (λl=>l.length<=140737488355328/\∀x∈l,x.good):=
 (Codec.slice Tryz.underlying25 (k:=5) κ ψ (of_decide_eq_true κ) yu5).weaken λ_ h=>⟨h.2,h.1⟩
def scr30_codec:Codec Tryz.prog 27 Scr30 Ah Scr30.good:=by refine⟨λ{H} enc w base held fuel cs x hx hw=>?_⟩;have hu:=Tryz.underlying27;have hl:cs.length=7:=(Px hu hx).trans κ;have⟨a0,q0,h0⟩:=kk hu hx hw 0 0 3 rfl rfl κ yoj;have⟨a1,q1,h1⟩:=kk hu hx hw 1 3 1 rfl rfl κ By;have⟨a2,q2,h2⟩:=kk hu hx hw 2 4 1 rfl rfl κ By;have⟨a3,q3,h3⟩:=kk hu hx hw 3 5 1 rfl rfl κ By;have⟨a4,q4,h4⟩:=kk hu hx hw 4 6 1 rfl rfl κ yu2;refine⟨⟨a0,a1,a2,a3,a4⟩,⟨q0,⟨q1,q2,q3⟩,q4⟩,?_⟩;have:=h0.cons rfl (h1.cons rfl (h2.cons rfl (h3.cons rfl (h4.cons rfl (CellsOK.stop hl)))));rw[Fda]at this;exact this
structure Nm where
 turn:Int
 said:Int
 has:List Int
 acked:List Int
structure Nn where
 src:Int
 dst:Int
 t:Int
 hv:Int
structure Ns where
 X:List Nm
 m:List Nn
def xp(o:Pee):Nm:=⟨o.p.turn,o.p.said,o.p.has,o.p.acked⟩
def Dl(x:Nte):Nn:=⟨x.src,x.dst,x.inp.t,x.have_⟩
def qz(σ:Pty):Ns:=⟨σ.X.map xp,σ.m.map Dl⟩
def Wl(k:Nat):Nat->Ns->Ns
 |0,σ=>σ
 |c+1,σ=>match σ.X[k]? with
  |none=>σ
  |some x=>if x.turn<=yy x.has/\x.turn<maxT then Wl k c {σ with X:=σ.X.set k {x with turn:=x.turn+1}}else σ
def zfk(k:Nat)(x:Nm)(j:Nat):Nn:=⟨(k:Int)+1,((j+1:Nat):Int),if x.acked.getD j 0+1<=x.said then x.acked.getD j 0+1 else -1,x.has.getD j 0⟩
def bu(k:Nat)(x:Nm):Nat->List Nn
 |0=>[]
 |n+1=>bu k x n++(if n=k then []else [zfk k x n])
def Pw(n k:Nat)(σ:Ns):Ns:=match σ.X[k]? with
 |none=>σ
 |some x=>Wl k 4 {σ with m:=σ.m++bu k x n}
theorem Rt(σ:Pty)(k:Nat):(qz σ).X[k]?=σ.X[k]?.map xp:=Far ..
theorem oz(σ:Pty)(k:Nat)(o:Pee)(m:List Nte)(l:List Frm):qz ⟨σ.X.set k o,m,l⟩=⟨(qz σ).X.set k (xp o),m.map Dl⟩:=by show Ns.mk ((σ.X.set k o).map xp) _=_;rw[Fc6];rfl
section
variable {n:Nat} {d:Int} {B:Nat} {σ:Pty}
theorem zdw(k:Nat):∀(c:Nat) {σ:Pty},qz (Ax k c σ)=Wl k c (qz σ)
 |0,σ=>rfl
 |c+1,σ=>by
  unfold Ax Wl;rw[Rt];cases ho:σ.X[k]? with
  |none=>rfl
  |some o=>
   dsimp only[Option.map];by_cases hc:Cr o.p
   ·rw[if_pos hc,if_pos (show(xp o).turn<=yy (xp o).has/\(xp o).turn<maxT from hc),zdw k c,oz];rfl
   ·rw[if_neg hc,if_neg (show¬((xp o).turn<=yy (xp o).has/\(xp o).turn<maxT)from hc)]
theorem yjo{k:Nat}{o:Pee}(hid:o.p.id=(k:Int)+1)(hp:qj o.p){j:Nat}(hj:j<o.p.players.toNat):Dl (F6 o.p (j+1))=zfk k (xp o) j:=by
 have hm:=hp.2.2.2.2.2.2.2.2.1;have hal:=hp.2.2.2.1.2.1;have hja:j<o.p.acked.length:=θ;have hg:o.p.acked.getD j 0=o.p.acked[j]:=by rw[Fao,Fab hja];rfl
 have hmin:=C9 (Faa hja);have hb:=hp.2.2.2.1.1 j hja;have hd:=hp.1.2.2.1;have key:((o.p.mine.find? (Fo o.p (j+1))).getD inp0).t=if o.p.acked.getD j 0+1<=o.p.said then o.p.acked.getD j 0+1 else -1:=by
  have hw:∀i:Inp,Fo o.p (j+1) i=(i.t==o.p.acked.getD j 0+1):=λi=>rfl;cases h:o.p.mine.find? (Fo o.p (j+1))with
  |none=>
   rw[if_neg]
   ·rfl
   intro hle;rw[Fem]at h;have hlt:(o.p.acked[j]-yy o.p.acked).toNat<o.p.mine.length:=by have:=hm.1;omega
   refine h _ (Faa hlt) ?_;rw[hw,(hm.2 _ hlt).2.2,hg,beq_iff_eq];have:=hm.1;omega
  |some x=>
   have h1:=List.find?_some h;have h2:=Fc9 h;have⟨i,hi,e⟩:=Faf h2;have h3:=(hm.2 i hi).2.2;rw[e]at h3;rw[hw,beq_iff_eq]at h1;show x.t=_;rw[if_pos θ,h1]
 show Nn.mk o.p.id ((j+1:Nat):Int) ((o.p.mine.find? (Fo o.p (j+1))).getD inp0).t (o.p.has.getD j 0)=_;rw[key,hid];rfl
theorem zfh{k:Nat}{o:Pee}(hid:o.p.id=(k:Int)+1)(hp:qj o.p):∀c,c<=o.p.players.toNat->(j4 o.p c).map Dl=bu k (xp o) c
 |0,_=>rfl
 |c+1,hc=>by
  show(j4 o.p c++_).map Dl=bu k (xp o) c++_;rw[Fav,zfh hid hp c θ]
  congr 1
  by_cases e:((c+1:Nat):Int)=o.p.id
  ·rw[if_pos e,if_pos θ];rfl
  ·rw[if_neg e,if_neg θ];show [Dl _]=_;rw[yjo hid hp θ]
def zb8(hP:PtyOK n d B σ)(k:Nat):qz (Bp k σ)=Pw n k (qz σ):=by
 unfold Bp Pw;rw[Rt];cases ho:σ.X[k]? with
 |none=>rfl
 |some o=>
  have⟨⟨a1,a2,a3⟩,hp,_⟩:=hP.peer k o ho;dsimp only[Option.map];rw[zdw]
  congr 1
  show Ns.mk _ ((σ.m++_).map Dl)=_;rw[Fav,zfh a1 hp _ (Fah _),a2];rfl
end
def Rw(n:Nat)(d:Int):Ns:=⟨List.replicate n ⟨0,d-1,List.replicate n (d-1),List.replicate n (d-1)⟩,[]⟩
def G8:Gnd:=⟨1,1,[0]⟩
def Vn:List Act30:=[⟨2,1,0,0,[]⟩]
theorem zl1:(Aa G8 1 1 Vn).X.map (λo=>o.p.turn)=[1]:=by
 have hp:xu G8 1:=⟨⟨ψ,ψ,ψ,ψ⟩,ψ,ψ⟩
 have h:=zb8 (n:=1) (Oe (d:=1) hp ⟨ψ,ψ⟩) 0;have e:Aa G8 1 1 Vn=Bp 0 (Ho G8 ((1:Nat):Int) 1):=by show Cb (Ho G8 1 1) ⟨2,1,0,0,[]⟩=_;unfold Cb;rw[if_neg ψ,if_pos rfl,if_pos ⟨ψ,ψ⟩];rfl
 have e2:qz (Ho G8 ((1:Nat):Int) 1)=Rw 1 1:=rfl;rw[e2]at h;have h3:=congrArg (λs:Ns=>s.X.map λx=>x.turn) h;rw[e];have e4:((Pw 1 0 (Rw 1 1)).X.map λx=>x.turn)=[1]:=ψ;rw[<-e4];refine Eq.trans ?_ h3;show _=((Bp 0 _).X.map xp).map _;rw[Fdc];rfl
def zcr(st:Store)(R:Ja)(h:∀X W D L,R (.tup [.agg [yc [1],lst 1 Ml X,lst 8 zr W,lst 1 qu D,lst 3 xx L],int 0]) st):Jb 8 [.agg (zw G8),int 1,int 1,int 1,.lst 5 [[int 2,int 1,int 0,int 0,nil]] none] st R:=by
 have hp:xu G8 1:=⟨⟨ψ,ψ,ψ,ψ⟩,ψ,ψ⟩
 refine ACalls.le (ys:=[.agg (zw G8),int 1,int 1,int 1,lst 5 wl Vn]) ⟨Tt,Tt,Tt,Tt,co ⟨⟨Tt,Tt,Tt,Tt,AV.le_nil 10,Tv⟩,Tv⟩,Tv⟩ (V9 fg G8 (by unfold Gnd.fits;decide) ψ 1 1 1 (by unfold yu;decide) ψ ψ Vn ψ (λa ha=>?_) st R (λhh=>absurd ⟨hp,ψ,ψ⟩ hh) λ_=>?_)
 ·rw[Fbl.1 ha];exact⟨Fae _,λc hc=>(nomatch hc)⟩
 ·unfold C6;rw[zl1];exact h _ _ _ _
def rwm{α β:Type}{f:β->List AV}(g:α->β){X:List α}{i:Nat}(h:i<X.length):(rws f (X.map g))[i]?=some (f (g X[i])):=by rw[rws,Fdc,Far,Fab h];rfl
def Du{q:Prop}(h:q:=by repeat(first|exact Tv|refine⟨rfl,?_⟩)):q:=h
end Go.Proofs
namespace Go.Proofs
open Go Go.V
set_option maxRecDepth 20000
set_option maxHeartbeats 4000000
end Go.Proofs
namespace Go.Proofs
open Go Go.V
set_option maxRecDepth 20000
set_option maxHeartbeats 4000000
def Qaw{p:Prop}(h:p:=by rw[Fal];show X.length<=_;omega):p:=h
def Kj(n:Int)(st:Store)(R:Ja)(h:R (int n) st):Jb 10 [int n] st R:=by refine Qy 4 Tryz.func10 ?_;exact ret h
def za8(st:Store)(R:Ja)(h:R (V.bool true) st):Jb 13 [] st R:=by refine Qy 27 Tryz.func13 ?_;exact⟨ψ,⟨ψ,zcr _ _ (λX W D L=>Kj _ _ _ ⟨0,rfl,za _ rfl (ret h)⟩)⟩⟩
def zgg(p:Scr30)(hp:p.good)(st:Store)(R:Ja)(h:∀z:Bool,(z=true->p7 p/\pu p)->R (V.bool z) st):Jb 7 [.agg (Ah p)] st R:=by have no:=h false (λe=>nomatch e);refine Qy 36 Tryz.func7 ?_;refine zhg p hp _ _ (λz0 h0=>?_);refine yj (zk (λ_=>ret no) (λc=>?_));have hl:=h0 c;refine zhn p.G (by have:=hl.2.1;unfold Gnd.fits;omega) _ _ (λz hz=>zk (λc0=>?_) (λc0=>ret no));have hg:=hz.1 c0;exact bcd (λc1=>bcd (λc2=>bcd (λc3=>bcd (λc4=>zd0 p.R _ _ (λb hb=>ret (h b λe=>⟨hl,hg,⟨c1,c2⟩,⟨c3,c4⟩,hb.1 e⟩))) (λc4=>ret no)) (λc3=>ret no)) (λc2=>ret no)) (λc1=>ret no)
def iA(n:Nat)(A:Nat->List Inp)(t:Int):List Inp:=(List.range n).flatMap λj=>(A j).filter λi=>i.t==t
noncomputable def wA(g:Gnd)(n:Nat)(A:Nat->List Inp):Nat->Wld
 |0=>F7 g n
 |t+1=>Dj (wA g n A t) (Aq (iA n A t))
structure PeeA(g:Gnd)(n:Nat)(d:Int)(A:Nat->List Inp)(i:Nat)(o:Pee):Prop where
 said:o.p.said=d-1+(A i).length
 has:∀j,j<n->o.p.has.getD j 0<=d-1+(A j).length
 inp:∀x,x∈o.p.inputs↔∃j,j<n/\x∈A j/\o.p.turn<=x.t/\x.t<=o.p.has.getD j 0
 mine:∀x∈o.p.mine,x∈A i
 h:o.h=(List.range o.h.length).map λt=>j1 (wA g n A (t+1))
 w:o.w=wA g n A o.h.length
 tick:o.w.tick=o.h.length
 hs:o.p.hashes=o.h.drop (o.h.length-o.p.hashes.length)
 split:o.p.split=false
structure Agr(g:Gnd)(n:Nat)(d:Int)(A:Nat->List Inp)(σ:Pty):Prop where
 all:∀i j,(hj:j<(A i).length)->(A i)[j].t=d+j/\(A i)[j].p=(i:Int)+1
 peer:∀(i:Nat) (o:Pee),σ.X[i]?=some o->PeeA g n d A i o
 inp:∀x∈σ.m,x.inp.t=-1\/∃j,j<n/\x.inp∈A j
 done:∀x∈σ.m,(x.done=-1)\/∃t:Nat,x.done=t/\x.hash=j1 (wA g n A (t+1))/\∀j,j<n->(t:Int)<=d-1+(A j).length
theorem zc0:∀{a b:List Inp},a.Pairwise qy->b.Pairwise qy->(∀x,x∈a↔x∈b)->a=b
 |[],[],_,_,_=>rfl
 |[],y::b,_,_,h=>nomatch (h y).2 Fa1
 |x::a,[],_,_,h=>nomatch (h x).1 Fa1
 |x::a,y::b,ha,hb,h=>by
  have⟨a1,a2⟩:=Fb6.1 ha;have⟨b1,b2⟩:=Fb6.1 hb;have e:x=y:=by
   rcases Faw.1 ((h x).1 Fa1)with e|hx
   ·exact e
   rcases Faw.1 ((h y).2 Fa1)with e|hy
   ·exact e.symm
   exact(p9 (R5 (a1 y hy) (b1 x hx))).elim
  subst e;rw[zc0 a2 b2 λz=>?_];refine⟨λhz=>?_,λhz=>?_⟩
  ·rcases Faw.1 ((h z).1 (Fau _ hz))with rfl|hz2
   ·exact(p9 (a1 _ hz)).elim
   ·exact hz2
  ·rcases Faw.1 ((h z).2 (Fau _ hz))with rfl|hz2
   ·exact(p9 (b1 _ hz)).elim
   ·exact hz2
theorem dt{l:List Int}{i:Nat}(h:i<l.length):l.getD i 0=l[i]:=by rw[Fao,Fab h];rfl
theorem Sk{l:List Int}{i j:Nat}(h:i<l.length)(v:Int):(l.set i v).getD j 0=if i=j then v else l.getD j 0:=by
 rw[Fao,Fao,Fds];split
 ·rfl
 ·rfl
def yhg{L t:Nat}(f:Nat->Int)(h:t<L):((List.range L).map f).getD t 0=f t:=by simp[h]
section
variable {g:Gnd} {n:Nat} {d:Int} {A:Nat->List Inp} {σ:Pty}
theorem Agr.at(h:Agr g n d A σ){i:Nat}{x:Inp}(hx:x∈A i):x.p=(i:Int)+1/\d<=x.t/\x.t<=d-1+(A i).length:=by obtain⟨j,hj,rfl⟩:=Faf hx;have:=h.all i j hj;exact⟨this.2,θ,θ⟩
def Agr.uni(h:Agr g n d A σ){i:Nat}{x y:Inp}(hx:x∈A i)(hy:y∈A i)(e:x.t=y.t):x=y:=by obtain⟨j,hj,rfl⟩:=Faf hx;obtain⟨k,hk,rfl⟩:=Faf hy;have h1:=h.all i j hj;have h2:=h.all i k hk;have:j=k:=θ;subst this;rfl
def Agr.pw(h:Agr g n d A σ)(i:Nat):(A i).Pairwise qy:=Fbz.2 λj k hj hk hjk=>by have h1:=h.all i j hj;have h2:=h.all i k hk;exact .inl θ
def yne(h:Agr g n d A σ)(t:Int):(iA n A t).Pairwise qy:=by
 unfold iA;rw[List.pairwise_flatMap];refine⟨λj hj=>(h.pw j).filter _,Fbz.2 λa b ha hb hab x hx y hy=>?_⟩;rw[List.getElem_range]at hx hy;have⟨hx1,hx2⟩:=Fbd.1 hx;have⟨hy1,hy2⟩:=Fbd.1 hy;have h1:=h.at hx1;have h2:=h.at hy1;have e1:x.t=t:=by simpa using hx2
 have e2:y.t=t:=by simpa using hy2
 exact .inr ⟨θ,θ⟩
theorem ynf{t:Int}{x:Inp}:x∈iA n A t↔∃j,j<n/\x∈A j/\x.t=t:=by
 unfold iA;rw[List.mem_flatMap];constructor
 ·rintro⟨j,hj,hx⟩;have⟨h1,h2⟩:=Fbd.1 hx;exact⟨j,Fbj.1 hj,h1,θs⟩
 ·rintro⟨j,hj,hx,e⟩;exact⟨j,Fbj.2 hj,Fbd.2 ⟨hx,by simpa using e⟩⟩
theorem yjs(h:Agr g n d A σ){i:Nat}{o:Pee}(ho:PeeA g n d A i o)(hp:qj o.p)(hn:o.p.players=n)(hc:Cr o.p):nextC o.p=Aq (iA n A o.p.turn):=by
 unfold nextC;refine congrArg Aq (zc0 ((risesI_iff.1 hp.2.2.2.2.2.2.2.2.2.1).2.filter _) (yne h _) λx=>?_);rw[ynf];constructor
 ·intro hx;have⟨h1,h2⟩:=Fbd.1 hx;have⟨j,h3,h4,_⟩:=(ho.inp x).1 h1;exact⟨j,h3,h4,θs⟩
 ·rintro⟨j,hj,hx,e⟩;refine Fbd.2 ⟨(ho.inp x).2 ⟨j,hj,hx,θ,?_⟩,by simpa using e⟩;have hlt:j<o.p.has.length:=by have:=hp.2.2.1.2.1;omega
  rw[dt hlt];have:=C9 (Faa hlt);have:=hc.1;omega
def Dv(A:Nat->List Inp)(k:Nat)(x:Inp):Nat->List Inp:=λi=>if i=k then A k++[x]else A i
def zar(A:Nat->List Inp)(k:Nat)(x:Inp)(j:Nat):(A j).length<=(Dv A k x j).length:=by
 unfold Dv;split
 ·rename_i e;subst e;rw[Fac];omega
 ·exact Fah _
def addA_mem{k j:Nat}{x y:Inp}:y∈Dv A k x j↔y∈A j\/(j=k/\y=x):=by
 unfold Dv;split
 ·rename_i e;subst e;simp
 ·rename_i e;simp[e]
theorem yng{k:Nat}{x:Inp}{t:Int}(h:x.t≠t):iA n (Dv A k x) t=iA n A t:=by
 unfold iA
 congr 1
 funext j
 unfold Dv;split
 ·rename_i e;subst e;rw[Fca,List.filter_cons_of_neg θz,List.filter_nil,Fbi]
 ·rfl
theorem Na{k:Nat}{x:Inp}:∀{t:Nat},(t:Int)<=x.t->wA g n (Dv A k x) t=wA g n A t
 |0,_=>rfl
 |t+1,h=>by show Dj _ _=Dj _ _;rw[Na θ,yng θ]
def PeeA.due{i:Nat}{o:Pee}(ho:PeeA g n d A i o)(hp:qj o.p)(hn:o.p.players=n)(ht:o.p.turn=o.h.length):∀j,j<n->(o.h.length:Int)-1<=d-1+(A j).length:=λj hj=>by
 have hlt:j<o.p.has.length:=by have:=hp.2.2.1.2.1;omega
 have h1:=ho.has j hj;rw[dt hlt]at h1;have:=C9 (Faa hlt);have:=hp.2.2.2.2.1;omega
theorem PeeA.get{i:Nat}{o:Pee}(ho:PeeA g n d A i o){t:Nat}(ht:t<o.h.length):o.h.getD t 0=j1 (wA g n A (t+1)):=
 (congrArg (λl:List Int=>l.getD t 0) ho.h).trans (yhg _ ht)
theorem PeeA.hsget{i:Nat}{o:Pee}(ho:PeeA g n d A i o)(j:Nat):o.p.hashes.getD j 0=o.h.getD (o.h.length-o.p.hashes.length+j) 0:=
 (congrArg (λl:List Int=>l.getD j 0) ho.hs).trans (by rw[Fao,Fbq,Fao])
theorem PeeA.add{i k:Nat}{x:Inp}{o:Pee}(ho:PeeA g n d A i o)(hp:qj o.p)(hn:o.p.players=n)(ht:o.p.turn=o.h.length)(hk:k<n)(hx:x.t=d+(A k).length)(hik:i≠k):PeeA g n d (Dv A k x) i o:=by
 have hd:=ho.due hp hn ht k hk;refine⟨?_,λj hj=>?_,λy=>?_,λy hy=>addA_mem.2 (.inl (ho.mine y hy)),?_,?_,ho.tick,ho.hs,ho.split⟩
 ·rw[ho.said];unfold Dv;rw[if_neg hik]
 ·have:=ho.has j hj;have:=zar A k x j;omega
 ·rw[ho.inp];constructor
  ·rintro⟨j,h1,h2,h3⟩;exact⟨j,h1,addA_mem.2 (.inl h2),h3⟩
  ·rintro⟨j,h1,h2,h3⟩;rcases addA_mem.1 h2 with h2|⟨rfl,rfl⟩
   ·exact⟨j,h1,h2,h3⟩
   ·have:=ho.has j h1;omega
 ·conv=>lhs;rw[ho.h]
  refine Fbw λt ht=>?_;have:=Fbj.1 ht;rw[Na θ]
 ·rw[ho.w,Na θ]
def yum{B:Nat}(hP:PtyOK n d B σ)(h:Agr g n d A σ)(k:Nat)(l:List Cmd):∃A',Agr g n d A' (Ie k l σ):=by
 unfold Ie;split
 ·exact⟨A,h⟩
 rename_i o ho;split;rotate_left
 ·exact⟨A,h⟩
 rename_i he;have⟨⟨a1,a2,a3⟩,hp,hw,ht,hB⟩:=hP.peer k o ho;have⟨_,hs1,hs2,hsd⟩:=tf he;have hk:k<n:=by have:=(Fax.1 ho).1;have:=hP.len;omega
 have hA:=h.peer k o ho;have hmy:=hA.said;have hid:(o.p.id-1).toNat=k:=θ;have hkl:k<o.p.has.length:=by have:=hp.2.2.1.2.1;omega
 have hhk:o.p.has.getD k 0=o.p.said:=by have h2:=hp.2.2.1.2.2;simp only[hid]at h2;rw[dt hkl];exact h2 hkl
 generalize hx:j3 o.p (ofP ((k:Int)+1) l)=x;have hxt:x.t=d+(A k).length:=by rw[<-hx];show o.p.said+1=_;omega
 have hxs:x.t=o.p.said+1:=by rw[<-hx];rfl
 have hdue:=hA.due hp a2 ht;refine⟨Dv A k x,λi j hj=>?_,λi y hy=>?_,λy hy=>?_,λy hy=>?_⟩
 ·unfold Dv at hj⊢;split
  ·rename_i e;subst e;simp only[if_true]at hj;by_cases hlt:j<(A i).length
   ·rw[Fbr hlt];exact h.all i j hlt
   ·have:j=(A i).length:=by rw[Fac,Fan]at hj;omega
    subst this;simp only[Fcv (Fah _),Fc3,Fb1];exact⟨hxt,by rw[<-hx];exact a1⟩
  ·rename_i e;simp only[if_neg e]at hj;exact h.all i j hj
 ·rcases Si hy with⟨rfl,rfl⟩|⟨e,hy⟩
  ·have hh:∀j,(jj o.p (ofP ((i:Int)+1) l)).has.getD j 0=if i=j then o.p.said+1 else o.p.has.getD j 0:=λj=>by
    show(o.p.has.set (o.p.id-1).toNat (o.p.said+1)).getD j 0=_;rw[hid];exact Sk hkl _
   refine⟨?_,λj hj=>?_,λy=>?_,λy hy=>?_,?_,?_,hA.tick,hA.hs,hA.split⟩
   ·show o.p.said+1=_;unfold Dv;rw[if_pos rfl,Fac,Fan];omega
   ·dsimp only;rw[hh];split
    ·rename_i e;subst e;unfold Dv;rw[if_pos rfl,Fac,Fan];omega
    ·have:=hA.has j hj;have:=zar A i x j;omega
   ·show y∈j5 o.p.inputs (j3 o.p (ofP ((i:Int)+1) l))↔_;rw[hx,mem_insI,hA.inp];constructor
    ·rintro(rfl|⟨j,h1,h2,h3,h4⟩)
     ·refine⟨i,hk,addA_mem.2 (.inr ⟨rfl,rfl⟩),?_,?_⟩
      ·show o.p.turn<=_;have:=hdue i hk;omega
      ·dsimp only;rw[hh,if_pos rfl];omega
     ·refine⟨j,h1,addA_mem.2 (.inl h2),h3,?_⟩;dsimp only;rw[hh];split
      ·rename_i e;subst e;omega
      ·exact h4
    ·rintro⟨j,h1,h2,h3,h4⟩;dsimp only at h4;rw[hh]at h4;rcases addA_mem.1 h2 with h2|⟨rfl,rfl⟩
     ·refine .inr ⟨j,h1,h2,h3,?_⟩;split at h4
      ·rename_i e;subst e;have:=(h.at h2).2.2;omega
      ·exact h4
     ·exact .inl rfl
   ·have:y∈(jj o.p (ofP ((i:Int)+1) l)).mine:=hy;unfold jj at this;dsimp only at this;split at this
    ·rcases Faq.1 this with h1|h1
     ·exact addA_mem.2 (.inl (hA.mine y h1))
     ·rw[hx]at h1;exact addA_mem.2 (.inr ⟨rfl,Fbl.1 h1⟩)
    ·exact addA_mem.2 (.inl (hA.mine y this))
   ·show o.h=_
    conv=>lhs;rw[hA.h]
    refine Fbw λt ht=>?_;have:=Fbj.1 ht;have:=hdue i hk;rw[Na θ]
   ·show o.w=wA g n (Dv A i x) o.h.length;have:=hdue i hk;rw[Na θ,<-hA.w]
  ·have⟨⟨b1,b2,b3⟩,bp,bw,bt,bB⟩:=hP.peer i y hy;exact(h.peer i y hy).add bp b2 bt hk hxt e
 ·exact(h.inp y hy).imp id λ⟨j,h1,h2⟩=>⟨j,h1,addA_mem.2 (.inl h2)⟩
 ·refine(h.done y hy).imp id λ⟨t,h1,h2,h3⟩=>⟨t,h1,?_,λj hj=>?_⟩
  ·have:=h3 k hk;rw[h2,Na θ]
  ·have:=h3 j hj;have:=zar A k x j;omega
def zk7{B:Nat}(hP:PtyOK n d B σ)(h:Agr g n d A σ){x:Nte}(hi:x.inp.t=-1\/∃j,j<n/\x.inp∈A j)(hd:(x.done=-1)\/∃t:Nat,x.done=t/\x.hash=j1 (wA g n A (t+1))/\∀j,j<n->(t:Int)<=d-1+(A j).length):Agr g n d A (Ab σ x):=by
 unfold Ab;split
 ·exact h
 rename_i o ho;split;rotate_left
 ·exact h
 rename_i he;generalize hk:(x.dst-1).toNat=k at ho⊢;have⟨⟨a1,a2,a3⟩,hp,hw,ht,hB⟩:=hP.peer k o ho;have⟨_,hn,hds,hsp,htu⟩:=el he;have hA:=h.peer k o ho;have hs1:=hn.1;have hhl:=hp.2.2.1.2.1;obtain⟨f,hf⟩:∃f:Nat,x.src=(f:Int)+1:=⟨(x.src-1).toNat,θ⟩
 have hfe:(x.src-1).toNat=f:=θ;have hfl:f<o.p.has.length:=θ;have hfn:f<n:=θ;have⟨i1,i2,i3,i4,i5,i6,i7,i8,i9⟩:=lw (p:=o.p) x;have hack:(qr o.p x).has=(ji o.p x).has/\(qr o.p x).inputs=(ji o.p x).inputs/\(qr o.p x).said=o.p.said/\(qr o.p x).turn=o.p.turn/\(qr o.p x).hashes=o.p.hashes/\∀y∈(qr o.p x).mine,y∈o.p.mine:=by
  unfold qr xg;dsimp only;split
  ·exact⟨rfl,rfl,i4,i3,i7,λy hy=>by rw[<-i6];exact hy⟩
  ·exact⟨rfl,rfl,i4,i3,i7,λy hy=>by rw[<-i6];exact(Fbd.1 hy).1⟩
 have⟨k1,k2,k3,k4,k5,k6⟩:=hack;have hti:(∀j,j<n->(ji o.p x).has.getD j 0<=d-1+(A j).length)/\∀y,y∈(ji o.p x).inputs↔∃j,j<n/\y∈A j/\o.p.turn<=y.t/\y.t<=(ji o.p x).has.getD j 0:=by
  unfold ji;split;rotate_left
  ·exact⟨hA.has,hA.inp⟩
  rename_i c6;have⟨hip,hpp,hno⟩:=zcc hp hn hsp c6;rw[hfe]at c6⊢;have hgf:=dt hfl;have hlow:=C9 (Faa hfl);have hmin:=hp.2.2.2.2.1;have⟨j0,hj0,hin⟩:=hi.resolve_left (by have:=hip.1;omega);have hat:=h.at hin;have:j0=f:=θ;subst this;refine⟨λj hj=>?_,λy=>?_⟩
  ·dsimp only;rw[Sk hfl];split
   ·rename_i e;subst e;omega
   ·exact hA.has j hj
  ·dsimp only;rw[mem_insI,hA.inp];constructor
   ·rintro(rfl|⟨j,h1,h2,h3,h4⟩)
    ·exact⟨j0,hfn,hin,θ,by rw[Sk hfl,if_pos rfl];omega⟩
    ·refine⟨j,h1,h2,h3,?_⟩;rw[Sk hfl];split
     ·rename_i e;subst e;omega
     ·exact h4
   ·rintro⟨j,h1,h2,h3,h4⟩;rw[Sk hfl]at h4;split at h4
    ·rename_i e;subst e;by_cases e2:y.t=o.p.has.getD j0 0+1
     ·exact .inl (h.uni h2 hin θ)
     ·exact .inr ⟨j0,h1,h2,h3,θ⟩
    ·exact .inr ⟨j,h1,h2,h3,h4⟩
 refine⟨h.all,λi y hy=>?_,h.inp,h.done⟩;rcases Si hy with⟨rfl,rfl⟩|⟨e,hy⟩;rotate_left
 ·exact h.peer i y hy
 refine⟨k3.trans hA.said,λj hj=>by dsimp only;rw[k1];exact hti.1 j hj,λy=>by dsimp only;rw[k1,k2,k4];exact hti.2 y,λy hy=>hA.mine y (k6 y hy),hA.h,hA.w,hA.tick,by dsimp only;rw[k5];exact hA.hs,?_⟩;show(o.p.split||Ib (xg (ji o.p x) _ x.have_) x.done x.hash)=false;rw[hA.split,Fey];have⟨q1,q2,q3⟩:=zld (ji o.p x) (x.src-1).toNat x.have_;refine decide_eq_false ?_;rw[q1,q2,i7,i3];rintro⟨c1,c2,c3⟩;have hl2:=hp.2.2.2.2.2.2.2.1;rcases hd with hd|⟨t,ht1,ht2,ht3⟩
 ·rw[hd]at c2;omega
 ·refine c3 ?_;rw[ht1]at c1 c2⊢;have e1:((o.p.hashes.length:Int)-(o.p.turn-t)).toNat=t-(o.h.length-o.p.hashes.length):=θ;rw[e1];have hb:o.p.hashes.length<=o.h.length:=θ;rw[hA.hsget,show o.h.length-o.p.hashes.length+(t-(o.h.length-o.p.hashes.length))=t by omega,hA.get θ,ht2]
def zk6{B:Nat}:∀(l:List Nte) {σ:Pty},PtyOK n d B σ->Agr g n d A σ->(∀x∈l,(x.inp.t=-1\/∃j,j<n/\x.inp∈A j)/\((x.done=-1)\/∃t:Nat,x.done=t/\x.hash=j1 (wA g n A (t+1))/\∀j,j<n->(t:Int)<=d-1+(A j).length))->Agr g n d A (l.foldl Ab σ)
 |[],_,_,h,_=>h
 |x::l,_,hP,h,hl=>zk6 l (W7 hP x) (zk7 hP h (hl x Fa1).1 (hl x Fa1).2) λy hy=>hl y (Fau _ hy)
def zk5(k:Nat):∀(c:Nat) {B:Nat} {σ:Pty},PtyOK n d B σ->Agr g n d A σ->Agr g n d A (Ax k c σ)
 |0,B,σ,hP,h=>h
 |c+1,B,σ,hP,h=>by
  have hP':=W6 k 1 hP;unfold Ax at hP'⊢;cases ho:σ.X[k]? with
  |none=>exact h
  |some o=>
   rw[ho]at hP';dsimp only at hP'⊢;split;rotate_left
   ·exact h
   rename_i hc;rw[if_pos hc]at hP';refine zk5 k c hP' ⟨h.all,λi y hy=>?_,h.inp,h.done⟩;rcases Si hy with⟨rfl,rfl⟩|⟨e,hy⟩;rotate_left
   ·exact h.peer i y hy
   have⟨⟨a1,a2,a3⟩,hp,hw,ht,hB⟩:=hP.peer i o ho;have hA:=h.peer i o ho;have hlen:(o.h++[j1 o.next]).length=o.h.length+1:=by rw[Fac,Fan]
   have en:o.next=wA g n A (o.h.length+1):=by show Dj o.w (nextC o.p)=Dj _ _;rw[yjs h hA hp a2 hc,hA.w,ht]
   refine⟨hA.said,hA.has,λy=>?_,hA.mine,?_,?_,?_,?_,hA.split⟩
   ·show y∈Dk o.p.turn o.p.inputs↔∃j,j<n/\y∈A j/\o.p.turn+1<=y.t/\_;unfold Dk;rw[Fbd,hA.inp];constructor
    ·rintro⟨⟨j,h1,h2,h3,h4⟩,h5⟩;have:y.t≠o.p.turn:=by simpa using h5
     exact⟨j,h1,h2,θ,h4⟩
    ·rintro⟨j,h1,h2,h3,h4⟩;exact⟨⟨j,h1,h2,θ,h4⟩,by simpa using(show y.t≠o.p.turn by omega)⟩
   ·show o.h++[j1 o.next]=(List.range (o.h++[j1 o.next]).length).map _;rw[hlen,Fcw,Fav,<-hA.h,en];rfl
   ·show o.next=wA g n A (o.h++[j1 o.next]).length;rw[hlen,en]
   ·show o.next.tick=((o.h++[j1 o.next]).length:Nat)
    rw[hlen];show(Dj o.w (nextC o.p)).tick=_;have hct:=hc.2;have e:¬o.w.tick=1099511627776:=by rw[hA.tick,<-ht];unfold maxT at hct;omega
    rw[(ol e _).1,yqr hw,hA.tick];rfl
   ·show(if 16<o.p.hashes.length+1 then(o.p.hashes++[_]).drop 1 else o.p.hashes++[_])=(o.h++[j1 o.next]).drop ((o.h++[j1 o.next]).length-(if 16<o.p.hashes.length+1 then(o.p.hashes++[_]).drop 1 else o.p.hashes++[_]).length);have hl2:=hp.2.2.2.2.2.2.2.1;have e:o.p.hashes++[j1 o.next]=(o.h++[j1 o.next]).drop (o.h.length-o.p.hashes.length):=by
     rw[List.drop_append_of_le_length θ,<-hA.hs]
    generalize j1 o.next=s at*;rw[hlen];split
    ·rw[Fbk,Fac,Fan]
     conv=>lhs;rw[e,Fdh]
     congr 1
     omega
    ·rw[Fac,Fan]
     conv=>lhs;rw[e]
     congr 1
     omega
def zk4{B:Nat}(hP:PtyOK n d B σ)(h:Agr g n d A σ)(k:Nat):Agr g n d A (Bp k σ):=by
 have hP':=nk hP k;unfold Bp;split
 ·exact h
 rename_i o ho;have⟨⟨a1,a2,a3⟩,hp,hw,ht,hB⟩:=hP.peer k o ho;have hA:=h.peer k o ho;have hkn:k<n:=by have:=(Fax.1 ho).1;have:=hP.len;omega
 have hP2:PtyOK n d (B+8) {σ with m:=σ.m++j4 o.p o.p.players.toNat}:=⟨hP.n8,hP.len,(hP.up (C:=B+8) θ).peer,λx hx=>by
   rcases Faq.1 hx with hx|hx
   ·exact hP.note x hx
   ·exact o5 ⟨⟨a1,a2,a3⟩,hp⟩ hx,by
   have h1:=hP.lm;have h2:=hP.n8;have hl:=Ru o.p o.p.players.toNat;dsimp only;rw[Fac];omega,by have:=hP.ll;dsimp only;omega,hP.lc⟩
 refine zk5 k 4 hP2 ⟨h.all,h.peer,λx hx=>?_,λx hx=>?_⟩
 ·rcases Faq.1 hx with hx|hx
  ·exact h.inp x hx
  ·obtain⟨j,h1,h2,rfl⟩:=br hx;rcases zfj o.p (j+1)with e|e
   ·rw[e];exact .inl rfl
   ·exact .inr ⟨k,hkn,hA.mine _ e⟩
 ·rcases Faq.1 hx with hx|hx
  ·exact h.done x hx
  ·obtain⟨j,h1,h2,rfl⟩:=br hx;by_cases e:o.p.hashes=[]
   ·exact .inl (if_pos e)
   ·have hl2:=hp.2.2.2.2.2.2.2.1;have hpos:=Fcu.2 e;refine .inr ⟨o.h.length-1,?_,?_,λj hj=>?_⟩
    ·show(if o.p.hashes=[]then(-1:Int)else o.p.turn-1)=_;rw[if_neg e];omega
    ·show o.p.hashes.getLastD 0=_;rw[Feq,Fer,<-Fao,hA.hsget,show o.h.length-o.p.hashes.length+(o.p.hashes.length-1)=o.h.length-1 by omega,hA.get θ]
    ·have:=hA.due hp a2 ht j hj;omega
def zk3{B:Nat}(hP:PtyOK n d B σ)(h:Agr g n d A σ):∀c,Agr g n d A ((List.range c).foldl (fun σ k=>Bp k σ) σ)
 |0=>h
 |c+1=>by rw[Fcw,Fce];exact zk4 (Rm hP c) (zk3 hP h c) c
def yuo{B:Nat}(hP:PtyOK n d B σ)(h:Agr g n d A σ):Agr g n d A (Iz σ):=by have h2:=zk3 hP h σ.X.length;exact zk6 (Cg σ).m (Rn hP).m0 ⟨h2.all,h2.peer,λx hx=>(nomatch hx),λx hx=>(nomatch hx)⟩ λx hx=>⟨h2.inp x hx,h2.done x hx⟩
def zk8:∀(c:Nat) {B:Nat} {σ:Pty},PtyOK n d B σ->Agr g n d A σ->Agr g n d A (H4 c σ)
 |0,B,σ,_,h=>h
 |c+1,B,σ,hP,h=>zk8 c (W8 hP) (yuo hP h)
def yun{B:Nat}(hP:PtyOK n d B σ)(h:Agr g n d A σ)(K N:Int):Agr g n d A (Hr K N σ):=by
 have he:∀j,Agr g n d A {σ with m:=σ.m.eraseIdx j}:=λj=>⟨h.all,h.peer,λx hx=>h.inp x (Fc0 hx),λx hx=>h.done x (Fc0 hx)⟩
 have hPe:∀j,PtyOK n d B {σ with m:=σ.m.eraseIdx j}:=λj=>⟨hP.n8,hP.len,hP.peer,λx hx=>hP.note x (Fc0 hx),by have:=Few σ.m j;have:=hP.lm;dsimp only;omega,hP.ll,hP.lc⟩
 unfold Hr;split
 ·exact h
 rename_i x hx;have hm:=Fa4 hx;split
 ·refine⟨h.all,h.peer,λy hy=>?_,λy hy=>?_⟩
  ·rcases Faq.1 hy with hy|hy
   ·exact h.inp y hy
   ·rw[Fbl.1 hy];exact h.inp x hm
  ·rcases Faq.1 hy with hy|hy
   ·exact h.done y hy
   ·rw[Fbl.1 hy];exact h.done x hm
 ·split
  ·exact zk7 (hPe _) (he _) (h.inp x hm) (h.done x hm)
  ·exact he _
def yup{B:Nat}(hP:PtyOK n d B σ)(h:Agr g n d A σ)(a:Act30):∃A',Agr g n d A' (Cb σ a):=by
 unfold Cb;split
 ·split
  ·exact yum hP h _ _
  ·exact⟨A,h⟩
 refine⟨A,?_⟩;split
 ·split
  ·exact zk4 hP h _
  ·exact h
 split
 ·exact yun hP h _ _
 split
 ·split
  ·exact zk8 _ hP h
  ·exact h
 ·exact h
end
section
variable {g:Gnd} {d:Int}
def zfo{n:Nat}(hp:xu g n):Agr g n d (λ_=>[]) (Ho g n d):=by
 refine⟨λi j hj=>absurd hj (Fa3 j),λi o ho=>?_,λx hx=>(nomatch hx),λx hx=>(nomatch hx)⟩;have ho:((List.range (n:Int).toNat).map λi=>Pee.mk (xt ((i+1:Nat):Int) n d) (F7 g n) [])[i]?=some o:=ho;rw[Far]at ho;by_cases hi:i<(n:Int).toNat
 ·rw[List.getElem?_range hi]at ho;cases ho;refine⟨?_,λj hj=>?_,λx=>⟨λhx=>(nomatch hx),λ⟨j,_,hx,_⟩=>(nomatch hx)⟩,λx hx=>(nomatch hx),rfl,rfl,rfl,rfl,rfl⟩
  ·show d-1=d-1+((0:Nat):Int);omega
  ·have e:(xt ((i+1:Nat):Int) n d).has=List.replicate (n:Int).toNat (d-1):=if_pos hp.2;show(xt ((i+1:Nat):Int) n d).has.getD j 0<=d-1+((0:Nat):Int);rw[e,Fao,Fby,if_pos θ];show d-1<=_;omega
 ·rw[Fbe (by rw[Fcd];omega)]at ho;cases ho
def zat{n:Nat}:∀(l:List Act30) {B:Nat} {σ:Pty} {A:Nat->List Inp},PtyOK n d B σ->Agr g n d A σ->∃A',Agr g n d A' (l.foldl Cb σ)
 |[],B,σ,A,_,h=>⟨A,h⟩
 |a::l,B,σ,A,hP,h=>by have⟨A',h'⟩:=yup hP h a;exact zat l (nn hP a) h'
def zio{n:Int}(hp:xu g n)(hd:1<=d/\d<=8)(l:List Act30){i k:Nat}{a b:Pee}(ha:(Aa g n d l).X[i]?=some a)(hb:(Aa g n d l).X[k]?=some b):
  a.p.split=false/\(a.h.length:Int)=a.p.turn/\a.w.tick=a.p.turn/\(∀m,m<=a.h.length->m<=b.h.length->a.h.take m=b.h.take m)/\(a.p.turn=b.p.turn->a.w=b.w):=by
 obtain⟨m,rfl⟩:∃m:Nat,n=m:=⟨n.toNat,by have:=hp.2;omega⟩
 have⟨A,hA⟩:=zat l (Oe hp hd) (zfo hp);have hok:=ez hp hd l;have h1:=hA.peer i a ha;have h2:=hA.peer k b hb;have⟨_,_,_,t1,_⟩:=hok.peer i a ha;have⟨_,_,_,t2,_⟩:=hok.peer k b hb;refine⟨h1.split,t1.symm,by rw[h1.tick,t1],λc c1 c2=>?_,λe=>?_⟩
 ·rw[h1.h,h2.h,<-Fev,<-Fev,List.take_range,List.take_range,Fdm c1,Fdm c2]
 ·rw[h1.w,h2.w,show a.h.length=b.h.length by omega]
end
end Go.Proofs
