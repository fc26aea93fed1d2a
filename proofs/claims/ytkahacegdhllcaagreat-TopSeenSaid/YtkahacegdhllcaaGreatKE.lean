/- Ground of laws of throngtop: contracts and plain lemmas; no condition beyond the row's own. -/
import Derived.Test.YtkahacegdhllcaaGreatKD
set_option linter.unusedSimpArgs false
set_option linter.unusedVariables false
set_option linter.defProp false
namespace Go.V
structure FarOK(E:Nat->Nat->Int->Prop)(goal:Nat)(d:Nat->Int):Prop where
 lab:∀u,d u=-1\/0<=d u
 gl:d goal=0
 pre:∀u,u≠goal->0<=d u->∃t c,0<=d t/\E t u c/\d t+c<=d u
 rel:∀t u c,0<=d t->E t u c->0<=d u/\d u<=d t+c
section
variable {goal u n t:Nat} {cur:Int}
def ei{E:Nat->Nat->Int->Prop}(hE:∀t u c,E t u c->0<c){d e:Nat->Int}(h:FarOK E goal d)(k:FarOK E goal e):∀(n:Nat) (u:Nat),0<=e u->(e u).toNat=n->0<=d u/\d u<=e u:=by
 intro n;induction n using Nat.strongRecOn with
 |_ n ih=>
  intro u hu hn;by_cases hg:u=goal
  ·subst hg;have h1:=h.gl;omega
  ·have⟨t,c,ht,hE1,hc⟩:=k.pre u hg hu;have hp:=hE _ _ _ hE1;have⟨h1,h2⟩:=ih (e t).toNat θ t ht rfl;have⟨h3,h4⟩:=h.rel t u c h1 hE1;omega
def ypx{E:Nat->Nat->Int->Prop}(hE:∀t u c,E t u c->0<c){d e:Nat->Int}(h:FarOK E goal d)(k:FarOK E goal e):d=e:=by
 funext u
 rcases h.lab u with h1|h1
 ·rcases k.lab u with h2|h2
  ·omega
  ·have:=ei hE h k _ u h2 rfl;omega
 ·rcases k.lab u with h2|h2
  ·have:=ei hE k h _ u h1 rfl;omega
  ·have h3:=ei hE h k _ u h2 rfl;have h4:=ei hE k h _ u h1 rfl;omega
def yh{α:Type}(d:Nat->α)(u:Nat)(x:α):Nat->α:=λj=>if j=u then x else d j
theorem Cx{α:Type}(d:Nat->α)(u:Nat)(x:α):yh d u x u=x:=by simp[yh]
theorem wo{α:Type}{d:Nat->α}{j:Nat}{x:α}(h:j≠u):yh d u x j=d j:=by simp[yh,h]
structure DJ(E:Nat->Nat->Int->Prop)(n goal:Nat)(d:Nat->Int)(dn:Nat->Bool)(q:List (Int×Int))(cur:Int)(O:Nat->Nat->Int->Prop):Prop where
 lab:∀u,d u=-1\/0<=d u
 gl:d goal=0
 pre:∀u,u≠goal->0<=d u->∃t c,dn t=true/\0<=d t/\E t u c/\d t+c<=d u
 rel:∀t u c,dn t=true->E t u c->¬O t u c->0<=d u/\d u<=d t+c
 mono:∀t,dn t=true->0<=d t/\d t<=cur
 ent:∀e∈q,∃u:Nat,e.2=(u:Int)/\u<n/\0<=d u/\d u<=e.1/\cur<=e.1
 wait:∀u,0<=d u->dn u=false->(d u,(u:Int))∈q
def L7:Nat->Nat->Int->Prop:=λ_ _ _=>False
def yri(E:Nat->Nat->Int->Prop)(hg:goal<n){d:Nat->Int}(hd:∀u,d u=if u=goal then 0 else -1):DJ E n goal d (λ_=>false) [(0,(goal:Int))] 0 L7:=by
 refine⟨λu=>?_,by simp[hd],λu hu h=>?_,λt u c h=>?_,λt h=>?_,λe he=>?_,λu h _=>?_⟩
 ·grind
 ·grind
 ·cases h
 ·cases h
 ·grind
 grind
def yrg{E:Nat->Nat->Int->Prop}{d:Nat->Int}{dn:Nat->Bool}{q q':List (Int×Int)}(h:DJ E n goal d dn q cur L7){x:Int×Int}{t:Nat}(ht:x.2=(t:Int))(hp:q.Perm (x::q'))(hd:dn t=true):DJ E n goal d dn q' cur L7:=by
 refine⟨h.lab,h.gl,h.pre,h.rel,h.mono,λe he=>h.ent e (hp.mem_iff.2 (Fau _ he)),λu hu hn=>?_⟩;rcases Faw.1 (hp.mem_iff.1 (h.wait u hu hn))with he|he
 ·grind
 omega
def yrf{E:Nat->Nat->Int->Prop}{d:Nat->Int}{dn:Nat->Bool}{q q':List (Int×Int)}(h:DJ E n goal d dn q cur L7){x:Int×Int}{t:Nat}(ht:x.2=(t:Int))(hp:q.Perm (x::q'))(hm:∀e∈q,¬qlt e x)(hd:dn t=false):
  x.1=d t/\DJ E n goal d (yh dn t true) q' x.1 (λa _ _=>a=t):=by
 have hx:x∈q:=hp.mem_iff.2 Fa1;have⟨u,hu,hun,hu0,hux,huc⟩:=h.ent x hx;have:u=t:=θ;subst this;have hk:x.1=d u:=by have:=zeh (hm _ (h.wait u hu0 hd));omega
 refine⟨hk,h.lab,h.gl,λv hv hl=>?_,λa b c ha hE hO=>?_,λa ha=>?_,λe he=>?_,λv hv hn=>?_⟩
 ·have⟨a,c,h1,h2,h3,h4⟩:=h.pre v hv hl;grind[yh]
 ·rw[wo hO]at ha;exact h.rel a b c ha hE (λh=>h)
 ·unfold yh at ha;split at ha
  ·grind
  ·have:=h.mono a ha;omega
 ·have he2:=hp.mem_iff.2 (Fau x he);have⟨v,h1,h2,h3,h4,h5⟩:=h.ent e he2;exact⟨v,h1,h2,h3,h4,zeh (hm e he2)⟩
 ·unfold yh at hn;split at hn
  ·cases hn
  ·rename_i hne;rcases Faw.1 (hp.mem_iff.1 (h.wait v hv hn))with he|he
   ·grind
   omega
def tq{E:Nat->Nat->Int->Prop}{d:Nat->Int}{dn:Nat->Bool}{q:List (Int×Int)}{O O':Nat->Nat->Int->Prop}(h:DJ E n goal d dn q cur O)
  (ho:∀t u c,O t u c->¬O' t u c->E t u c->0<=d u/\d u<=d t+c):DJ E n goal d dn q cur O':=
 ⟨h.lab,h.gl,h.pre,λt u c ht hE hO=>by
  by_cases e:O t u c
  ·grind
  ·exact h.rel t u c ht hE e,h.mono,h.ent,h.wait⟩
def ziz{E:Nat->Nat->Int->Prop}(hE:∀t u c,E t u c->0<c){d:Nat->Int}{dn:Nat->Bool}{q q':List (Int×Int)}{O:Nat->Nat->Int->Prop}(h:DJ E n goal d dn q cur O){u:Nat}{c:Int}(ht:dn t=true)(htc:d t=cur)(hu:u<n)(hEu:E t u c)(hd:dn u=false)(hl:d u<0\/cur+c<d u)
  (hq:q'.Perm ((cur+c,(u:Int))::q)):DJ E n goal (yh d u (cur+c)) dn q' cur O:=by
 have hc:=hE _ _ _ hEu;have hcur:0<=cur:=by have:=h.mono t ht;omega
 have htu:t≠u:=λe=>δ;have hdn:∀a,dn a=true->a≠u:=λa ha e=>δ;have hgu:goal≠u:=λe=>by subst e;have:=h.gl;omega
 refine⟨λv=>?_,by rw[wo hgu];exact h.gl,λv hv hl2=>?_,λa b k ha hE2 hO=>?_,λa ha=>?_,λe he=>?_,λv hv hn=>?_⟩
 ·unfold yh;split
  ·omega
  ·exact h.lab v
 ·by_cases e:v=u
  ·grind[wo,Cx]
  ·rw[wo e]at hl2⊢;have⟨a,k,h1,h2,h3,h4⟩:=h.pre v hv hl2;grind[wo]
 ·rw[wo (hdn a ha)];have⟨h1,h2⟩:=h.rel a b k ha hE2 hO;grind[Cx,wo]
 ·rw[wo (hdn a ha)];exact h.mono a ha
 ·rcases Faw.1 (hq.mem_iff.1 he)with e1|e1
  ·subst e1;exact⟨u,rfl,hu,by rw[Cx];omega,by rw[Cx];simp,θ⟩
  ·have⟨v,h1,h2,h3,h4,h5⟩:=h.ent e e1;grind[Cx,wo]
 ·by_cases e:v=u
  ·grind[Cx]
  ·rw[wo e]at hv⊢;exact hq.mem_iff.2 (Fau _ (h.wait v hv hn))
def yrj{E:Nat->Nat->Int->Prop}{d:Nat->Int}{dn:Nat->Bool}(h:DJ E n goal d dn [] cur L7):FarOK E goal d:=by
 have hdn:∀u,0<=d u->dn u=true:=λu hu=>by
  cases hb:dn u with
  |true=>rfl
  |false=>exact absurd (h.wait u hu hb) φ
 exact⟨h.lab,h.gl,λu hu hl=>by have⟨t,c,_,h2,h3,h4⟩:=h.pre u hu hl;grind,λt u c ht hE=>h.rel t u c (hdn t ht) hE (λh=>h)⟩
end
section
variable {g:Gnd} {x y:Int} {s:Nat}
def onG(g:Gnd)(x y:Int):Prop:=(0<=x/\x<g.W)/\(0<=y/\y<g.H)
instance(g:Gnd)(x y:Int):Decidable (onG g x y):=inferInstanceAs (Decidable (_/\_))
def tl(g:Gnd)(x y:Int):Nat:=(x+g.W*y).toNat
def Fu(hg:zv g)(h:onG g x y):((tl g x y:Nat):Int)=x+g.W*y/\tl g x y<g.T.length/\(tl g x y:Int)%g.W=x/\(tl g x y:Int)/g.W=y:=by
 have⟨h1,h2,h3⟩:=xj hg;have⟨⟨hx,hx2⟩,hy,hy2⟩:=h;have hW:1<=g.W:=hg.1.1;have e0:0<=g.W*y:=Fa8 θ hy;have e:((tl g x y:Nat):Int)=x+g.W*y:=by unfold tl;omega
 have e1:g.W*y<=g.W*(g.H-1):=Fbo (Fcr _) θ hy θ;rw[Int.mul_sub,Int.mul_one]at e1;refine⟨e,θ,?_,?_⟩
 ·simp_all[Fet]
 ·rw[e,Int.add_mul_ediv_left _ _ θ,Fd5 hx hx2,Int.zero_add]
def bq(hg:zv g){t:Nat}(ht:t<g.T.length):onG g ((t:Int)%g.W) ((t:Int)/g.W)/\tl g ((t:Int)%g.W) ((t:Int)/g.W)=t:=by have⟨h1,h2,h3⟩:=xj hg;have hW:1<=g.W:=hg.1.1;have a:=Fd3 (t:Int) (show g.W≠0 by omega);have b:=Fdl (t:Int) (show 0<g.W by omega);have c:=Fcz (show 0<=(t:Int) by omega) (show 0<=g.W by omega);have d:(t:Int)/g.W<g.H:=Fed θ (by rw[Fen];omega);refine⟨⟨⟨a,b⟩,c,d⟩,?_⟩;unfold tl;rw[Fec];omega
def sqP(g:Gnd)(f:Nat->Bool)(s:Nat)(x y:Int):Prop:=∀a b:Int,-(s:Int)<=a->a<=s->-(s:Int)<=b->b<=s->onG g (x+a) (y+b)/\f (tl g (x+a) (y+b))=true
def sq_zero{f:Nat->Bool}:sqP g f 0 x y↔onG g x y/\f (tl g x y)=true:=by
 constructor
 ·intro h;have:=h 0 0 ψ ψ ψ ψ;simpa using this
 ·intro h a b h1 h2 h3 h4;grind
def sq_succ{f:Nat->Bool}:sqP g f (s+1) x y↔∀a b:Int,-1<=a->a<=1->-1<=b->b<=1->onG g (x+a) (y+b)/\sqP g f s (x+a) (y+b):=by
 constructor
 ·intro h a b h1 h2 h3 h4;refine⟨(h a b θ θ θ θ).1,λa' b' k1 k2 k3 k4=>?_⟩;have:=h (a+a') (b+b') θ θ θ θ;grind
 ·intro h a b h1 h2 h3 h4;obtain⟨a1,ha1,ha2,ha3,ha4⟩:∃a1:Int,-1<=a1/\a1<=1/\-(s:Int)<=a-a1/\a-a1<=s:=by
   by_cases c1:a>s
   ·exact⟨1,θ,θ,θ,θ⟩
   ·by_cases c2:a< -s
    ·exact⟨-1,θ,θ,θ,θ⟩
    ·exact⟨0,θ,θ,θ,θ⟩
  obtain⟨b1,hb1,hb2,hb3,hb4⟩:∃b1:Int,-1<=b1/\b1<=1/\-(s:Int)<=b-b1/\b-b1<=s:=by
   by_cases c1:b>s
   ·exact⟨1,θ,θ,θ,θ⟩
   ·by_cases c2:b< -s
    ·exact⟨-1,θ,θ,θ,θ⟩
    ·exact⟨0,θ,θ,θ,θ⟩
  have:=(h a1 b1 ha1 ha2 hb1 hb2).2 (a-a1) (b-b1) ha3 ha4 hb3 hb4;grind
def zcw{f:Nat->Bool}{s':Nat}(hs:s'<=s)(h:sqP g f s x y):sqP g f s' x y:=λa b h1 h2 h3 h4=>h a b θ θ θ θ
def m5(a b c d e:Int):Int:=min (min (min (min a (b+1)) (c+1)) (d+1)) (e+1)
def ysz{f:Nat->Bool}{A B:Int->Int->Int}(oA:∀x y,¬onG g x y->A x y=0)(oB:∀x y,¬onG g x y->B x y=0)
  (hA:∀x y,onG g x y->A x y=m5 (if f (tl g x y)then 128 else 0) (A (x-1) y) (A (x-1) (y-1)) (A x (y-1)) (A (x+1) (y-1)))
  (hB:∀x y,onG g x y->B x y=m5 (A x y) (B (x+1) y) (B (x+1) (y+1)) (B x (y+1)) (B (x-1) (y+1))) (hxy:onG g x y) (s:Nat) (hs:s<=127):(s:Int)<B x y↔sqP g f s x y:=by
 -- not below 0
 have nA:∀n:Nat,∀x y,onG g x y->y*200+x<n->0<=A x y:=by
  intro n;induction n with
  |zero=>intro x y h hn;have⟨⟨h1,h2⟩,h3,h4⟩:=h;omega
  |succ n ih=>
   intro x y h hn;have any:∀x' y',y'*200+x'<y*200+x->0<=A x' y':=λx' y' hl=>by
    by_cases ho:onG g x' y'
    ·exact ih x' y' ho θ
    ·rw[oA x' y' ho];decide
   rw[hA x y h];have a1:=any (x-1) y θ;have a2:=any (x-1) (y-1) θ;have a3:=any x (y-1) θ;have a4:=any (x+1) (y-1) θ;have a5:(0:Int)<=(if f (tl g x y)then 128 else 0):=by split<;>decide
   unfold m5;omega
 have pA:∀x y,0<=A x y:=λx y=>by
  by_cases ho:onG g x y
  ·exact nA (y*200+x+1).toNat x y ho (by have⟨⟨h1,h2⟩,h3,h4⟩:=ho;omega)
  ·rw[oA x y ho];decide
 have nB:∀n:Nat,∀x y,onG g x y->(g.H-y)*200+(g.W-x)<n->0<=B x y:=by
  intro n;induction n with
  |zero=>intro x y h hn;have⟨⟨h1,h2⟩,h3,h4⟩:=h;omega
  |succ n ih=>
   intro x y h hn;have any:∀x' y',(g.H-y')*200+(g.W-x')<(g.H-y)*200+(g.W-x)->0<=B x' y':=λx' y' hl=>by
    by_cases ho:onG g x' y'
    ·exact ih x' y' ho θ
    ·rw[oB x' y' ho];decide
   rw[hB x y h];have a1:=any (x+1) y θ;have a2:=any (x+1) (y+1) θ;have a3:=any x (y+1) θ;have a4:=any (x-1) (y+1) θ;have a5:=pA x y;unfold m5;omega
 have pB:∀x y,0<=B x y:=λx y=>by
  by_cases ho:onG g x y
  ·exact nB ((g.H-y)*200+(g.W-x)+1).toNat x y ho (by have⟨⟨h1,h2⟩,h3,h4⟩:=ho;omega)
  ·rw[oB x y ho];decide
 constructor
 ·-- what is bad is not farther than its steps
  have up1:∀d:Nat,∀x y a b,onG g x y->-(d:Int)<=a->a<=d->-(d:Int)<=b->b<=0->a<=-b->¬(onG g (x+a) (y+b)/\f (tl g (x+a) (y+b))=true)->A x y<=d:=by
   intro d;induction d with
   |zero=>
    intro x y a b h h1 h2 h3 h4 h5 hbad;have ea:a=0:=θ;have eb:b=0:=θ;subst ea eb;rw[Fcj,Fcj]at hbad;have hf:¬f (tl g x y)=true:=λhf=>hbad ⟨h,hf⟩;rw[hA x y h,if_neg hf];unfold m5;omega
   |succ d ih=>
    intro x y a b h h1 h2 h3 h4 h5 hbad;have go:∀u v:Int,-(d:Int)<=a-u->a-u<=d->-(d:Int)<=b-v->b-v<=0->a-u<=-(b-v)->A (x+u) (y+v)<=d:=λu v g1 g2 g3 g4 g5=>by
     by_cases ho:onG g (x+u) (y+v)
     ·refine ih (x+u) (y+v) (a-u) (b-v) ho g1 g2 g3 g4 g5 ?_;rw[show x+u+(a-u)=x+a by omega,show y+v+(b-v)=y+b by omega];exact hbad
     ·rw[oA _ _ ho];omega
    have hk:=hA x y h;unfold m5 at hk;by_cases cb:b=0
    ·by_cases ca:a=0
     ·subst ca cb;rw[Fcj,Fcj]at hbad;have hf:¬f (tl g x y)=true:=λhf=>hbad ⟨h,hf⟩;rw[if_neg hf]at hk;omega
     ·have:=go (-1) 0 θ θ θ θ θ;rw[show x+-1=x-1 by omega,Fcj]at this;omega
    ·by_cases ca:a=0
     ·have:=go 0 (-1) θ θ θ θ θ;rw[show y+-1=y-1 by omega,Fcj]at this;omega
     ·by_cases ca2:a<0
      ·have:=go (-1) (-1) θ θ θ θ θ;rw[show y+-1=y-1 by omega,show x+-1=x-1 by omega]at this;omega
      ·have:=go 1 (-1) θ θ θ θ θ;rw[show y+-1=y-1 by omega]at this;omega
  have up2:∀d:Nat,∀x y a b,onG g x y->-(d:Int)<=a->a<=d->-(d:Int)<=b->b<=d->¬(onG g (x+a) (y+b)/\f (tl g (x+a) (y+b))=true)->B x y<=d:=by
   intro d;induction d with
   |zero=>
    intro x y a b h h1 h2 h3 h4 hbad;have:=up1 0 x y a b h h1 h2 h3 θ θ hbad;have hk:=hB x y h;unfold m5 at hk;omega
   |succ d ih=>
    intro x y a b h h1 h2 h3 h4 hbad;have hk:=hB x y h;unfold m5 at hk;by_cases cone:b<=0/\a<=-b
    ·have:=up1 (d+1) x y a b h h1 h2 h3 cone.1 cone.2 hbad;omega
    have go:∀u v:Int,-(d:Int)<=a-u->a-u<=d->-(d:Int)<=b-v->b-v<=d->B (x+u) (y+v)<=d:=λu v g1 g2 g3 g4=>by
     by_cases ho:onG g (x+u) (y+v)
     ·refine ih (x+u) (y+v) (a-u) (b-v) ho g1 g2 g3 g4 ?_;rw[show x+u+(a-u)=x+a by omega,show y+v+(b-v)=y+b by omega];exact hbad
     ·rw[oB _ _ ho];omega
    by_cases cb:b<=0
    ·have:=go 1 0 θ θ θ θ;rw[Fcj]at this;omega
    ·by_cases ca:a=0
     ·have:=go 0 1 θ θ θ θ;rw[Fcj]at this;omega
     ·by_cases ca2:a<0
      ·have:=go (-1) 1 θ θ θ θ;rw[show x+-1=x-1 by omega]at this;omega
      ·have:=go 1 1 θ θ θ θ;omega
  intro hlt a b h1 h2 h3 h4;refine Classical.byContradiction λhbad=>?_;have:=up2 s x y a b hxy h1 h2 h3 h4 hbad;omega
 ·-- what is good all about is far
  have loA:∀s:Nat,s<=127->∀x y,sqP g f s x y->(s:Int)<A x y:=by
   intro s;induction s with
   |zero=>
    intro _ x y h;have⟨ho,hf⟩:=sq_zero.1 h;rw[hA x y ho,if_pos hf];have a1:=pA (x-1) y;have a2:=pA (x-1) (y-1);have a3:=pA x (y-1);have a4:=pA (x+1) (y-1);unfold m5;omega
   |succ s ih=>
    intro hs x y h;have h2:=sq_succ.1 h;have nb:=λ(a b:Int) h3 h4 h5 h6=>ih θ _ _ (h2 a b h3 h4 h5 h6).2;have⟨ho,hf⟩:=sq_zero.1 (zcw (Fae _) h);have a1:=nb (-1) 0 ψ ψ ψ ψ;have a2:=nb (-1) (-1) ψ ψ ψ ψ;have a3:=nb 0 (-1) ψ ψ ψ ψ;have a4:=nb 1 (-1) ψ ψ ψ ψ;rw[show x+-1=x-1 by omega]at a1 a2;rw[show y+-1=y-1 by omega]at a2 a3 a4;rw[Fcj]at a1 a3;rw[hA x y ho,if_pos hf];unfold m5;omega
  have loB:∀s:Nat,s<=127->∀x y,sqP g f s x y->(s:Int)<B x y:=by
   intro s;induction s with
   |zero=>
    intro hs x y h;have⟨ho,hf⟩:=sq_zero.1 h;rw[hB x y ho];have a1:=pB (x+1) y;have a2:=pB (x+1) (y+1);have a3:=pB x (y+1);have a4:=pB (x-1) (y+1);have a5:=loA 0 hs x y h;unfold m5;omega
   |succ s ih=>
    intro hs x y h;have h2:=sq_succ.1 h;have nb:=λ(a b:Int) h3 h4 h5 h6=>ih θ _ _ (h2 a b h3 h4 h5 h6).2;have⟨ho,hf⟩:=sq_zero.1 (zcw (Fae _) h);have a1:=nb 1 0 ψ ψ ψ ψ;have a2:=nb 1 1 ψ ψ ψ ψ;have a3:=nb 0 1 ψ ψ ψ ψ;have a4:=nb (-1) 1 ψ ψ ψ ψ;rw[show x+-1=x-1 by omega]at a4;rw[Fcj]at a1 a3;have a5:=loA (s+1) hs x y h;rw[hB x y ho];unfold m5;omega
  exact loB s hs x y
end
section
variable {g:Gnd} {x y j i:Int}
theorem zib{p q:Nat->Bool}{m:Nat}(hp:∀t,p t=true->t<m):∀{N:Nat},m<N->(∀t,t<N->(q t=true↔p t=true\/t=m))->(List.range N).filter q=(List.range N).filter p++[m]
 |0,h,_=>absurd h (Fa3 m)
 |N+1,h,hq=>by
  rw[Fcw,Fca,Fca];have hpN:p N=false:=Bool.eq_false_iff.2 λhh=>by have:=hp N hh;omega
  by_cases e:m=N
  ·subst e;have h1:(List.range m).filter q=(List.range m).filter p:=List.filter_congr λt ht=>by
    have ht:=Fbj.1 ht;have:=hq t θ;rw[Fb9,this];exact⟨λh=>h.resolve_right θ,.inl⟩
   have h2:q m=true:=(hq m θ).2 (.inr rfl);rw[h1];simp[hpN,h2]
  ·have h2:q N=false:=Bool.eq_false_iff.2 λhh=>by
    rcases(hq N θ).1 hh with h|h
    ·rw[hpN]at h;cases h
    ·omega
   rw[zib hp θ (λt ht=>hq t θ)];simp[hpN,h2]
def s8{p q:Nat->Bool}{N:Nat}(h:∀t,t<N->(q t=true↔p t=true)):(List.range N).filter q=(List.range N).filter p:=
 List.filter_congr λt ht=>by rw[Fb9];exact h t (Fbj.1 ht)
def zz4{α:Type}(L:List α)(a:α)(n:Nat):(L++[a]).take n=if L.length<n then L.take n++[a]else L.take n:=by
 split
 ·rw[Fck χ,Fck θ]
 ·rw[Fcn θ]
def zcb{α:Type}(L:List α)(n:Nat):(L.take n).length<n↔L.length<n:=θq
def qo(l:List Nat):List Int:=l.map λ(t:Nat)=>(t:Int)
theorem zfs(a b:List Nat):qo (a++b)=qo a++qo b:=Fav
def G7(i j:Int):Int:=max (max i (-i)) (max j (-j))
def Rh(g:Gnd)(x y k d:Int)(t:Nat):Bool:=decide (G7 ((t:Int)%g.W-x) ((t:Int)/g.W-y)=d/\((t:Int)%g.W-x).tmod k=0/\((t:Int)/g.W-y).tmod k=0)
def He(g:Gnd)(x y k d:Int):List Nat:=(List.range g.T.length).filter (Rh g x y k d)
def zkm(g:Gnd)(x y j i:Int)(t:Nat):Bool:=decide ((t:Int)/g.W<y+j\/((t:Int)/g.W=y+j/\(t:Int)%g.W<x+i))
def C0(g:Gnd)(x y k d j i:Int):List Nat:=(List.range g.T.length).filter λt=>Rh g x y k d t&&zkm g x y j i t
def Wt{k d:Int}{t:Nat}(h:Rh g x y k d t=true):(x-d<=(t:Int)%g.W/\(t:Int)%g.W<=x+d)/\(y-d<=(t:Int)/g.W/\(t:Int)/g.W<=y+d):=by have:=(of_decide_eq_true h).1;unfold G7 at this;omega
theorem yg0(g:Gnd)(x y k d:Int):C0 g x y k d (-d) (-d)=[]:=by unfold C0;rw[List.filter_eq_nil_iff];intro t _ hh;have⟨h1,h2⟩:=(Fbh).1 hh;have:=Wt h1;have:=of_decide_eq_true h2;omega
theorem yg1(g:Gnd)(x y k d j:Int):C0 g x y k d j (d+1)=C0 g x y k d (j+1) (-d):=s8 λt ht=>by
 rw[Fbh,Fbh];refine⟨λ⟨h1,h2⟩=>⟨h1,?_⟩,λ⟨h1,h2⟩=>⟨h1,?_⟩⟩
 ·have:=Wt h1;have:=of_decide_eq_true h2;exact decide_eq_true θ
 ·have:=Wt h1;have:=of_decide_eq_true h2;exact decide_eq_true θ
theorem yg4(g:Gnd)(x y k d:Int):C0 g x y k d (d+1) (-d)=He g x y k d:=s8 λt ht=>by rw[Fbh];refine⟨λh=>h.1,λh1=>⟨h1,?_⟩⟩;have:=Wt h1;exact decide_eq_true θ
theorem ygz(hg:zv g){k d:Int}(ho:onG g (x+i) (y+j))(hd:G7 i j=d)(hi:i.tmod k=0)(hj:j.tmod k=0):C0 g x y k d j (i+1)=C0 g x y k d j i++[tl g (x+i) (y+j)]:=by
 have⟨e1,e2,e3,e4⟩:=Fu hg ho;have hW:1<=g.W:=hg.1.1;refine zib (m:=tl g (x+i) (y+j)) (λt hh=>?_) e2 (λt ht=>?_)
 ·have⟨h1,h2⟩:=(Fbh).1 hh;have h2:=of_decide_eq_true h2;have e5:=Fec (t:Int) g.W;rcases h2 with h2|⟨h2,h3⟩
  ·have b1:=Fdl (t:Int) (show 0<g.W by omega);have:g.W*((t:Int)/g.W+1)<=g.W*(y+j):=Fdd θ θ;rw[Fej,Int.mul_one]at this;have:=ho.1.1;omega
  ·rw[h2]at e5;omega
 ·rw[Fbh,Fbh];constructor
  ·rintro⟨h1,h2⟩;have h2:=of_decide_eq_true h2;by_cases h3:(t:Int)/g.W=y+j/\(t:Int)%g.W=x+i
   ·right;have:=(bq hg ht).2;rw[h3.1,h3.2]at this;exact this.symm
   ·exact .inl ⟨h1,decide_eq_true θ⟩
  ·rintro(⟨h1,h2⟩|rfl)
   ·have h2:=of_decide_eq_true h2;exact⟨h1,decide_eq_true θ⟩
   ·refine⟨decide_eq_true ?_,decide_eq_true ?_⟩
    ·rw[e3,e4,show x+i-x=i by omega,show y+j-y=j by omega];exact⟨hd,hi,hj⟩
    ·rw[e3,e4];omega
theorem yg2(hg:zv g){k d:Int}(hn:¬(G7 i j=d/\i.tmod k=0/\j.tmod k=0/\onG g (x+i) (y+j))):C0 g x y k d j (i+1)=C0 g x y k d j i:=s8 λt ht=>by
 rw[Fbh,Fbh];refine⟨λ⟨h1,h2⟩=>⟨h1,?_⟩,λ⟨h1,h2⟩=>⟨h1,?_⟩⟩
 ·have h2:=of_decide_eq_true h2;refine decide_eq_true ?_;by_cases h3:(t:Int)/g.W=y+j/\(t:Int)%g.W=x+i
  ·exfalso;have⟨q1,q2,q3⟩:=of_decide_eq_true h1;rw[h3.1,h3.2,show x+i-x=i by omega,show y+j-y=j by omega]at q1;rw[h3.2,show x+i-x=i by omega]at q2;rw[h3.1,show y+j-y=j by omega]at q3;have:=(bq hg ht).1;rw[h3.1,h3.2]at this;exact hn ⟨q1,q2,q3,this⟩
  ·omega
 ·have h2:=of_decide_eq_true h2;exact decide_eq_true θ
def Dg(g:Gnd)(f:Nat->Bool)(x y k d:Int):List Nat:=(He g x y k d).filter f
def wv(g:Gnd)(f:Nat->Bool)(x y k:Int):Nat->List Nat
 |0=>[]
 |d+1=>wv g f x y k d++Dg g f x y k d
def No(g:Gnd)(f:Nat->Bool)(size goal:Int)(n:Nat):List Nat:=(wv g f (goal%g.W) (goal/g.W) (2*size+1) (g.W+g.H+1).toNat).take n
def zc5(g:Gnd)(f:Nat->Bool)(x y k:Int)(d:Nat):∀e:Nat,∃m,wv g f x y k (d+e)=wv g f x y k d++m
 |0=>⟨[],φ⟩
 |e+1=>by have⟨m,hm⟩:=zc5 g f x y k d e;exact⟨m++Dg g f x y k ((d+e:Nat):Int),by rw[<-Fas,<-hm];rfl⟩
theorem ya6(hg:zv g){f:Nat->Bool}{k d:Int}(hx:0<=x/\x<g.W)(hy:0<=y/\y<g.H)(hd:max g.W g.H<=d):Dg g f x y k d=[]:=by unfold Dg He;rw[List.filter_filter,List.filter_eq_nil_iff];intro t ht hh;have⟨h1,h2⟩:=(Fbh).1 hh;have h3:=(of_decide_eq_true h2).1;have⟨⟨o1,o2⟩,o3,o4⟩:=(bq hg (Fbj.1 ht)).1;unfold G7 at h3;omega
def ya5{f:Nat->Bool}{k d:Int}(hd:¬k∣d):Dg g f x y k d=[]:=by
 unfold Dg He;rw[List.filter_filter,List.filter_eq_nil_iff];intro t ht hh;have⟨h1,h2⟩:=(Fbh).1 hh;have⟨h3,h4,h5⟩:=of_decide_eq_true h2;have h4:=Int.dvd_of_tmod_eq_zero h4;have h5:=Int.dvd_of_tmod_eq_zero h5;refine hd ?_;rw[<-h3];unfold G7;generalize(t:Int)%g.W-x=a at*;generalize(t:Int)/g.W-y=b at*;have ha:=(Int.dvd_neg (a:=k) (b:=a)).2 h4;have hb:=(Int.dvd_neg (a:=k) (b:=b)).2 h5;have mx:∀u v:Int,k∣u->k∣v->k∣max u v:=λu v h1 h2=>by
  by_cases h:u<=v
  ·rw[Int.max_eq_right h];exact h2
  ·rw[Int.max_eq_left θ];exact h1
 exact mx _ _ (mx _ _ h4 ha) (mx _ _ h5 hb)
def ya4{f:Nat->Bool}{k d:Nat}(hk:0<k)(hd:k∣d):wv g f x y k (d+k)=wv g f x y k d++Dg g f x y k d:=by
 have:∀e:Nat,e<k->wv g f x y k (d+(e+1))=wv g f x y k d++Dg g f x y k d:=by
  intro e;induction e with
  |zero=>intro _;rfl
  |succ e ih=>
   intro he;have h1:=ih θ;have h2:Dg g f x y k ((d+(e+1):Nat):Int)=[]:=ya5 λhh=>by
    have hh:k∣d+(e+1):=by exact_mod_cast hh
    have:=(Nat.dvd_add_right hd).1 hh;have:=Nat.le_of_dvd θ this;omega
   show wv g f x y k (d+(e+1))++Dg g f x y k ((d+(e+1):Nat):Int)=_;rw[h1,h2,Fbi]
 have:=this (k-1) θ;rw[show k-1+1=k by omega]at this;exact this
def ya2(hg:zv g){f:Nat->Bool}{size goal:Int}(hgl:0<=goal/\goal<g.W*g.H){d n:Nat}(h:n<=(wv g f (goal%g.W) (goal/g.W) (2*size+1) d).length\/max g.W g.H<=(d:Int)):
  (wv g f (goal%g.W) (goal/g.W) (2*size+1) d).take n=No g f size goal n:=by
 have hW:1<=g.W/\g.W<=128:=hg.1;have hH:1<=g.H/\g.H<=128:=hg.2.1;have hx:0<=goal%g.W/\goal%g.W<g.W:=⟨Fd3 _ θ,Fdl _ θ⟩
 have hy:0<=goal/g.W/\goal/g.W<g.H:=⟨Fcz hgl.1 θ,Fed θ (by rw[Fen];exact hgl.2)⟩
 unfold No;generalize goal%g.W=x at*;generalize goal/g.W=y at*;generalize 2*size+1=k at*;generalize hm:(g.W+g.H+1).toNat=m at*;have hmI:(m:Int)=g.W+g.H+1:=θ
 -- from where nothing comes any more
 have flat:∀c:Nat,max g.W g.H<=(c:Int)->∀e:Nat,wv g f x y k (c+e)=wv g f x y k c:=λc hc e=>by
  induction e with
  |zero=>rfl
  |succ e ih=>
   show wv g f x y k (c+e)++Dg g f x y k ((c+e:Nat):Int)=_;rw[ih,ya6 hg hx hy θ,Fbi]
 rcases h with h|h
 ·by_cases hdm:d<=m
  ·have⟨r,hr⟩:=zc5 g f x y k d (m-d);rw[show d+(m-d)=m by omega]at hr;rw[hr,Fcn h]
  ·have:=flat m θ (d-m);rw[show m+(d-m)=d by omega]at this;rw[this]
 ·by_cases hdm:d<=m
  ·have:=flat d h (m-d);rw[show d+(m-d)=m by omega]at this;rw[this]
  ·have:=flat m θ (d-m);rw[show m+(d-m)=d by omega]at this;rw[this]
end
section
variable {n t:Nat} {g:Gnd}
def il(n:Nat)(f:Nat->Int):List AV:=(List.range n).map λt=>int (f t)
theorem jo(n:Nat)(f:Nat->Int):(il n f).length=n:=by simp[il]
theorem Gx{f:Nat->Int}(h:t<n):(il n f)[t]?=some (int (f t)):=by simp[il,h]
def Dp{f:Nat->Int}(h:t<n):((il n f).drop (0+t*1)).head?=some (int (f t)):=by rw[Fcq,show 0+t*1=t by omega,Gx h]
def zaa{f:Nat->Bool}(h:t<n):((bl n f).drop (0+t*1)).head?=some (bool (f t)):=by rw[Fcq,show 0+t*1=t by omega,Ky h]
theorem zhb(n:Nat):List.replicate n (AV.s (.int .i64 0))=il n λ_=>0:=by unfold il;rw[List.map_const',Fcd];rfl
def setI(f:Nat->Int)(t:Nat)(v:Int):Nat->Int:=λs=>if s=t then v else f s
theorem Re(f:Nat->Int)(t:Nat)(v:Int):setI f t v t=v:=if_pos rfl
theorem Nq(f:Nat->Int){s:Nat}(v:Int)(h:s≠t):setI f t v s=f s:=if_neg h
theorem ybg(f:Nat->Int)(t:Nat):setI f t (f t)=f:=funext λs=>by
 unfold setI;split
 ·rename_i h;rw[h]
 ·rfl
theorem ml(f:Nat->Int)(t:Nat)(v u:Int):setI (setI f t v) t u=setI f t u:=funext λs=>by unfold setI;split<;>simp_all
theorem zhc{f:Nat->Int}(h:t<n)(g:Nat->Int)(hg:∀s,s≠t->g s=f s):zq (il n f) t [int (g t)]=il n g:=by
 unfold zq;apply Fb4;intro s;by_cases h1:s<t
 ·rw[Fas,Fa5 (by rw[Fai,jo];omega),Fcg h1,Gx θ,Gx θ,hg s θ]
 ·by_cases h2:s=t
  ·subst h2;rw[Fas,Fa7 (by rw[Fai,jo];omega),Fai,jo,show s-min s n=0 by omega,Gx h];rfl
  ·rw[Fa7 (by rw[Fac,Fai,jo];simp;omega),Fac,Fai,jo,Fbq];by_cases h3:s<n
   ·have e:t+[int (g t)].length+(s-(min t n+[int (g t)].length))=s:=χ;rw[e,Gx h3,Gx h3,hg s h2]
   ·rw[Fbe (by rw[jo];simp;omega),Fbe θf]
theorem Kn{f:Nat->Int}(h:t<n)(v:Int):zq (il n f) t [int v]=il n (setI f t v):=by have:=zhc h (setI f t v) (λs hs=>Nq f v hs);rw[Re]at this;exact this
def ilL(n:Nat)(f:Nat->Int):List Int:=(List.range n).map f
theorem dk(n:Nat)(f:Nat->Int):(ilL n f).length=n:=by simp[ilL]
theorem ym5{f:Nat->Int}(h:t<n):(ilL n f)[t]'(by rw[dk];exact h)=f t:=by simp[ilL]
theorem ym3(n:Nat)(f:Nat->Int):(rws zn (ilL n f)).flatten=il n f:=by
 unfold rws ilL il;rw[Fdc];generalize List.range n=l;induction l with
 |nil=>rfl
 |cons a l ih=>simp only[Fci,Fd7,ih];rfl
theorem Sd{f g:Nat->Int}(h:∀t,t<n->f t=g t):il n f=il n g:=Fbw λt ht=>by rw[h t (Fbj.1 ht)]
theorem yto{f g:Nat->Bool}(h:∀t,t<n->f t=g t):bl n f=bl n g:=Fbw λt ht=>by rw[h t (Fbj.1 ht)]
def gv(g:Gnd)(f:Nat->Int)(x y:Int):Int:=if onG g x y then f (tl g x y)else 0
def Ba(g:Gnd)(f:Nat->Int)(x y:Int)(v:Int)(ws:List (Int×Int)):Int:=ws.foldl (λv d=>min v (gv g f (x+d.1) (y+d.2)+1)) v
def zhk(hg:zv g){f:Nat->Int}(hf:∀t,t<g.T.length->0<=f t/\f t<=128)(x y:Int):0<=gv g f x y/\gv g f x y<=128:=by
 unfold gv;split
 ·rename_i h;exact hf _ (Fu hg h).2.1
 ·omega
def nz(hg:zv g){f:Nat->Int}(hf:∀t,t<g.T.length->0<=f t/\f t<=128)(x y:Int):∀(ws:List (Int×Int)) (v:Int),0<=v/\v<=128->0<=Ba g f x y v ws/\Ba g f x y v ws<=128
 |[],v,hv=>hv
 |d::r,v,hv=>by have:=zhk hg hf (x+d.1) (y+d.2);exact nz hg hf x y r (min v (gv g f (x+d.1) (y+d.2)+1)) θ
def yiq(g:Gnd)(f:Nat->Int)(x y v:Int)(ws:List (Int×Int)){i:Nat}(hi:i<ws.length):Ba g f x y v (ws.take (i+1))=min (Ba g f x y v (ws.take i)) (gv g f (x+ws[i].1) (y+ws[i].2)+1):=by unfold Ba;rw[Fad hi,Fce];rfl
def ybh{f:Nat->Int}(hf:∀t,t<n->0<=f t/\f t<=128){v:Int}(hv:0<=v/\v<=128):∀s,s<n->0<=setI f t v s/\setI f t v s<=128:=λs hs=>by
 unfold setI;split
 ·exact hv
 ·exact hf s hs
def ynp(hg:zv g)(f:Nat->Int)(v:Int){dx dy:Int}(hd:dx≠0\/dy≠0):gv g (setI f t v) ((t:Int)%g.W+dx) ((t:Int)/g.W+dy)=gv g f ((t:Int)%g.W+dx) ((t:Int)/g.W+dy):=by
 unfold gv;split
 ·rename_i h;have⟨_,_,h3,h4⟩:=Fu hg h;refine Nq f v λe=>?_;rw[e]at h3 h4;omega
 ·rfl
def Ou:List (Int×Int):=[(-1,0),(-1,-1),(0,-1),(1,-1)]
def Mu:List (Int×Int):=[(1,0),(1,1),(0,1),(-1,1)]
def K5(d:Int×Int):List AV:=[int d.1,int d.2]
def Nj(g:Gnd)(f:Nat->Int)(ws:List (Int×Int))(t:Nat):Nat->Int:=setI f t (Ba g f ((t:Int)%g.W) ((t:Int)/g.W) (f t) ws)
def Av(g:Gnd)(f:Nat->Int):Nat->Nat->Int
 |0=>f
 |i+1=>Nj g (Av g f i) Ou i
def Df(g:Gnd)(f:Nat->Int)(n:Nat):Nat->Nat->Int
 |0=>f
 |j+1=>Nj g (Df g f n j) Mu (n-1-j)
def zcf(hg:zv g){f:Nat->Int}(hf:∀t,t<g.T.length->0<=f t/\f t<=128){ws:List (Int×Int)}(ht:t<g.T.length):∀s,s<g.T.length->0<=Nj g f ws t s/\Nj g f ws t s<=128:=
 ybh hf (nz hg hf _ _ _ _ (hf t ht))
def lx(hg:zv g){f:Nat->Int}(hf:∀t,t<g.T.length->0<=f t/\f t<=128):∀i,i<=g.T.length->∀s,s<g.T.length->0<=Av g f i s/\Av g f i s<=128
 |0,_=>hf
 |i+1,hi=>zcf hg (lx hg hf i θ) θ
def zch(hg:zv g){f:Nat->Int}(hf:∀t,t<g.T.length->0<=f t/\f t<=128):∀i,i<=g.T.length->∀s,s<g.T.length->0<=Df g f g.T.length i s/\Df g f g.T.length i s<=128
 |0,_=>hf
 |i+1,hi=>zcf hg (zch hg hf i θ) θ
theorem zci(g:Gnd)(f:Nat->Int):∀i s,i<=s->Av g f i s=f s
 |0,_,_=>rfl
 |i+1,s,h=>by show setI _ i _ s=_;rw[Nq _ _ θ,zci g f i s θ]
theorem V6(g:Gnd)(f:Nat->Int):∀i s,s<i->Av g f i s=Av g f (s+1) s
 |0,_,h=>absurd h (Fa3 _)
 |i+1,s,h=>by
  by_cases e:s=i
  ·subst e;rfl
  ·show setI _ i _ s=_;rw[Nq _ _ e,V6 g f i s θ]
theorem zcg(g:Gnd)(f:Nat->Int)(n:Nat):∀j s,s+j<n->Df g f n j s=f s
 |0,_,_=>rfl
 |j+1,s,h=>by show setI _ (n-1-j) _ s=_;rw[Nq _ _ θ,zcg g f n j s θ]
theorem V5(g:Gnd)(f:Nat->Int)(n:Nat):∀j s,s<n->j<=n->n<=s+j->Df g f n j s=Df g f n (n-1-s+1) s
 |0,s,h,_,h2=>absurd h2 θ
 |j+1,s,h,h1,h2=>by
  by_cases e:s=n-1-j
  ·have:j+1=n-1-s+1:=θ;rw[this]
  ·show setI _ (n-1-j) _ s=_;rw[Nq _ _ e,V5 g f n j s h θ θ]
theorem yis(g:Gnd)(f:Nat->Int)(x y v:Int):Ba g f x y v Ou=m5 v (gv g f (x-1) y) (gv g f (x-1) (y-1)) (gv g f x (y-1)) (gv g f (x+1) (y-1)):=by unfold Ba Ou m5;simp only[Fcy,List.foldl_nil,Fcj,<-Fd2]
theorem yir(g:Gnd)(f:Nat->Int)(x y v:Int):Ba g f x y v Mu=m5 v (gv g f (x+1) y) (gv g f (x+1) (y+1)) (gv g f x (y+1)) (gv g f (x-1) (y+1)):=by unfold Ba Mu m5;simp only[Fcy,List.foldl_nil,Fcj,<-Fd2]
def Gn(g:Gnd)(o:Nat->Bool):Nat->Int:=Df g (Av g (λt=>if o t then 128 else 0) g.T.length) g.T.length g.T.length
theorem ygs(hg:zv g)(o:Nat->Bool)(ht:t<g.T.length)(s:Nat)(hs:s<=127):(s:Int)<Gn g o t↔sqP g o s ((t:Int)%g.W) ((t:Int)/g.W):=by
 have hW:1<=g.W:=hg.1.1;have⟨ho,he⟩:=bq hg ht
 have key:=ysz (g:=g) (f:=o) (A:=gv g (Av g (λt=>if o t then 128 else 0) g.T.length)) (B:=gv g (Gn g o))
  (λx y h=>if_neg h) (λx y h=>if_neg h) (λx y h=>?_) (λx y h=>?_) ho s hs
 ·rw[<-key];unfold gv;rw[if_pos ho,he]
 ·have⟨e1,e2,e3,e4⟩:=Fu hg h;have nb:∀dx dy:Int,(dy=-1\/dy=0/\dx=-1)->dx<=1->gv g (Av g (λt=>if o t then 128 else 0) (tl g x y)) (x+dx) (y+dy)=gv g (Av g (λt=>if o t then 128 else 0) g.T.length) (x+dx) (y+dy):=λdx dy hd hx=>by
   unfold gv;split
   ·rename_i h2;have⟨f1,f2,f3,f4⟩:=Fu hg h2;have hlt:tl g (x+dx) (y+dy)<tl g x y:=by
     have hb:=h.1;have hb2:=h2.1;rcases hd with rfl|⟨rfl,rfl⟩
     ·have:g.W*(y+-1)=g.W*y-g.W:=by rw[Fej];omega
      rw[this]at f1;have hne:(tl g (x+dx) (y+-1):Int)≠tl g x y:=λe=>by rw[e,e4]at f4;omega
      omega
     ·rw[Fcj]at f1⊢;omega
    rw[V6 g _ _ _ hlt,V6 g _ _ _ f2]
   ·rfl
  have h1:gv g (Av g (λt=>if o t then 128 else 0) g.T.length) x y=Ba g (Av g (λt=>if o t then 128 else 0) (tl g x y)) x y (if o (tl g x y)then 128 else 0) Ou:=by unfold gv;rw[if_pos h,V6 g _ _ _ e2];show setI _ _ _ _=_;rw[Re,e3,e4,zci g _ _ _ (Fah _)]
  rw[h1,yis];have n1:=nb (-1) 0 θ ψ;have n2:=nb (-1) (-1) θ ψ;have n3:=nb 0 (-1) θ ψ;have n4:=nb 1 (-1) θ ψ;rw[Fcj]at n1 n3;rw[<-Fd2]at n1 n2 n3 n4;rw[<-Fd2]at n2;rw[n1,n2,n3,n4]
 ·have⟨e1,e2,e3,e4⟩:=Fu hg h;have hj:g.T.length-1-(g.T.length-1-tl g x y)=tl g x y:=θ;unfold Gn;generalize hF:Av g (λt=>if o t then 128 else 0) g.T.length=F;have nb:∀dx dy:Int,(dy=1\/dy=0/\dx=1)->-1<=dx->gv g (Df g F g.T.length (g.T.length-1-tl g x y)) (x+dx) (y+dy)=gv g (Df g F g.T.length g.T.length) (x+dx) (y+dy):=λdx dy hd hx=>by
   unfold gv;split
   ·rename_i h2;have⟨f1,f2,f3,f4⟩:=Fu hg h2;have hlt:tl g x y<tl g (x+dx) (y+dy):=by
     have hb:=h.1;have hb2:=h2.1;rcases hd with rfl|⟨rfl,rfl⟩
     ·have:g.W*(y+1)=g.W*y+g.W:=by rw[Fej];omega
      rw[this]at f1;have hne:(tl g (x+dx) (y+1):Int)≠tl g x y:=λe=>by rw[e,e4]at f4;omega
      omega
     ·rw[Fcj]at f1⊢;omega
    rw[V5 g _ _ _ _ f2 θ θ,V5 g _ _ _ _ f2 (Fah _) θ]
   ·rfl
  have h1:gv g (Df g F g.T.length g.T.length) x y=Ba g (Df g F g.T.length (g.T.length-1-tl g x y)) x y (gv g F x y) Mu:=by unfold gv;rw[if_pos h,if_pos h,V5 g _ _ _ _ e2 (Fah _) θ];show setI _ _ _ _=_;rw[hj,Re,e3,e4,zcg g _ _ _ _ θ]
  rw[h1,yir];have n1:=nb 1 0 θ ψ;have n2:=nb 1 1 θ ψ;have n3:=nb 0 1 θ ψ;have n4:=nb (-1) 1 θ ψ;rw[Fcj]at n1 n3;rw[<-Fd2]at n4;rw[n1,n2,n3,n4]
def sqB(g:Gnd)(f:Nat->Bool)(s:Nat)(x y:Int):Bool:=(List.range (2*s+1)).all λa=>(List.range (2*s+1)).all λb=>decide (onG g (x-s+a) (y-s+b))&&f (tl g (x-s+a) (y-s+b))
theorem yas{f:Nat->Bool}{s:Nat}{x y:Int}:sqB g f s x y=true↔sqP g f s x y:=by
 unfold sqB;rw[Fcc];constructor
 ·intro h a b h1 h2 h3 h4;have h5:=h (a+s).toNat (Fbj.2 θ);rw[Fcc]at h5;have h6:=h5 (b+s).toNat (Fbj.2 θ);rw[show x-s+((a+s).toNat:Int)=x+a by omega,show y-s+((b+s).toNat:Int)=y+b by omega,Fbh]at h6;exact⟨of_decide_eq_true h6.1,h6.2⟩
 ·intro h a ha;have ha:=Fbj.1 ha;rw[Fcc];intro b hb;have hb:=Fbj.1 hb;have:=h (a-s) (b-s) θ θ θ θ;rw[show x-s+(a:Int)=x+(a-s) by omega,show y-s+(b:Int)=y+(b-s) by omega,Fbh];exact⟨decide_eq_true this.1,this.2⟩
def yd(g:Gnd)(l:List Bld)(c s:Int)(t:Nat):Bool:=sqB g (qd g l c) s.toNat ((t:Int)%g.W) ((t:Int)/g.W)
theorem ynx(hg:zv g)(l:List Bld)(c:Int){s:Int}(hs:0<=s/\s<=3)(ht:t<g.T.length):decide (s<Gn g (qd g l c) t)=yd g l c s t:=by rw[Fb9,decide_eq_true_iff];unfold yd;rw[yas,<-ygs hg _ ht _ θ];omega
def zhr(g:Gnd)(l:List Bld)(c s:Int):AV:=lst 1 qu (blL g.T.length (yd g l c s))
end
def dirL:List (Int×Int):=[(0,-1),(1,0),(0,1),(-1,0),(1,-1),(1,1),(-1,1),(-1,-1)]
def L9(g:Gnd)(x y:Int)(d:Int×Int):Int:=if onG g (x+d.1) (y+d.2)then x+d.1+g.W*(y+d.2)else -1
def Hp(g:Gnd)(t:Nat):List Int:=dirL.map (L9 g ((t:Int)%g.W) ((t:Int)/g.W))
theorem bz(g:Gnd)(t:Nat):(Hp g t).length=8:=by simp[Hp,dirL]
def yj6{g:Gnd}(hg:zv g)(x y:Int)(d:Int×Int):L9 g x y d=-1/\¬onG g (x+d.1) (y+d.2)\/onG g (x+d.1) (y+d.2)/\L9 g x y d=(tl g (x+d.1) (y+d.2):Nat)/\tl g (x+d.1) (y+d.2)<g.T.length:=by
 unfold L9;split
 ·rename_i h;exact .inr ⟨h,(Fu hg h).1.symm,(Fu hg h).2.1⟩
 ·rename_i h;exact .inl ⟨rfl,h⟩
def yj5{g:Gnd}(hg:zv g){t:Nat}{u:Int}(h:u∈Hp g t):u=-1\/∃m:Nat,u=m/\m<g.T.length:=by
 unfold Hp at h;obtain⟨d,_,rfl⟩:=Fag.1 h;rcases yj6 hg ((t:Int)%g.W) ((t:Int)/g.W) d with⟨q1,_⟩|⟨_,q2,q3⟩
 ·exact .inl q1
 ·exact .inr ⟨_,q2,q3⟩
section
variable {g:Gnd} {c:Int} {t way goal:Nat}
def yn(g:Gnd)(t way:Nat):Int:=(Hp g t).getD way (-1)
def G4(g:Gnd)(c:Int)(t:Nat):Int:=Fw c (g.T.getD t 5).toNat
def w9(ok:Nat->Bool)(u:Int):Bool:=decide (0<=u)&&ok u.toNat
def Ll(way:Nat):Nat:=way-4
def Lk(way:Nat):Nat:=(way-3)%4
def xh(g:Gnd)(ok:Nat->Bool)(c:Int)(t way:Nat):Int:=
 if w9 ok (yn g t way)then
  (if way<4 then 5*(G4 g c t+G4 g c (yn g t way).toNat)
   else if w9 ok (yn g t (Ll way))/\w9 ok (yn g t (Lk way))then 7*(G4 g c t+G4 g c (yn g t way).toNat)else 0)
 else 0
def Cs(g:Gnd)(ok:Nat->Bool)(c:Int)(t u:Nat)(k:Int):Prop:=ok t=true/\t<g.T.length/\∃way,way<8/\yn g t way=(u:Int)/\ok u=true/\k=xh g ok c t way/\0<k
def fc{ok:Nat->Bool}:∀t u k,Cs g ok c t u k->0<k:=λt u k h=>by have⟨_,_,w,_,_,_,_,h⟩:=h;exact h
def ge(hg:zv g)(hw:way<8):yn g t way=-1\/∃u:Nat,yn g t way=u/\u<g.T.length:=by
 unfold yn;have h8:way<(Hp g t).length:=by rw[bz];exact hw
 rw[Fao,Fab h8];exact yj5 hg (Faa h8)
def sk{ok:Nat->Bool}{u:Int}(h:w9 ok u=true):0<=u/\ok u.toNat=true:=by unfold w9 at h;simpa using h
def l6{ok:Nat->Bool}(h:xh g ok c t way≠0):w9 ok (yn g t way)=true:=by
 unfold xh at h;split at h
 ·assumption
 ·exact absurd rfl h
def yqv{ok:Nat->Bool}(ht:ok t=true)(htl:t<g.T.length)(hw:way<8)(h:0<xh g ok c t way):Cs g ok c t (yn g t way).toNat (xh g ok c t way):=by have⟨h1,h2⟩:=sk (l6 (g:=g) (ok:=ok) (c:=c) (t:=t) (way:=way) θ);exact⟨ht,htl,way,hw,θ,h2,rfl,h⟩
def W9(c:Int)(t:Nat):0<=Fw c t/\Fw c t<=6:=by
 have h:∀l∈[[2,1,3,5,0,0],[2,1,6,0,0,0],[2,1,0,3,2,0]],∀t:Nat,0<=(l:List Int).getD t 0/\(l:List Int).getD t 0<=6:=by
  intro l hl t;simp only[Faw,Fbs,or_false]at hl;by_cases h6:t<6
  ·have:t=0\/t=1\/t=2\/t=3\/t=4\/t=5:=θ;rcases hl with rfl|rfl|rfl<;>rcases this with rfl|rfl|rfl|rfl|rfl|rfl<;>decide
  ·rcases hl with rfl|rfl|rfl<;>(rw[Fao,Fbe χ];decide)
 unfold Fw;split
 ·exact h _ φ t
 ·split
  ·exact h _ φ t
  ·exact h _ φ t
def zco(g:Gnd)(ok:Nat->Bool)(c:Int)(t way:Nat):0<=xh g ok c t way/\xh g ok c t way<=84:=by
 have h1:=W9 c (g.T.getD t 5).toNat;have h2:=W9 c (g.T.getD (yn g t way).toNat 5).toNat;unfold xh G4;split
 ·split
  ·omega
  ·split<;>omega
 ·omega
open Classical in
noncomputable def Ak(g:Gnd)(ok:Nat->Bool)(c:Int)(goal:Nat):Nat->Int:=
 if ok goal=true then(if h:∃d,FarOK (Cs g ok c) goal d then h.choose else λ_=>-1)else λ_=>-1
def ypz{ok:Nat->Bool}(hok:ok goal=true){d:Nat->Int}(h:FarOK (Cs g ok c) goal d):Ak g ok c goal=d:=by
 unfold Ak;rw[if_pos hok];have hx:∃d,FarOK (Cs g ok c) goal d:=⟨d,h⟩
 rw[dif_pos hx];exact ypx fc hx.choose_spec h
theorem ypy{ok:Nat->Bool}(hok:ok goal=false):Ak g ok c goal=λ_=>-1:=by unfold Ak;rw[if_neg (by simp[hok])]
noncomputable def jz(g:Gnd)(ok:Nat->Bool)(c:Int)(d:Nat->Int)(t:Nat):Int:=
 if d t<=0 then -1 else match(List.range 8).find? λway=>decide (0<xh g ok c t way/\0<=d (yn g t way).toNat/\xh g ok c t way+d (yn g t way).toNat=d t)with
  |some way=>(way:Int)
  |none=>-1
end
section
variable {id P:Int} {i:Nat} {w:Wld}
def allE(f:Int->Int):List Int->Int
 |[]=>0
 |a::l=>if f a=0 then allE f l else f a
def zao{f:Int->Int}:∀{l:List Int},(∀j,(h:j<l.length)->f l[j]=0)->allE f l=0
 |[],_=>rfl
 |a::l,h=>by have h0:=h 0 φ;simp only[Fb1]at h0;unfold allE;rw[if_pos h0];exact zao λj hj=>by have:=h (j+1) χ;simpa using this
def zan{f:Int->Int}:∀{l:List Int} {i:Nat} (hi:i<l.length),(∀j,(h:j<l.length)->j<i->f l[j]=0)->f l[i]≠0->allE f l=f l[i]
 |[],i,hi,_,_=>absurd hi (Fa3 i)
 |a::l,0,hi,_,h=>by simp_all[allE]
 |a::l,i+1,hi,h,h2=>by have h0:=h 0 φ θ;simp only[Fb1]at h0;simp only[List.getElem_cons_succ]at h2⊢;unfold allE;rw[if_pos h0];exact zan (by simpa using hi) (λj hj hji=>by have:=h (j+1) χ θ;simpa using this) h2
def M5{f:Int->Int}:∀{l:List Int},allE f l=0->∀a∈l,f a=0
 |[],_,a,ha=>by cases ha
 |b::l,h,a,ha=>by
  unfold allE at h;by_cases hb:f b=0
  ·rw[if_pos hb]at h;rcases Faw.1 ha with rfl|ha
   ·exact hb
   ·exact M5 h a ha
  grind
def qw(l:List Unt)(id:Int):Option Nat:=l.findIdx? λu=>decide (u.id=id)
def unt0:Unt:=⟨0,0,0,(0,0),0,0,0,0,0⟩
theorem Mo{l:List Unt}(h:qw l id=some i):∃hi:i<l.length,l[i].id=id:=by unfold qw at h;rw[Fba]at h;grind
theorem ypr{l:List Unt}(h:qw l id=none):∀u∈l,u.id≠id:=by grind[qw]
theorem So{l:List Unt}(hr:yl l)(hi:i<l.length)(e:l[i].id=id):qw l id=some i:=by
 cases h:qw l id with
 |none=>grind[ypr]
 |some k=>
  have⟨hk,e2⟩:=Mo h;by_cases h1:k<i
  ·have:=Ig hr h1 hi;omega
  ·by_cases h2:i<k
   ·have:=Ig hr h2 hk;omega
   ·rw[show k=i by omega]
def uAt(w:Wld)(id:Int):Unt:=match qw w.U id with|none=>unt0|some i=>w.U.getD i unt0
def kj(w:Wld)(P id:Int):Int:=match qw w.U id with|none=>3|some i=>if(w.U.getD i unt0).owner=P then(if(w.U.getD i unt0).inn=0 then 0 else 9)else 6
def Vu(h:qw w.U id=some i):∃hi:i<w.U.length,w.U[i].id=id/\uAt w id=w.U[i]:=by grind[Mo,uAt]
theorem zaf(h:qw w.U id=none):kj w P id=3/\uAt w id=unt0:=by simp_all[kj,uAt]
theorem zkq(h:qw w.U id=some i)(hi:i<w.U.length):kj w P id=if w.U[i].owner=P then(if w.U[i].inn=0 then 0 else 9)else 6:=by grind[kj]
def K0(h:kj w P id=0):∃i,∃hi:i<w.U.length,qw w.U id=some i/\w.U[i].id=id/\uAt w id=w.U[i]/\w.U[i].owner=P/\w.U[i].inn=0:=by
 cases hf:qw w.U id with
 |none=>grind[zaf]
 |some i=>
  have⟨hi,e,e2⟩:=Vu hf;rw[zkq hf hi]at h;grind
def zbt(hn:∀u∈w.U,u.pos.ok)(id:Int):(uAt w id).pos.ok:=by
 cases hf:qw w.U id with
 |none=>rw[(zaf (P:=0) hf).2];trivial
 |some i=>
  have⟨hi,e,e2⟩:=Vu hf;grind
def Hc(u:Unt):Unt:={u with goal:=-1,next:=-1,stuck:=0,state:=0}
def xa(l:List Int)(g:Unt->Unt)(U:List Unt):List Unt:=U.map λu=>if u.id∈l then g u else u
theorem Wc(g:Unt->Unt)(U:List Unt):xa [] g U=U:=by unfold xa;simp
theorem Dz(l:List Int)(g:Unt->Unt)(U:List Unt):(xa l g U).length=U.length:=by unfold xa;rw[Fal]
theorem Wf{l:List Int}{g:Unt->Unt}{U:List Unt}(hi:i<U.length):(xa l g U)[i]'(by rw[Dz];exact hi)=if U[i].id∈l then g U[i]else U[i]:=by unfold xa;rw[Fb0]
theorem Wd{l:List Int}{g:Unt->Unt}(hg:∀u,(g u).id=u.id){U:List Unt}(hi:i<U.length):((xa l g U)[i]'(by rw[Dz];exact hi)).id=U[i].id:=by grind[Wf]
def mh{l:List Int}{g:Unt->Unt}(hg:∀u,(g u).id=u.id){U:List Unt}(hr:yl U):yl (xa l g U):=by
 intro i hi h0;have hi2:i<U.length:=by rw[Dz]at hi;exact hi
 rw[Wd hg hi2,Wd hg (show i-1<U.length by omega)];exact hr i hi2 h0
theorem zc9{l:List Int}{g:Unt->Unt}{U:List Unt}(hr:yl U)(hi:i<U.length):(xa l g U).set i (g U[i])=xa (l++[U[i].id]) g U:=by
 apply Fco
 ·rw[Fak,Dz,Dz]
 intro j h1 h2;have hj:j<U.length:=by rw[Dz]at h2;exact h2
 rw[Wf hj,Fct];by_cases e:i=j
 ·grind
 ·rw[if_neg e,Wf hj];have hne:U[j].id≠U[i].id:=by
   by_cases h:i<j
   ·have:=Ig hr h hj;omega
   ·have:=Ig hr (show j<i by omega) hi;omega
  grind
def stW(w:Wld)(c:Cmd):Wld:={w with U:=xa c.U Hc w.U}
def stE(w:Wld)(c:Cmd):Int:=allE (kj w c.P) c.U
theorem Nx{α:Type}{f:α->List AV}{k:Nat}(hf:∀x,(f x).length=k){U:List α}(hi:i<U.length)(x:α)(J:List AV):zq ((rws f U).flatten++J) (i*k) (f x)=(rws f (U.set i x)).flatten++J:=by have:=l9 (j:=0) (ys:=f x) (L:=J) (x':=x) hf hi (by rw[hf];omega) (by simp_all[zq]);grind
end
section
variable {P:Program} {c:Cfg} {st:Store}
structure SrcOK(P:Program)(st:Store)(k m:Nat)(x:AV)(xs:List AV):Prop where
  out:∀(Oth M:BB) (w:World) (xv:Value),StoreOK st Oth M w->VRel w (λb o=>M b o\/Oth b o) x xv->
    (Builtin.lenOf xv).run P w=.ok m w/\∃new:Array Value,Reads w (λb o=>M b o\/Oth b o) xs new.toList/\(∀v∈new.toList,xe v=true)/\new.size=m*k/\∀w',w'.heap=w.heap->(Builtin.firstCells k m xv).run P w'=.ok new w'
theorem SrcOK.obj{k m o b cp:Nat}{l:List AV}(ho:st.obj b=some (.cells l))(hl:o+m*k<=l.length)(h1:∀y∈(l.drop o).take (m*k),y.one=true):SrcOK P st k m (.s (.slice (some ⟨b,o,none⟩) m cp)) ((l.drop o).take (m*k)):=by
  refine⟨λOth M w xv sto hxv=>?_⟩;have hxv:=VRel.eq_s hxv;subst hxv;have⟨cs,e,fr,hb,_,hlen,hrel⟩:=(sto.obj b _ ho).1;have hreads:Reads w (λb o=>M b o\/Oth b o) ((l.drop o).take (m*k)) ((List.range' 0 (m*k)).map λi=>cs.getD (o+i) undef):=by refine⟨χ,λi x y hx hy=>?_⟩;have hi:i<m*k:=δ;rw[Fcg hi,Fbq]at hx;simp[hi]at hy;grind
  refine⟨by simp[Builtin.lenOf],((List.range' 0 (m*k)).map λi=>cs.getD (o+i) undef).toArray,by simpa using hreads,by simpa using ze8 hreads h1,φ,λw' hw=>?_⟩;have:=Lo (P:=P) ⟨b,o,none⟩ w' (λi=>cs.getD (o+i) undef) (m*k) 0 #[] (λp hp0 hp=>by rw[wk,rx hw];simp only[World.cell?,hb];have:o+p<cs.size:=θ;simp[this]);grind[Builtin.firstCells,loadCells]
def Vb{e:TypeId}{ie:TI}(hie:c.I e=some ie){b n cap:Nat}{l:List AV}{x:AV}{m:Nat}{xs:List AV}(ho:st.obj b=some (.cells l))(hcap:cap*ie.size<=l.length)(hn:n<=cap)
    (hx:SrcOK P st ie.size m x xs) (hroom:room (n+m) ie.bytes) {K:Ja}
    (h1:n+m<=cap->K (.s (.slice (some ⟨b,0,none⟩) (n+m) cap)) (st.sO b (.cells (zq l (n*ie.size) xs))))
    (h2:cap<n+m->∀b' cap',Fresh st b'->n+m<=cap'->cap'<=9223372036854775807->K (.s (.slice (some ⟨b',0,none⟩) (n+m) cap')) (st.sO b' (.cells (l.take (n*ie.size)++xs++List.replicate ((cap'-(n+m))*ie.size) .any)))):
    AppX P c st e (.s (.slice (some ⟨b,0,none⟩) n cap)) x K:=by
  refine⟨⟨ie,hie⟩,λie' hie' Oth M w sv xv argTypes ty args t sto hs hxv hat ht1 hu hti h0 h1'=>?_⟩;rw[hie]at hie';cases hie';have hs:=VRel.eq_s hs;subst hs;have A:AppArgs P c argTypes args t e ie (some ⟨b,0,none⟩) n cap xv:=⟨hat,ht1,hu,hti,h0,h1'⟩
  have⟨hl1,new,hnew,hone,hnsz,hfc⟩:=hx.out Oth M w xv sto hxv;have hnn:n*ie.size<=l.length:=Fbx (Fa2 _ hn) hcap;by_cases hc:n+m<=cap
  · have⟨⟨cs,e0,fr,hb0,huf,hlen,hrel⟩,hM⟩:=sto.obj b _ ho
    have hfit:n*ie.size+new.toList.length<=cs.size:=by rw[Fcp,hnsz,<-Fb8,<-hlen];exact Fbx (Fa2 _ hc) hcap
    have⟨w',hw1,hw2⟩:=Kf (P:=P) w b (n*ie.size) new.toList 0 w cs e0 fr hb0 (.inl huf) hfit hone;have hrun:=My (w':=w') ty A hl1 (hfc w rfl) hc (λa ha=>by cases ha;rw[wk,Fa9];exact hw1) (λh=>ω);have⟨k1,k2⟩:=Cv sto ho hnew hw2;exact⟨_,_,hrun,_,_,M,h1 hc,.s _,k1,k2⟩
  · have hc:cap<n+m:=θ
    have⟨old,hold1,hold2,hold3⟩:=sw (P:=P) (cap:=cap) (sto.obj b _ ho).1 hnn;have⟨newCap,rest,g1,g0,g2,g3⟩:=Mz ty A hl1 (hfc w.drew rfl) (hold3 w.drew rfl) hc hroom;have gd:Grow w w.drew:=Grow.drew w;have sto1:=sto.grow gd;have⟨f1,f2,f3⟩:=Hm sto1 (old++new++rest) e (l:=l.take (n*ie.size)++xs++List.replicate rest.size .any) (by
      rw[Fbn,Fbn];refine((hold1.append hnew).append ⟨φ,λi x y hx hy=>?_⟩).keep (gd.keeps _);rw[Fby]at hx;split at hx
      · cases hx;exact .any _
      · cases hx)
    have e1:w.drew.heap.size=w.heap.size:=rfl;rw[g2]at f2;exact⟨_,_,g3,_,_,_,h2 hc _ newCap f1 g1 g0,.s _,f2,(gd.chg M).trans f3⟩
end
section
variable {P:Program} {c:Cfg} {st:Store}
def zkv{e:TypeId}{ie:TI}(hie:c.I e=some ie){a:Option Addr}{x:AV}{m:Nat}{xs:List AV}(hx:SrcOK P st ie.size m x xs)(hroom:room m ie.bytes)(hne:0<m){K:Ja}
    (h2:∀b' cap',Fresh st b'->m<=cap'->cap'<=9223372036854775807->K (.s (.slice (some ⟨b',0,none⟩) m cap')) (st.sO b' (.cells (xs++List.replicate ((cap'-m)*ie.size) .any)))):
    AppX P c st e (.s (.slice a 0 0)) x K:=by
  refine⟨⟨ie,hie⟩,λie' hie' Oth M w sv xv argTypes ty args t sto hs hxv hat ht1 hu hti h0 h1'=>?_⟩;rw[hie]at hie';cases hie';have hs:=VRel.eq_s hs;subst hs;have A:AppArgs P c argTypes args t e ie a 0 0 xv:=⟨hat,ht1,hu,hti,h0,h1'⟩
  have⟨hl1,new,hnew,hone,hnsz,hfc⟩:=hx.out Oth M w xv sto hxv;have⟨newCap,rest,g1,g0,g2,g3⟩:=Mz (old:=#[]) ty A hl1 (hfc w.drew rfl) (by cases a<;>simp[Builtin.firstCells,loadCells,loadCellsFrom]) θ (by simpa using hroom);have gd:Grow w w.drew:=Grow.drew w;have sto1:=sto.grow gd;have⟨f1,f2,f3⟩:=Hm sto1 (#[]++new++rest) e (l:=xs++List.replicate rest.size .any) (by
    rw[Fbn,Fbn];refine((show Reads w _ xs ([]++new.toList)from hnew).append ⟨φ,λi x y hx hy=>?_⟩).keep (gd.keeps _);rw[Fby]at hx;split at hx
    · cases hx;exact .any _
    · cases hx)
  rw[g2]at f2;simp only[Fa9]at g1 g3 f2;exact⟨_,_,g3,_,_,_,h2 _ newCap f1 g1 g0,.s _,f2,(gd.chg M).trans f3⟩
def gp{o:Oper}{cl:Call}{t e:TypeId}{x:Operand}(ho:o.op=.call cl)(hcl:cl.callee=.builtin .clear)(hargs:cl.args=#[x])(hat:cl.argTypes[0]?=some t)
    {it ie:TI} (hit:c.I t=some it) (hty:it.ty=.slice e) (hie:c.I e=some ie) {b off m cap:Nat} {l:List AV} (hm:m=1) (hb:st.obj b=some (.cells l)) (hn:off+ie.size<=l.length) (hone:∀v∈ie.zero,xe v=true)
    {R:Ja} (h:R (.tup []) (st.sO b (.cells (zq l off (ie.zero.map AV.s))))):AEff P c o [.s (.slice (some ⟨b,off,none⟩) m cap)] st R:=by
  subst hm;refine⟨λOth M w ρ hI sto hr=>?_⟩;have hops:o.op.operands=#[x]:=θ5;rw[hops]at hr;have hr:Reads w (λb o=>M b o\/Oth b o) [.s (.slice (some ⟨b,off,none⟩) 1 cap)] [ρ x]:=θl;obtain⟨u,he,h1⟩:=Kh hr;simp only[Fcm,and_true]at he;rw[<-he]at h1;have h1:=VRel.eq_s h1;have ht:=xq (hI _ _ hit) hty;have hie:=hI _ _ hie;obtain⟨⟨cs,e0,fr,hb0,huf,hlen,hrel⟩,hM⟩:=sto.obj b _ hb;obtain⟨z,hz1,hz2⟩:=Ln (P:=P) hie w;have hzs:z.cells.size=ie.size:=by rw[<-hie.zsz,<-hz2];simp
  have hzc:(Builtin.zeroCells z.cells 1).toList=ie.zero:=by
    rw[<-hz2];unfold Builtin.zeroCells;apply Fco
    · simp
    grind[Nat.mod_eq_of_lt]
  obtain⟨w',hw1,hw2⟩:=Kf (P:=P) w b off ie.zero 0 w cs e0 fr hb0 (.inl huf) δ hone;have hund:=yk (P:=P) ht;have hrun:(execOp ρ o).run P w=.ok (.value (.tuple #[])) w':=ψ5;rw[hrun];obtain⟨k1,k2⟩:=Cv sto hb (Reads.map_s (w:=w) (T:=λb o=>M b o\/Oth b o) ie.zero) (by trivial);exact⟨_,_,M,h,vx Reads.nil,k1,k2⟩
def zaq{o:Oper}{t e:TypeId}{x lo hi mx:Operand}(ho:o.op=.slice t x (some lo) (some hi) (some mx)){it ie:TI}(hit:c.I t=some it)(hty:it.ty=.slice e)(hie:c.I e=some ie)
    {b off len cap i j m:Nat} {k k' k'':IntKind} (h1:i<=j) (h2:j<=m) (h3:m<=cap) (h4:i<m) {R:Ja} (h:R (.s (.slice (some ⟨b,off+i*ie.size,none⟩) (j-i) (m-i))) st):
    AEff P c o [.s (.slice (some ⟨b,off,none⟩) len cap),.s (.int k (i:Int)),.s (.int k' (j:Int)),.s (.int k'' (m:Int))] st R:=by
  refine⟨λOth M w ρ hI sto hr=>?_⟩;have hops:o.op.operands=#[x,lo,hi,mx]:=by rw[ho];simp[Op.operands]
  rw[hops]at hr;have hr:Reads w (λb o=>M b o\/Oth b o) [.s (.slice (some ⟨b,off,none⟩) len cap),.s (.int k (i:Int)),.s (.int k' (j:Int)),.s (.int k'' (m:Int))] [ρ x,ρ lo,ρ hi,ρ mx]:=θl;have e1:=VRel.eq_s (hr.2 0 _ (ρ x) rfl rfl);have e2:=VRel.eq_s (hr.2 1 _ (ρ lo) rfl rfl);have e3:=VRel.eq_s (hr.2 2 _ (ρ hi) rfl rfl);have e4:=VRel.eq_s (hr.2 3 _ (ρ mx) rfl rfl);have ht:=xq (hI _ _ hit) hty;have hie:=hI _ _ hie;have hm:¬m=i:=θ;have hund:=yk (P:=P) ht;have hrun:(execOp ρ o).run P w=.ok (.value (.slice (some ⟨b,off+i*ie.size,none⟩) (j-i) (m-i))) w:=by simp[execOp,ho,e1,e2,e3,e4,Instr.sliceAt,Instr.slice,hund,Instr.sliceBounds,Instr.sliceBound,asIntOf,h1,h2,h3,run_sizeOf hie,hm,wk]
  rw[hrun];exact⟨_,st,M,h,.s _,sto,Chg.refl _ _⟩
end
def yni{g:Gnd}(hg:zv g){t:Nat}(ht:(t:Int)<g.W*g.H){p:Vc}(hp:jv p.1 p.2){r:Int}(hr:0<r/\r<=81920)(h:wz g t p r):near (tx g t+32768,ty g t+32768) p 147456=true:=by
 have hb:=Pq hg ht;have⟨h3,h4⟩:=hp;rw[o9 ξ ξ θ θ ψ];dsimp only;unfold wz at h;have o1:0<=off p.1 (tx g t):=ψe;have o2:0<=off p.2 (ty g t):=ψe;have d1:-(32768+off p.1 (tx g t))<=tx g t+32768-p.1/\tx g t+32768-p.1<=32768+off p.1 (tx g t):=ψe;have d2:-(32768+off p.2 (ty g t))<=ty g t+32768-p.2/\ty g t+32768-p.2<=32768+off p.2 (ty g t):=ψe;generalize off p.1 (tx g t)=ex at*;generalize off p.2 (ty g t)=ey at*;generalize tx g t+32768-p.1=dx at*;generalize ty g t+32768-p.2=dy at*;have hrr:r*r<=81920*81920:=Fbo hr.2 hr.2 θ ψ;have ex2:=Fa8 o1 o1;have ey2:=Fa8 o2 o2;have bx:ex<81920:=Wa o1 ψ θ;have by':ey<81920:=Wa o2 ψ θ;have sq:∀d m:Int,0<=m->-m<=d->d<=m->d*d<=m*m:=λd m hm h1 h2=>by
  by_cases hd:0<=d
  ·exact Fbo h2 h2 hd hm
  ·have:(-d)*(-d)<=m*m:=Fbo θ θ θ hm
   rwa [Int.neg_mul_neg]at this
 have s1:=sq dx (32768+ex) θ d1.1 d1.2;have s2:=sq dy (32768+ey) θ d2.1 d2.2;have e1:(32768+ex)*(32768+ex)=1073741824+65536*ex+ex*ex:=by rw[Int.add_mul,Fej,Fej,Fen ex 32768];omega
 have e2:(32768+ey)*(32768+ey)=1073741824+65536*ey+ey*ey:=by rw[Int.add_mul,Fej,Fej,Fen ey 32768];omega
 rw[e1]at s1;rw[e2]at s2;refine decide_eq_true ?_;omega
instance(a b:Bld):Decidable (Bb a b):=inferInstanceAs (Decidable (_/\_))
def bdB(w:Wld)(c:Cmd):Bld:=⟨w.next,c.P,c.T.tmod w.G.W,c.T.tdiv w.G.W,c.W,c.H⟩
open Classical in
noncomputable def js(g:Gnd)(l:List Bld)(b:Bld):Int:=if¬onP g b then 3 else if∃x∈l,Bb x b then 12 else if¬Hw g b then 5 else if 256<=l.length then 4 else 0
def Mb(w:Wld)(b:Bld):Prop:=∃t:Nat,((t:Int)<w.G.W*w.G.H/\Ff w.G b t)/\∃u∈w.U,u.inn=0/\wz w.G t u.pos (z6 u.kind)
open Classical in
noncomputable def bdE(w:Wld)(c:Cmd):Int:=if¬(0<=c.T/\c.T<w.G.W*w.G.H)then 3 else if 1099511627776<=w.next then 4 else if js w.G w.B (bdB w c)=0 then(if Mb w (bdB w c)then 5 else 0)else js w.G w.B (bdB w c)
def bdW(w:Wld)(c:Cmd):Wld:={w with B:=w.B++[bdB w c],next:=w.next+1}
def ytl:Bld:=⟨0,0,0,0,0,0⟩
def Hx(l:List Bld)(id:Int):Option Nat:=l.findIdx? λb=>decide (b.id=id)
def drE(w:Wld)(c:Cmd):Int:=match Hx w.B c.N with|none=>3|some i=>if(w.B.getD i ytl).owner=c.P then 0 else 6
def drW(w:Wld)(c:Cmd):Wld:=match Hx w.B c.N with|none=>w|some i=>{w with B:=w.B.eraseIdx i}
section
variable {k i:Nat}
theorem eo{α:Type}{f:α->List AV}(hf:∀x,(f x).length=k){l:List α}(hi:i<l.length)(L:List AV):
  zq ((rws f l).flatten++L) (i*k) (rws f (l.drop (i+1))).flatten=(rws f (l.eraseIdx i)).flatten++(f l[l.length-1]++L):=by
 have e1:(rws f l).flatten++L=(rws f (l.take i)).flatten++((rws f (l.drop i)).flatten++L):=by grind[Gm,List.take_append_drop]
 have h1:(rws f (l.take i)).flatten.length=i*k:=by grind[qc,List.length_take]
 rw[e1,wu h1,List.eraseIdx_eq_take_drop_succ,Gm];simp only[Fas]
 congr 1
 congr 1
 have h2:(rws f (l.drop (i+1))).flatten.length=(l.length-(i+1))*k:=by rw[qc hf,Fbk]
 have e2:l.drop i=(l.drop i).dropLast++[l[l.length-1]]:=by have hne:l.drop i≠[]:=θd;grind[List.dropLast_concat_getLast]
 have e3:(rws f (l.drop i)).flatten=(rws f (l.drop i).dropLast).flatten++f l[l.length-1]:=by
  conv=>lhs;rw[e2]
  rw[Gm];show _++(f _++[])=_;rw[Fbi]
 have h3:(rws f (l.drop i).dropLast).flatten.length=(l.length-(i+1))*k:=by
  rw[qc hf,List.length_dropLast,Fbk]
  congr 1
 grind
def ep{α:Type}{l:List α}(hi:i<l.length):(l.eraseIdx i).length=l.length-1:=δ
theorem fe{α:Type}{f:α->List AV}(hf:∀x,(f x).length=k){l:List α}(hi:i<=l.length)(L:List AV):(((rws f l).flatten++L).drop (i*k)).take ((l.length-i)*k)=(rws f (l.drop i)).flatten:=by
 have e1:(rws f l).flatten++L=(rws f (l.take i)).flatten++((rws f (l.drop i)).flatten++L):=by grind[Gm,List.take_append_drop]
 have h1:(rws f (l.take i)).flatten.length=i*k:=by grind[qc,List.length_take]
 have h2:(rws f (l.drop i)).flatten.length=(l.length-i)*k:=by rw[qc hf,Fbk]
 grind
theorem yt1{P:Program}{c:Cfg}{st:Store}{e:TypeId}{ie:TI}(hie:c.I e=some ie){a:Option Addr}{x:AV}(hx:kh ie.size (.av x)=some []){K:Ja}(h:K (.s (.slice a 0 0)) st):AppX P c st e (.s (.slice a 0 0)) x K:=by
 refine⟨⟨ie,hie⟩,λie' hie' Oth M w sv xv argTypes ty args t sto hs hxv hat ht1 hu hti h0 h1'=>?_⟩;rw[hie]at hie';cases hie';have hs:=VRel.eq_s hs;subst hs;have A:AppArgs P c argTypes args t e ie a 0 0 xv:=⟨hat,ht1,hu,hti,h0,h1'⟩
 have⟨hl1,hl2,new,hnew,hone,hnsz,hfc⟩:=Li (P:=P) (β:=λ_=>0) (k:=ie.size) (x:=.av x) hxv hx;have hn0:new.toList=[]:=θd;have hrun:=My (w':=w) ty A hl1 (hfc w rfl) φ (λb hb=>by rw[hn0];simp[storeCells]) (λ_=>rfl);exact⟨_,_,hrun,_,_,M,h,.s _,sto,Chg.refl M w⟩
end
section
variable {r P N:Int} {w:Wld}
def Gw(m r:Int):Prop:=0<=r/\r<=9223372036854775807/\r*r<=m/\(r=9223372036854775807\/m<(r+1)*(r+1))
def yl6{m:Int}(h:Gw m r){k:Int}(hk:0<=k)(hk2:k<9223372036854775807):k<r↔(k+1)*(k+1)<=m:=by
 have⟨h0,h1,h2,h3⟩:=h;constructor
 ·intro hkr;exact Feb (Fbo (show k+1<=r by omega) (show k+1<=r by omega) θ h0) h2
 ·intro hm;refine Int.not_le.1 λhle=>?_;rcases h3 with h3|h3
  ·omega
  ·have:=Fbo (show r+1<=k+1 by omega) (show r+1<=k+1 by omega) θ θ;omega
def yl5{m r':Int}(h:Gw m r)(h':Gw m r'):r=r':=by
 have⟨h0,h1,h2,h3⟩:=h;have⟨g0,g1,g2,g3⟩:=h';have a:¬r<r':=λhlt=>by
  rcases h3 with h3|h3
  ·omega
  ·have:=Fbo (show r+1<=r' by omega) (show r+1<=r' by omega) θ g0;omega
 have b:¬r'<r:=λhlt=>by
  rcases g3 with h3|h3
  ·omega
  ·have:=Fbo (show r'+1<=r by omega) (show r'+1<=r by omega) θ h0;omega
 omega
def Hy(p q:Vc):Prop:=17180131329<=sqr (jd p q)
instance(p q:Vc):Decidable (Hy p q):=inferInstanceAs (Decidable (_<=_))
theorem ygk{p q:Vc}(h:Gw (sqr (jd p q)) r):131072<r↔Hy p q:=by have:=yl6 h (k:=131072) ψ ψ;unfold Hy;exact this
def Ao(w:Wld)(P N:Int):Int:=if kj w P N=0 then(if ko (uAt w N).kind=0 then 7 else 0)else kj w P N
def Og(x u:Unt):Int:=if 0<ko u.kind then 7 else if Hy u.pos x.pos then 8 else 0
def ldA(w:Wld)(P N id:Int):Int:=if kj w P id=0 then Og (uAt w N) (uAt w id)else kj w P id
def ldE(w:Wld)(c:Cmd):Int:=if Ao w c.P c.N=0 then(if allE (ldA w c.P c.N) c.U=0 then(if ko (uAt w c.N).kind<((ya w.U c.N).length:Int)+(c.U.length:Int)then 4 else 0)else allE (ldA w c.P c.N) c.U)else Ao w c.P c.N
def ldU(n:Int)(u:Unt):Unt:={u with pos:=(0,0),goal:=-1,next:=-1,stuck:=0,inn:=n,state:=0}
def ldW(w:Wld)(c:Cmd):Wld:={w with U:=xa c.U (ldU c.N) w.U}
def zgu{id:Int}(h:ldA w P N id=0):kj w P id=0/\Og (uAt w N) (uAt w id)=0:=by unfold ldA at h;grind
def uq(h:Ao w P N=0):kj w P N=0/\ko (uAt w N).kind≠0:=by unfold Ao at h;grind
def ymv(hm:z8 w){i:Nat}(hi:i<w.U.length)(h0:w.U[i].id≠0):((ya w.U w.U[i].id).length:Int)<=ko w.U[i].kind:=by
 have hr:yl w.U:=hm.1.2.1;cases hl:ya w.U w.U[i].id with
 |nil=>simp_all[R8]
 |cons a l=>
  have ha:a∈ya w.U w.U[i].id:=by rw[hl];simp
  unfold ya at ha;have⟨u,hu,_⟩:=Fag.1 ha;have⟨hu,he⟩:=Fbd.1 hu;have he:u.inn=w.U[i].id:=by simpa using he
  have⟨x,hx,e1,_,e3,_⟩:=hm.2.2 u hu (by rw[he];exact h0);obtain⟨k,hk,rfl⟩:=Faf hx;have hki:k=i:=by
   by_cases h1:k<i
   ·have:=Ig hr h1 hi;omega
   ·by_cases h2:i<k
    ·have:=Ig hr h2 hk;omega
    ·omega
  grind
theorem yi2{n:Int}{q m:Nat}(h0:0<=n)(h1:n<2^m)(h2:n+q*2^m<18446744073709551616):vr .or .u64 (q*2^m) n=q*2^m+n:=by
 obtain⟨a,rfl⟩:=Fcb h0;have e:((q:Int)*2^m)=((q*2^m:Nat):Int):=φ;have h1':a<2^m:=by exact_mod_cast h1
 rw[e]at h2⊢;have h3:a+q*2^m<18446744073709551616:=θ;rw[(zkh (q*2^m) a θ θ).2,Nat.or_comm,zfr a q m h1',H8 θ θ];simp;omega
theorem ybc{k:Nat}(hk:k<=62):IntKind.u64.wrap (1*2^(min ((k:Int)).toNat IntKind.u64.bits))=2^k:=by
 have:(min ((k:Int)).toNat IntKind.u64.bits)=k:=by show min ((k:Int)).toNat 64=k;omega
 rw[this,Int.one_mul];have h:(2:Int)^k<=2^62:=by exact_mod_cast Nat.pow_le_pow_right ψ hk
 grind[H8]
def Kg(m r:Int)(k:Nat):Prop:=∃q:Nat,r=q*2^k/\r+2^k<=9223372036854775808/\r*r<=m/\(m<(r+2^k)*(r+2^k)\/r+2^k=9223372036854775808)
def ygm{m:Int}(hm:0<=m):Kg m 0 63:=⟨0,φ,ψ,by simpa using hm,.inr ψ⟩
def ygo{m:Int}(h:Kg m r 0):Gw m r:=by have⟨q,e,h1,h2,h3⟩:=h;have e1:(2:Int)^0=1:=rfl;rw[e1]at h1 h3 e;exact⟨θ,θ,h2,h3.symm.imp (λh=>θ) id⟩
def ygp{m:Int}{k:Nat}(h:Kg m r (k+1)):vr .or .u64 r (2^k)=r+2^k/\0<=r/\(0:Int)<2^k/\r+2^k<9223372036854775808:=by have⟨q,e,h1,h2,h3⟩:=h;grind[yi2]
def ygn{m:Int}{k:Nat}(h:Kg m r (k+1))(hn:m<(r+2^k)*(r+2^k)):Kg m r k:=by have⟨q,e,h1,h2,h3⟩:=h;have e2:(2:Int)^(k+1)=2*2^k:=δ;have h0:(0:Int)<2^k:=Int.pow_pos ψ;rw[e2]at h1;refine⟨2*q,?_,θ,h2,.inl hn⟩;grind
def ygl{m:Int}{k:Nat}(h:Kg m r (k+1))(hn:(r+2^k)*(r+2^k)<=m):Kg m (r+2^k) k:=by have⟨q,e,h1,h2,h3⟩:=h;have e2:(2:Int)^(k+1)=2*2^k:=δ;have h0:(0:Int)<2^k:=Int.pow_pos ψ;rw[e2]at h1 h3;have e3:r+2^k+2^k=r+2*2^k:=θ;refine⟨2*q+1,?_,θ,hn,by rw[e3];exact h3⟩;grind
end
section
variable {t i:Nat} {w:Wld} {tile id:Int} {u:Unt}
def qg(g:Gnd)(t:Nat):Vc:=(tx g t+32768,ty g t+32768)
def Sw{g:Gnd}(hg:zv g)(ht:t<g.T.length):(qg g t).ok:=by have ha:=xj hg;have:=Pq hg (t:=t) θ;unfold qg Vc.ok yu;dsimp only;omega
def qx(w:Wld)(k tile:Int)(n:Nat):List Nat:=No w.G (yd w.G w.B (qp k) (vn k)) (vn k) tile n
def zc4(g:Gnd)(f:Nat->Bool)(x y k:Int):∀d t,t∈wv g f x y k d->t<g.T.length/\f t=true
 |0,t,h=>ω
 |d+1,t,h=>by
  rcases Faq.1 (show t∈wv g f x y k d++Dg g f x y k d from h)with h|h
  ·exact zc4 g f x y k d t h
  ·unfold Dg He at h;have⟨h1,h2⟩:=Fbd.1 h;exact⟨Fbj.1 (Fbd.1 h1).1,h2⟩
def mg{k:Int}{n:Nat}(h:t∈qx w k tile n):t<w.G.T.length/\yd w.G w.B (qp k) (vn k) t=true:=zc4 _ _ _ _ _ _ _ (Fcs h)
def ya3(w:Wld)(k tile:Int)(n:Nat):(qx w k tile n).length<=n:=by grind[qx,No]
open Classical in
noncomputable def D8(w:Wld)(u:Unt)(tile:Int):Option Nat:=(qx w u.kind tile 64).find? λt=>decide (xz w u.id u.kind (qg w.G t))
open Classical in
def yiw{j:Nat}(hj:j<(qx w u.kind tile 64).length)(hno:∀i,(h:i<(qx w u.kind tile 64).length)->i<j->¬xz w u.id u.kind (qg w.G (qx w u.kind tile 64)[i]))(hy:xz w u.id u.kind (qg w.G (qx w u.kind tile 64)[j])):D8 w u tile=some (qx w u.kind tile 64)[j]:=by unfold D8;rw[List.find?_eq_some_iff_getElem];grind
open Classical in
def yix(hno:∀i,(h:i<(qx w u.kind tile 64).length)->¬xz w u.id u.kind (qg w.G (qx w u.kind tile 64)[i])):D8 w u tile=none:=by unfold D8;rw[Fem];intro t ht;obtain⟨i,hi,rfl⟩:=Faf ht;grind
open Classical in
def ze2(h:D8 w u tile=some t):t∈qx w u.kind tile 64/\xz w u.id u.kind (qg w.G t):=by unfold D8 at h;grind
def Fq(u:Unt)(p:Vc):Unt:={u with pos:=p,inn:=0}
noncomputable def unl(tile:Int):List Int->Wld->Option Wld
 |[],w=>some w
 |id::l,w=>match qw w.U id with
  |none=>none
  |some i=>match D8 w (w.U.getD i unt0) tile with
   |none=>none
   |some t=>unl tile l {w with U:=w.U.set i (Fq (w.U.getD i unt0) (qg w.G t))}
theorem ir{l:List Int}(hi:i<w.U.length)(hf:qw w.U id=some i)(ho:D8 w w.U[i] tile=none):unl tile (id::l) w=none:=by show(match qw w.U id with|none=>none|some i=>_)=_;grind
theorem iq{l:List Int}(hi:i<w.U.length)(hf:qw w.U id=some i)(ho:D8 w w.U[i] tile=some t):unl tile (id::l) w=unl tile l {w with U:=w.U.set i (Fq w.U[i] (qg w.G t))}:=by show(match qw w.U id with|none=>none|some i=>_)=_;grind
open Classical in
noncomputable def ulE(w:Wld)(c:Cmd):Int:=
 if Ao w c.P c.N=0 then
  (if 0<=c.T/\c.T<w.G.W*w.G.H then
   (if Hy (qg w.G c.T.toNat) (uAt w c.N).pos then 8 else(match unl c.T (ya w.U c.N) w with|none=>5|some _=>0))
  else 3)
 else Ao w c.P c.N
noncomputable def ulW(w:Wld)(c:Cmd):Wld:=(unl c.T (ya w.U c.N) w).getD w
def Gf(L:List Ent)(u:Unt):List Ent:=if u.inn=0 then qt L u.id++[(u.id,u.pos)]else qt L u.id
def yqq(L:List Ent)(u:Unt):(Gf L u).length<=L.length+1:=by grind[qt,Gf]
def yqp{L:List Ent}(hok:∀e∈L,e.2.ok)(hp:u.pos.ok):∀e∈Gf L u,e.2.ok:=λe he=>by grind[Gf,mem_dropId]
def zfb{L:List Ent}(hF:F4 w L)(hr:yl w.U)(hi:i<w.U.length)(hid:w.U[i].id=u.id):F4 {w with U:=w.U.set i u} (Gf L u):=by
 have old:∀e,e∈qt L u.id↔∃j,∃hj:j<w.U.length,j≠i/\w.U[j].inn=0/\e=(w.U[j].id,w.U[j].pos):=λe=>by
  rw[mem_dropId,hF e];constructor
  ·rintro⟨⟨x,hx,h0,rfl⟩,hne⟩;obtain⟨j,hj,rfl⟩:=Faf hx;grind
  ·rintro⟨j,hj,hji,h0,rfl⟩;refine⟨⟨w.U[j],Faa hj,h0,rfl⟩,λe=>hji ?_⟩;have e:w.U[j].id=u.id:=e;by_cases h1:j<i
   ·have:=Hd hr h1 hi;omega
   ·by_cases h2:i<j
    ·have:=Hd hr h2 hj;omega
    ·omega
 intro e;have key:(∃y∈w.U.set i u,y.inn=0/\e=(y.id,y.pos))↔(u.inn=0/\e=(u.id,u.pos))\/∃j,∃hj:j<w.U.length,j≠i/\w.U[j].inn=0/\e=(w.U[j].id,w.U[j].pos):=by
  constructor
  ·rintro⟨y,hy,h0,he⟩;obtain⟨j,hj,rfl⟩:=Faf hy;grind
  ·rintro(⟨h0,he⟩|⟨j,hj,hji,h0,he⟩)
   ·exact⟨u,List.mem_set hi u,h0,he⟩
   ·refine⟨w.U[j],?_,h0,he⟩;have hj2:j<(w.U.set i u).length:=by grind
    have:(w.U.set i u)[j]=w.U[j]:=δ;grind
 grind[Gf]
def zfc{L:List Ent}(hn:(L.map (·.1)).Nodup)(hF:F4 w L):L.length<=w.U.length:=by have:=Fb2 (l₂:=w.U.map (·.id)) hn (λid hid=>by obtain⟨e,he,rfl⟩:=Fag.1 hid;obtain⟨u,hu,_,rfl⟩:=(hF e).1 he;grind);grind
theorem Wp{U:List Unt}(hr:yl U)(hi:i<U.length)(hid:U[i].id=u.id):yl (U.set i u):=by intro j hj h0;rw[Fak]at hj;have:=hr j hj h0;grind
theorem ypq{U:List Unt}(hr:yl U)(hi:i<U.length)(hid:U[i].id=u.id)(id:Int):qw (U.set i u) id=qw U id:=by
 have id':∀k,(hk:k<U.length)->((U.set i u)[k]'δ).id=U[k].id:=λk hk=>δ;cases h:qw U id with
 |some k=>
  grind[Mo,So,Wp]
 |none=>
  grind[qw]
end
section
variable {w:Wld} {k:Nat} {kd:Int}
def mvG(g:Int)(u:Unt):Unt:={u with goal:=g,next:=-1,stuck:=0,state:=1}
def Fb(w:Wld)(c:Cmd)(k:Nat)(kd:Int):Int:=match(qx w kd c.T c.U.length)[k]? with|some t=>(t:Int)|none=>c.T
def mvL(w:Wld)(c:Cmd):Nat->List Unt
 |0=>w.U
 |k+1=>match qw w.U (c.U.getD k 0)with
  |some i=>(mvL w c k).set i (mvG (Fb w c k (w.U.getD i unt0).kind) (w.U.getD i unt0))
  |none=>mvL w c k
def mvE(w:Wld)(c:Cmd):Int:=if 0<=c.T/\c.T<w.G.W*w.G.H then allE (kj w c.P) c.U else 3
def mvW(w:Wld)(c:Cmd):Wld:={w with U:=mvL w c c.U.length}
theorem zfw{c:Cmd}{i:Nat}(hk:k<c.U.length)(hf:qw w.U c.U[k]=some i)(hi:i<w.U.length):mvL w c (k+1)=(mvL w c k).set i (mvG (Fb w c k w.U[i].kind) w.U[i]):=by show(match qw w.U (c.U.getD k 0)with|some i=>_|none=>_)=_;rw[show c.U.getD k 0=c.U[k] by simp[Fao,hk],hf];dsimp only;rw[show w.U.getD i unt0=w.U[i] by simp[Fao,hi]]
theorem Dm(w:Wld)(c:Cmd):∀k,(mvL w c k).length=w.U.length
 |0=>rfl
 |k+1=>by
  show(match qw w.U (c.U.getD k 0)with|some i=>_|none=>_:List Unt).length=_;cases qw w.U (c.U.getD k 0)with
  |none=>exact Dm w c k
  |some i=>dsimp only;rw[Fak];exact Dm w c k
def b7(w:Wld)(c:Cmd):∀k j,(hj:j<w.U.length)->mvG 0 ((mvL w c k)[j]'(by rw[Dm];exact hj))=mvG 0 w.U[j]
 |0,j,hj=>rfl
 |k+1,j,hj=>by
  have ih:=b7 w c k j hj;have key:∀L:List Unt,(hL:j<L.length)->L=mvL w c (k+1)->mvG 0 L[j]=mvG 0 w.U[j]:=λL hL e=>by
   have e2:mvL w c (k+1)=(match qw w.U (c.U.getD k 0)with
    |some i=>(mvL w c k).set i (mvG (Fb w c k (w.U.getD i unt0).kind) (w.U.getD i unt0))
    |none=>mvL w c k):=rfl
   rw[e2]at e;cases hf:qw w.U (c.U.getD k 0)with
   |none=>rw[hf]at e;subst e;exact ih
   |some i=>
    rw[hf]at e;have⟨hi,_⟩:=Mo hf;subst e;rw[Fct];split
    ·rename_i e3;subst e3;rw[show w.U.getD i unt0=w.U[i] by simp[Fao,hi]];rfl
    ·exact ih
  exact key _ (by rw[Dm];exact hj) rfl
def Ma{a b:Unt}(h:mvG 0 a=mvG 0 b):a.id=b.id/\a.owner=b.owner/\a.kind=b.kind/\a.pos=b.pos/\a.inn=b.inn:=by
 refine⟨?_,?_,?_,?_,?_⟩
 ·have:=congrArg Unt.id h;exact this
 ·have:=congrArg Unt.owner h;exact this
 ·have:=congrArg Unt.kind h;exact this
 ·have:=congrArg Unt.pos h;exact this
 ·have:=congrArg Unt.inn h;exact this
theorem ph(w:Wld)(c:Cmd)(k j:Nat)(hj:j<w.U.length):((mvL w c k)[j]'(by rw[Dm];exact hj)).id=w.U[j].id:=(Ma (b7 w c k j hj)).1
def pe(hr:yl w.U)(c:Cmd)(k:Nat):yl (mvL w c k):=by intro j hj h0;rw[Dm]at hj;have:=hr j hj h0;rw[ph w c k _ θ,ph w c k _ hj];exact this
def zfy{c:Cmd}{u:Unt}(h:u∈mvL w c k):∃x∈w.U,u.id=x.id/\u.owner=x.owner/\u.kind=x.kind/\u.pos=x.pos/\u.inn=x.inn:=by obtain⟨j,hj,rfl⟩:=Faf h;have hj2:=hj;rw[Dm]at hj2;exact⟨w.U[j],Faa hj2,Ma (b7 w c k j hj2)⟩
theorem zf2{c:Cmd}(h:¬(0<=c.T/\c.T<w.G.W*w.G.H)):mvE w c=3:=by unfold mvE;rw[if_neg h]
theorem zf1{c:Cmd}(h:0<=c.T/\c.T<w.G.W*w.G.H):mvE w c=allE (kj w c.P) c.U:=by unfold mvE;rw[if_pos h]
theorem zfz{c:Cmd}(h:k<(qx w kd c.T c.U.length).length):Fb w c k kd=((qx w kd c.T c.U.length)[k]:Nat):=by unfold Fb;rw[Fab h]
theorem zf0{c:Cmd}(h:¬k<(qx w kd c.T c.U.length).length):Fb w c k kd=c.T:=by unfold Fb;rw[Fbe θ]
theorem yli{α:Type}(f:α->AV)(cs:List (Int×α))(k:Int)(z:AV):Gt true z ((cs.map (yv f)).find? (qA k))=match yx cs k with|some v=>.tup [f v,.s (.bool true)]|none=>.tup [z,.s (.bool false)]:=by
 rw[sy];unfold yx;cases cs.find? λe=>k==e.1 with
 |none=>rfl
 |some e=>rfl
end
section
variable {w:Wld}
noncomputable def aE(w:Wld)(c:Cmd):Int:=if c.K=1 then spE w c else if c.K=2 then mvE w c else if c.K=3 then stE w c else if c.K=4 then bdE w c else if c.K=5 then drE w c else if c.K=6 then ldE w c else ulE w c
noncomputable def aW(w:Wld)(c:Cmd):Wld:=if c.K=1 then spW w c else if c.K=2 then mvW w c else if c.K=3 then stW w c else if c.K=4 then bdW w c else if c.K=5 then drW w c else if c.K=6 then ldW w c else ulW w c
theorem a1{c:Cmd}(h:c.K=1):aE w c=spE w c/\aW w c=spW w c:=θr
theorem a2{c:Cmd}(h:c.K=2):aE w c=mvE w c/\aW w c=mvW w c:=θr
theorem a3{c:Cmd}(h:c.K=3):aE w c=stE w c/\aW w c=stW w c:=θr
theorem a4{c:Cmd}(h:c.K=4):aE w c=bdE w c/\aW w c=bdW w c:=θr
theorem a5{c:Cmd}(h:c.K=5):aE w c=drE w c/\aW w c=drW w c:=θr
theorem a6{c:Cmd}(h:c.K=6):aE w c=ldE w c/\aW w c=ldW w c:=θr
theorem a7{c:Cmd}(h:c.K=7):aE w c=ulE w c/\aW w c=ulW w c:=θr
def rj{c:Cmd}(h:vq c):c.K=1\/c.K=2\/c.K=3\/c.K=4\/c.K=5\/c.K=6\/c.K=7:=Classical.byContradiction λhn=>by have hn:c.K≠1/\c.K≠2/\c.K≠3/\c.K≠4/\c.K≠5/\c.K≠6/\c.K≠7:=θ;exact Cmd.ok0 hn.1 hn.2.1 hn.2.2.1 hn.2.2.2.1 hn.2.2.2.2.1 hn.2.2.2.2.2.1 hn.2.2.2.2.2.2 h.1
def ziw{E:Wld->Cmd->Int}{c:Cmd}(h:doE E w c=0):z8 w/\vq c/\c.P<=w.players/\E w c=0:=by
 have hb:¬(¬z8 w\/¬vq c\/w.players<c.P):=λhb=>by rw[ziy hb]at h;cases h
 have h1:z8 w:=Classical.byContradiction λhh=>hb (.inl hh);have h2:vq c:=Classical.byContradiction λhh=>hb (.inr (.inl hh));grind[zix]
theorem zbo{tile:Int}:∀(l:List Int) (w x:Wld),yl w.U->unl tile l w=some x->x.tick=w.tick/\x.players=w.players/\x.next=w.next/\x.G=w.G/\x.B=w.B/\∃h:x.U.length=w.U.length,∀j,(hj:j<w.U.length)->x.U[j].id=w.U[j].id/\x.U[j].owner=w.U[j].owner/\x.U[j].kind=w.U[j].kind/\(x.U[j]=w.U[j]\/∃t,t<w.G.T.length/\x.U[j].pos=qg w.G t)
 |[],w,x,hr,h=>by have:w=x:=Option.some.inj h;grind
 |id::l,w,x,hr,h=>by
  cases hf:qw w.U id with
  |none=>
   grind[unl]
  |some i=>
   have⟨hi,_⟩:=Mo hf;cases ho:D8 w w.U[i] tile with
   |none=>rw[ir hi hf ho]at h;cases h
   |some t=>
    rw[iq hi hf ho]at h;have ht:=(mg (ze2 ho).1).1;have⟨h0,h1,h2,h3,h4,h5,h6⟩:=zbo l _ x (Wp hr hi (u:=Fq w.U[i] (qg w.G t)) rfl) h;grind[Fq]
def iy{c:Cmd}(hr:yl w.U):(ulW w c).tick=w.tick/\(ulW w c).players=w.players/\(ulW w c).next=w.next/\(ulW w c).G=w.G/\(ulW w c).B=w.B/\∃h:(ulW w c).U.length=w.U.length,∀j,(hj:j<w.U.length)->(ulW w c).U[j].id=w.U[j].id/\(ulW w c).U[j].owner=w.U[j].owner/\(ulW w c).U[j].kind=w.U[j].kind/\((ulW w c).U[j]=w.U[j]\/∃t,t<w.G.T.length/\(ulW w c).U[j].pos=qg w.G t):=by
 have key:∀x:Wld,ulW w c=x->x.tick=w.tick/\x.players=w.players/\x.next=w.next/\x.G=w.G/\x.B=w.B/\∃h:x.U.length=w.U.length,∀j,(hj:j<w.U.length)->x.U[j].id=w.U[j].id/\x.U[j].owner=w.U[j].owner/\x.U[j].kind=w.U[j].kind/\(x.U[j]=w.U[j]\/∃t,t<w.G.T.length/\x.U[j].pos=qg w.G t):=λx hx=>by
  unfold ulW at hx;cases h:unl c.T (ya w.U c.N) w with
  |none=>
   grind
  |some y=>
   grind[zbo]
 exact key _ rfl
def zda{l:List Int}{g:Unt->Unt}{U:List Unt}{u:Unt}(h:u∈xa l g U):∃x∈U,u=x\/u=g x:=by unfold xa at h;grind
def yvg{c:Cmd}(hn:∀u∈w.U,u.pos.ok)(h:doE aE w c=0):∀u∈(aW w c).U,u.pos.ok:=by
 have⟨hm,hc,hp,he⟩:=ziw h;have z0:Vc.ok (0,0):=by unfold Vc.ok yu;decide
 intro u hu;rcases rj hc with k|k|k|k|k|k|k
 ·rw[(a1 k).2]at hu;rcases Faq.1 (show u∈w.U++[spU w c]from hu)with hu|hu
  ·exact hn u hu
  ·rw[Fbl]at hu;subst hu;have:=(Cmd.ok1 k).1 hc.1;have:=this.2;show Vc.ok (c.X,c.Y);grind[jv,Vc.ok,yu]
 ·rw[(a2 k).2]at hu;have⟨x,hx,_,_,_,e,_⟩:=zfy (show u∈mvL w c c.U.length from hu);rw[e];exact hn x hx
 ·rw[(a3 k).2]at hu;obtain⟨x,hx,rfl|rfl⟩:=zda (show u∈xa c.U Hc w.U from hu)
  ·exact hn _ hx
  ·exact hn x hx
 ·rw[(a4 k).2]at hu;exact hn u hu
 ·grind[a5,drW]
 ·rw[(a6 k).2]at hu;obtain⟨x,hx,rfl|rfl⟩:=zda (show u∈xa c.U (ldU c.N) w.U from hu)
  ·exact hn _ hx
  ·exact z0
 ·rw[(a7 k).2]at hu;have⟨_,_,_,_,_,hl,hf⟩:=iy (c:=c) hm.1.2.1;obtain⟨j,hj,rfl⟩:=Faf hu;obtain⟨_,_,_,e|⟨t,ht,e⟩⟩:=hf j θ
  ·grind
  ·rw[e];exact Sw hm.1.1.2.1.1 ht
def zis(w:Wld)(c:Cmd):(drW w c).tick=w.tick/\(drW w c).players=w.players/\(drW w c).next=w.next/\(drW w c).G=w.G/\(drW w c).U=w.U/\(drW w c).B.length<=w.B.length:=by unfold drW;grind
end
instance(g:Gnd)(t:Nat)(p:Vc)(r:Int):Decidable (wz g t p r):=by unfold wz;infer_instance
instance(g:Gnd)(b:Bld):Decidable (Hw g b):=by unfold Hw;infer_instance
instance(g:Gnd)(b:Bld):Decidable (onP g b):=by unfold onP;infer_instance
instance(b:Bld):Decidable (qh b):=by unfold qh;infer_instance
instance(a b:Bld):Decidable (Bb a b):=by unfold Bb;infer_instance
instance(l:List Bld):Decidable (Ws l):=by unfold Ws;infer_instance
instance(l:List Bld):Decidable (gk l):=by unfold gk;infer_instance
instance(g:Gnd):Decidable (zv g):=by unfold zv;infer_instance
instance(g:Gnd)(l:List Bld):Decidable (Mv g l):=by unfold Mv;infer_instance
instance(g:Gnd)(l:List Bld)(c:Int)(p:Vc)(r:Int):Decidable (Fh g l c p r):=by unfold Fh;infer_instance
instance(w:Wld)(id k:Int)(p:Vc):Decidable (xz w id k p):=by unfold xz;infer_instance
instance(k:Int):Decidable (Gb k):=by unfold Gb;infer_instance
instance(g:Gnd)(t:Int):Decidable (De g t):=by unfold De;infer_instance
instance(w:Wld)(u:Unt):Decidable (vi w u):=by unfold vi;infer_instance
instance(w:Wld):Decidable (Sf w):=by unfold Sf;infer_instance
instance(l:List Unt):Decidable (yl l):=by unfold yl;infer_instance
instance(w:Wld):Decidable (Pm w):=by unfold Pm;infer_instance
instance(w:Wld)(u:Unt):Decidable (Hf w u):=by unfold Hf;infer_instance
instance(w:Wld):Decidable (z8 w):=by unfold z8;infer_instance
instance(x y:Int):Decidable (jv x y):=by unfold jv;infer_instance
instance(t:Int):Decidable (ky t):=by unfold ky;infer_instance
instance(t:Int):Decidable (idP t):=by unfold idP;infer_instance
instance(l:List Int):Decidable (Cz l):=by unfold Cz;infer_instance
instance(w:Wld):Decidable (Ks w):=by unfold Ks;infer_instance
def kx(a b:Vc):Vc:=(qs a.1 b.1,qs a.2 b.2)
def wn(v:Vc):Vc:=(nrm v.1,nrm v.2)
def Dq(v:Vc)(k:Nat):Vc:=(v.1.tdiv (2^k:Nat),v.2.tdiv (2^k:Nat))
def Wo(m:Int):Nat->Int->Int
 |0,r=>r
 |b+1,r=>Wo m b (if(r+(2^b:Nat))*(r+(2^b:Nat))<=m then r+(2^b:Nat)else r)
def vz(m:Int):Int:=Wo m 63 0
def ygq{m:Int}(hm:0<=m):∀(b:Nat) (r:Int),0<=r->r*r<=m->(r+(2^b:Nat)=9223372036854775808\/m<(r+(2^b:Nat))*(r+(2^b:Nat)))->r+(2^b:Nat)<=9223372036854775808->Gw m (Wo m b r):=by
 intro b;induction b with
 |zero=>
  intro r h0 h1 h2 h3;refine⟨h0,?_,h1,?_⟩
  ·simp only[Nat.pow_zero]at h3;show r<=_;omega
  ·show r=_\/_;simp only[Nat.pow_zero]at h2;rcases h2 with h2|h2
   ·exact .inl θ
   ·exact .inr h2
 |succ b ih=>
  intro r h0 h1 h2 h3;have hp:(2^(b+1):Nat)=2^b+2^b:=by rw[Nat.pow_succ];omega
  have hq:0<2^b:=Nat.pow_pos ψ;rw[hp]at h2 h3;generalize hB:2^b=B at*;show Gw m (Wo m b (if _ then _ else _));rw[hB];split
  ·rename_i hle;refine ih (r+(B:Nat)) θ hle ?_ θ;rw[Int.add_assoc,show((B:Nat):Int)+(B:Nat)=((B+B:Nat):Int) by omega];exact h2
  ·rename_i hle;exact ih r h0 h1 (.inr θ) θ
def Ny{m:Int}(hm:0<=m):Gw m (vz m):=ygq hm 63 0 ψ (by simpa using hm) (.inl ψ) ψ
def zd4{m r:Int}(hm:0<=m)(h:Gw m r):r=vz m:=yl5 h (Ny hm)
def Ix(c most long:Int):Int:=if c<0 then -((-c)*most/long)else c*most/long
def ku(v:Vc)(most:Int):Vc:=
 if vz (sqr v)<=max most 0 then wn v else(Ix (nrm v.1) (max most 0) (vz (sqr v)),Ix (nrm v.2) (max most 0) (vz (sqr v)))
def Ni(p q:Vc)(speed:Int):Vc:=ku (jd q p) speed
def Bv(p:Vc)(r:Int)(q:Vc):Vc:=
 if near p q r then ku (if jd p q=(0,0)then(65536,0)else jd p q) (r-vz (sqr (jd p q)))else(0,0)
instance(w:Wld)(id k:Int)(p:Vc):Decidable (xz w id k p):=by unfold xz Fh;infer_instance
def Bo(w:Wld)(u:Unt)(v:Vc):Nat->Nat->Option (Nat×Vc)
 |0,_=>none
 |n+1,k=>if Dq v k=(0,0)then none else if xz w u.id u.kind (kx u.pos (Dq v k))then some (k,kx u.pos (Dq v k))else Bo w u v n (k+1)
def yz(w:Wld)(u:Unt):Wld:={w with U:=w.U.map λx=>if x.id=u.id then u else x}
def K9(w:Wld)(u:Unt)(v:Vc):Int:=match Bo w u (wn v) 5 0 with|none=>5|some (k,_)=>(k:Int)
def At(w:Wld)(u:Unt)(v:Vc):Wld:=match Bo w u (wn v) 5 0 with|none=>w|some (_,p)=>yz w {u with pos:=p}
def Kp(w:Wld)(u:Unt):Vc:=w.U.foldl (λv x=>if x.inn=0/\x.id≠u.id then kx v (Bv u.pos (z6 u.kind+z6 x.kind+16384) x.pos)else v) (0,0)
def Hs(w:Wld)(u:Unt):Wld:=At w u (ku (Kp w u) ((Aj u.kind).tdiv 4))
def Cq(s:Int)(u:Unt):Unt:={u with goal:=-1,next:=-1,stuck:=0,state:=s}
def okU(w:Wld)(u:Unt)(t:Nat):Bool:=yd w.G w.B (qp u.kind) (vn u.kind) t
def Md(w:Wld)(u:Unt)(own:Nat):Bool:=
 decide (u.next=-1)||decide (u.pos=qg w.G u.next.toNat)|| !okU w u u.next.toNat||(decide (u.next≠own)&& !(Hp w.G own).contains u.next)
noncomputable def Fa(w:Wld)(u:Unt)(own:Nat):Int:=
 if u.pos≠qg w.G own then own else
  (let way:=jz w.G (okU w u) (qp u.kind) (Ak w.G (okU w u) (qp u.kind) u.goal.toNat) own
   if way<0 then -1 else yn w.G own way.toNat)
def Fv(w:Wld)(u:Unt):Wld:=
 if K9 (yz w {u with stuck:=0}) {u with stuck:=0} (Ni u.pos (qg w.G u.next.toNat) (Aj u.kind))<5 then At (yz w {u with stuck:=0}) {u with stuck:=0} (Ni u.pos (qg w.G u.next.toNat) (Aj u.kind))
 else if u.stuck+1=8 then yz w (Cq 4 u)else yz w {u with stuck:=u.stuck+1,next:=-1}
noncomputable def Gd(w:Wld)(u:Unt):Wld:=
 if u.pos=qg w.G u.goal.toNat then yz w (Cq 2 u)
 else if Md w u (kz w.G u.pos)then
  (if Fa w u (kz w.G u.pos)<0 then yz w (Cq 3 u)else Fv w {u with next:=Fa w u (kz w.G u.pos)})
 else Fv w u
noncomputable def Ce(w:Wld)(u:Unt):Wld:=if u.goal=-1 then Hs w u else Gd w u
theorem zky{g:Gnd}(hg:zv g){l:List Bld}{c c':Int}{p q:Vc}{k k':Int}(hp:Fh g l c p (z6 k))(hq:Fh g l c' q (z6 k')):Bz p (z6 k) q (z6 k')=Bz q (z6 k') p (z6 k):=by have b1:=Sl hg hp;have b2:=Sl hg hq;grind[Bz,o9,z6]
def uh{w w':Wld}{id k:Int}{p:Vc}(hG:w'.G=w.G)(hB:w'.B=w.B)(h:∀v∈w'.U,v.inn=0->v.id≠id->∃x∈w.U,x.inn=0/\x.id≠id/\x.pos=v.pos/\x.kind=v.kind)(hc:xz w id k p):xz w' id k p:=by refine⟨by rw[hG,hB];exact hc.1,λv hv h0 hid=>?_⟩;have⟨x,hx,e1,e2,e3,e4⟩:=h v hv h0 hid;rw[<-e3,<-e4];exact hc.2 x hx e1 e2
theorem ymw(l:List Unt)(id:Int):ya l id=((l.map λu=>(u.inn,u.id)).filter λx=>x.1==id).map (·.2):=by unfold ya;rw[List.filter_map,Fdc];rfl
def ymz{U U':List Unt}(hl:U'.length=U.length)(h:∀j,(hj:j<U.length)->(U'[j]'θ).inn=U[j].inn/\(U'[j]'θ).id=U[j].id)(id:Int):ya U' id=ya U id:=by grind[ymw,List.ext_getElem,List.length_map]
def zd7{U U':List Unt}(hl:U'.length=U.length)(h:∀j,(hj:j<U.length)->(U'[j]'θ).id=U[j].id)(hr:yl U):yl U':=by intro j hj h0;rw[hl]at hj;have:=hr j hj h0;grind
def ymx{l:List Unt}{u:Unt}(hu:u∈l):u.id∈ya l u.inn:=by unfold ya;grind
def pr{w:Wld}(hm:z8 w){U:List Unt}(hl:U.length=w.U.length)(h1:∀j,(hj:j<w.U.length)->mvG 0 (U[j]'θ)=mvG 0 w.U[j])(h2:∀j,(hj:j<w.U.length)->w.U[j].inn≠0->U[j]'θ=w.U[j])(h3:∀j,(hj:j<w.U.length)->vi w (U[j]'θ)):z8 {w with U:=U}:=by
 have⟨⟨hh,hr,hu⟩,hc,hd⟩:=hm;have same:=λj hj=>Ma (h1 j hj);have back:∀v∈U,∃j,∃hj:j<w.U.length,v=U[j]'θ:=λv hv=>by obtain⟨j,hj,rfl⟩:=Faf hv;exact⟨j,θ,rfl⟩
 have hin:=ymz hl (λj hj=>⟨(same j hj).2.2.2.2,(same j hj).1⟩);refine⟨⟨⟨hh.1,⟨hh.2.1.1,hh.2.1.2.1,by show U.length<=_;rw[hl];exact hh.2.1.2.2⟩,hh.2.2⟩,zd7 hl (λj hj=>(same j hj).1) hr,λv hv=>?_⟩,λv hv h0=>?_,λv hv h0=>?_⟩
 ·obtain⟨j,hj,rfl⟩:=back v hv;refine⟨h3 j hj,λb hb=>?_⟩;grind
 ·obtain⟨j,hj,rfl⟩:=back v hv;have⟨e1,_,e3,e4,e5⟩:=same j hj;rw[e1,e3,e4];refine uh (w:=w) rfl rfl (λx hx hx0 hxi=>?_) (hc _ (Faa hj) (by rw[<-e5];exact h0));grind
 ·obtain⟨j,hj,rfl⟩:=back v hv;have e5:=(same j hj).2.2.2.2;rw[e5]at h0;rw[h2 j hj h0];have⟨x,hx,g1,g2,g3,g4⟩:=hd _ (Faa hj) h0;obtain⟨k,hk,rfl⟩:=Faf hx;have⟨f1,f2,f3,f4,f5⟩:=same k hk;refine⟨U[k]'θ,Faa _,by rw[f1];exact g1,⟨by rw[f5];exact g2.1,by rw[f2];exact g2.2⟩,?_,g4⟩;grind
theorem zic{q:Unt->Bool}{x:Unt}(hx:q x=false):∀(U:List Unt) (i:Nat),((U.set i x).filter q).length<=(U.filter q).length
 |[],_=>Fah _
 |a::l,0=>δ
 |a::l,i+1=>by
  rw[List.set_cons_succ,Fdx,Fdx];have:=zic hx l i;split
  ·simp only[Fbf];omega
  ·exact this
def zge{w:Wld}(hm:z8 w){i:Nat}(hi:i<w.U.length){p:Vc}(hp:xz w w.U[i].id w.U[i].kind p):z8 {w with U:=w.U.set i {w.U[i]with pos:=p,inn:=0}}:=by
 have⟨⟨hh,hr,hu⟩,hc,hd⟩:=hm;have hg:=hh.2.1.1;have hl:(w.U.set i {w.U[i]with pos:=p,inn:=0}).length=w.U.length:=Fak;have get:∀j,(hj:j<w.U.length)->(w.U.set i {w.U[i]with pos:=p,inn:=0})[j]'θ=if i=j then{w.U[i]with pos:=p,inn:=0}else w.U[j]:=λj hj=>Fct ..
 have back:∀v∈w.U.set i {w.U[i]with pos:=p,inn:=0},v={w.U[i]with pos:=p,inn:=0}\/∃j,∃hj:j<w.U.length,j≠i/\v=w.U[j]:=λv hv=>by obtain⟨j,hj,rfl⟩:=Faf hv;grind
 have idne:∀j,(hj:j<w.U.length)->j≠i->w.U[j].id≠w.U[i].id:=λj hj hne e=>by
  rcases Nat.lt_trichotomy j i with q|q|q
  ·have:=Hd hr q hi;omega
  ·exact hne q
  ·have:=Hd hr q hj;omega
 have hself:vi w {w.U[i]with pos:=p,inn:=0}/\∀b∈w.B,b.id≠w.U[i].id:=⟨(hu _ (Faa hi)).1,(hu _ (Faa hi)).2⟩
 refine⟨⟨⟨hh.1,⟨hh.2.1.1,hh.2.1.2.1,by show(w.U.set i _).length<=_;rw[hl];exact hh.2.1.2.2⟩,hh.2.2⟩,Wp hr hi rfl,λv hv=>?_⟩,λv hv h0=>?_,λv hv h0=>?_⟩
 ·rcases back v hv with rfl|⟨j,hj,_,rfl⟩
  ·exact hself
  ·exact hu _ (Faa hj)
 ·rcases back v hv with rfl|⟨j,hj,hne,rfl⟩
  ·refine uh (w:=w) rfl rfl (λx hx hx0 hxi=>?_) hp;grind
  ·have hcj:=hc _ (Faa hj) h0;refine⟨hcj.1,λx hx hx0 hxi=>?_⟩;rcases back x hx with rfl|⟨k,hk,_,rfl⟩
   ·have:=hp.2 _ (Faa hj) h0 (idne j hj hne);rw[zky hg hp.1 hcj.1]at this;exact this
   ·exact hcj.2 _ (Faa hk) hx0 hxi
 ·rcases back v hv with rfl|⟨j,hj,hne,rfl⟩
  ·exact absurd rfl h0
  have⟨x,hx,g1,g2,g3,g4⟩:=hd _ (Faa hj) h0;obtain⟨k,hk,rfl⟩:=Faf hx;have hle:((ya (w.U.set i {w.U[i]with pos:=p,inn:=0}) w.U[j].inn).length:Int)<=ko w.U[k].kind:=by grind[zic,ya]
  by_cases e:k=i
  ·subst e;exact⟨{w.U[k]with pos:=p,inn:=0},List.mem_set hi _,g1,⟨rfl,g2.2⟩,hle,g4⟩
  ·refine⟨w.U[k],?_,g1,g2,hle,g4⟩;grind
def zga{tile:Int}:∀(l:List Int) (w x:Wld),z8 w->unl tile l w=some x->z8 x
 |[],w,x,hm,h=>by have:w=x:=Option.some.inj h;subst this;exact hm
 |id::l,w,x,hm,h=>by
  cases hf:qw w.U id with
  |none=>
   grind[unl]
  |some i=>
   have⟨hi,_⟩:=Mo hf;cases ho:D8 w w.U[i] tile with
   |none=>rw[ir hi hf ho]at h;cases h
   |some t=>
    rw[iq hi hf ho]at h;exact zga l _ x (zge hm hi (ze2 ho).2) h
section
variable {w:Wld} {i:Nat} {u:Unt} {s:Int}
theorem Lu(hr:yl w.U)(hi:i<w.U.length)(hid:u.id=w.U[i].id):yz w u={w with U:=w.U.set i u}:=by
 unfold yz
 congr 1
 refine Fco φ λj h1 h2=>?_;have hj:j<w.U.length:=θj;rw[Fb0,Fct];by_cases e:i=j
 ·subst e;rw[if_pos hid.symm,if_pos rfl]
 ·rw[if_neg e,if_neg];intro hx;rcases Nat.lt_or_gt_of_ne e with h|h
  ·have:=Ig hr h hj;omega
  ·have:=Ig hr h hi;omega
def W3(hr:yl w.U)(hi:i<w.U.length)(hid:u.id=w.U[i].id):∃h2:i<(yz w u).U.length,(yz w u).U[i]=u:=by rw[Lu hr hi hid];exact⟨by simpa using hi,φ⟩
theorem W0(w:Wld)(u:Unt):(yz w u).U.length=w.U.length:=by simp[yz]
theorem zel(hr:yl w.U)(hi:i<w.U.length)(hid:u.id=w.U[i].id){j:Nat}(hj:j<w.U.length)(hij:j≠i):(yz w u).U[j]'(by rw[W0];exact hj)=w.U[j]:=by
 have h:=Lu hr hi hid;have:(yz w u).U=w.U.set i u:=by rw[h]
 simp only[this];rw[Fct,if_neg (Ne.symm hij)]
def cg(hm:z8 w)(hi:i<w.U.length)(h0:w.U[i].inn=0)(h1:mvG 0 u=mvG 0 w.U[i])(h2:vi w u):z8 (yz w u):=by
 have hid:u.id=w.U[i].id:=(Ma h1).1;rw[Lu hm.1.2.1 hi hid];have get:∀j,(hj:j<w.U.length)->(w.U.set i u)[j]'(by simpa using hj)=if i=j then u else w.U[j]:=λj hj=>Fct ..
 refine pr hm φ (λj hj=>?_) (λj hj hn=>?_) (λj hj=>?_)
 ·rw[get j hj];split
  ·rename_i e;subst e;exact h1
  ·rfl
 ·rw[get j hj];split
  ·rename_i e;subst e;exact absurd h0 hn
  ·rfl
 ·rw[get j hj];split
  ·exact h2
  ·exact(hm.1.2.2 _ (Faa hj)).1
def Vy{v:Vc}:∀(n k:Nat) {r:Nat×Vc},Bo w u v n k=some r->xz w u.id u.kind r.2/\(k<=r.1/\r.1<k+n)/\r.2=kx u.pos (Dq v r.1)
 |0,k,r,h=>ω
 |n+1,k,r,h=>by
  unfold Bo at h;split at h
  ·cases h
  ·split at h
   ·cases h;exact⟨‹_›,θ,rfl⟩
   ·have⟨h1,h2,h3⟩:=Vy n (k+1) h;exact⟨h1,θ,h3⟩
def zgb(hm:z8 w)(hi:i<w.U.length)(h0:w.U[i].inn=0)(v:Vc):z8 (At w w.U[i] v):=by
 unfold At;cases h:Bo w w.U[i] (wn v) 5 0 with
 |none=>exact hm
 |some r=>
  have⟨k,p⟩:=r;dsimp only;have⟨h1,_,_⟩:=Vy 5 0 h;rw[Lu (u:={w.U[i]with pos:=p}) hm.1.2.1 hi rfl];have:=zge hm hi h1;have e:({w.U[i]with pos:=p,inn:=0}:Unt)={w.U[i]with pos:=p}:=by rw[<-h0]
  rw[e]at this;exact this
def io(hm:z8 w)(hi:i<w.U.length):vi w w.U[i]:=(hm.1.2.2 _ (Faa hi)).1
def zmy(h:vi w u)(hs:s=2\/s=3\/s=4):vi w (Cq s u):=by have⟨⟨a1,a2,a3⟩,_,_,_⟩:=h;refine⟨⟨a1,a2,a3⟩,⟨.inl rfl,.inl rfl,by show(0:Int)<=0/\(0:Int)<8;omega⟩,⟨by show 0<=s/\s<=4;omega,?_⟩,λ_=>⟨rfl,rfl⟩⟩;show s=1↔(-1:Int)≠-1;omega
def Vt(h:vi w u)(hg:u.goal≠-1){nx st:Int}(hn:De w.G nx)(hs:0<=st/\st<8):vi w {u with next:=nx,stuck:=st}:=by have⟨⟨a1,a2,a3⟩,⟨b1,b2,b3⟩,c,d⟩:=h;exact⟨⟨a1,a2,a3⟩,⟨b1,hn,hs⟩,c,λe=>absurd e hg⟩
def pt(hm:z8 w)(hi:i<w.U.length)(h0:w.U[i].inn=0)(hs:s=2\/s=3\/s=4)(hu:mvG 0 u=mvG 0 w.U[i])(hup:vi w u):z8 (yz w (Cq s u)):=
 cg hm hi h0 (by rw[<-hu];rfl) (zmy hup hs)
def zgc(hm:z8 w)(hi:i<w.U.length)(h0:w.U[i].inn=0)(hu:mvG 0 u=mvG 0 w.U[i])(hup:vi w u)(hg:u.goal≠-1):z8 (Fv w u):=by
 have hid:u.id=w.U[i].id:=(Ma hu).1;have hin:u.inn=w.U[i].inn:=(Ma hu).2.2.2.2;unfold Fv;split
 ·have hp:vi w {u with stuck:=0}:=Vt hup hg hup.2.1.2.1 θ;have hm2:z8 (yz w {u with stuck:=0}):=cg hm hi h0 (by rw[<-hu];rfl) hp;have⟨h2,e⟩:=W3 (u:={u with stuck:=0}) hm.1.2.1 hi hid;have:=zgb hm2 h2 (by rw[e];exact hin.trans h0) (Ni u.pos (qg w.G u.next.toNat) (Aj u.kind));rw[e]at this;exact this
 ·split
  ·exact pt hm hi h0 (.inr (.inr rfl)) hu hup
  ·rename_i h8;have:=hup.2.1.2.2;exact cg hm hi h0 (by rw[<-hu];rfl) (Vt hup hg (.inl rfl) θ)
def oj(hm:z8 w)(hi:i<w.U.length)(h0:w.U[i].inn=0):(0<=w.U[i].pos.1/\w.U[i].pos.1<w.G.W*65536)/\(0<=w.U[i].pos.2/\w.U[i].pos.2<w.G.H*65536):=by have:=Sl hm.1.1.2.1.1 (hm.2.1 _ (Faa hi) h0).1;have:=this.1;have:=this.2;omega
def bf(hm:z8 w)(hi:i<w.U.length)(h0:w.U[i].inn=0):kz w.G w.U[i].pos<w.G.T.length:=(zb5 hm.1.1.2.1.1 (oj hm hi h0)).2.1
def lu{g:Gnd}(hg:zv g){t:Nat}(h:t<g.T.length):De g (t:Int):=.inr (by have:=hg.2.2.1;omega)
def zmg(g:Gnd)(ok:Nat->Bool)(c:Int)(d:Nat->Int)(t:Nat):jz g ok c d t=-1\/∃way:Nat,way<8/\jz g ok c d t=way/\0<xh g ok c t way:=by
 unfold jz;split
 ·exact .inl rfl
 ·cases h:(List.range 8).find? λway=>decide (0<xh g ok c t way/\0<=d (yn g t way).toNat/\xh g ok c t way+d (yn g t way).toNat=d t)with
  |none=>exact .inl rfl
  |some way=>
   have h1:=Fc9 h;have h2:=List.find?_some h;exact .inr ⟨way,θj,rfl,(of_decide_eq_true h2).1⟩
def o6(hg:zv w.G){own:Nat}(ho:own<w.G.T.length):De w.G (Fa w u own):=by
 unfold Fa;split
 ·exact lu hg ho
 ·dsimp only;rcases zmg w.G (okU w u) (qp u.kind) (Ak w.G (okU w u) (qp u.kind) u.goal.toNat) own with h|⟨way,h1,h2,_⟩
  ·rw[h,if_pos ψ];exact .inl rfl
  ·rw[h2,if_neg θ];rcases ge hg (t:=own) (way:=way) h1 with h3|⟨x,h3,h4⟩
   ·rw[Fbc,h3];exact .inl rfl
   ·rw[Fbc,h3];exact lu hg h4
def yky(hm:z8 w)(hi:i<w.U.length)(h0:w.U[i].inn=0)(hg:w.U[i].goal≠-1):z8 (Gd w w.U[i]):=by
 have hu:=io hm hi;unfold Gd;split
 ·exact pt hm hi h0 (.inl rfl) rfl hu
 ·split
  ·split
   ·exact pt hm hi h0 (.inr (.inl rfl)) rfl hu
   ·exact zgc hm hi h0 (u:={w.U[i]with next:=Fa w w.U[i] (kz w.G w.U[i].pos)}) rfl (Vt hu hg (o6 hm.1.1.2.1.1 (bf hm hi h0)) hu.2.1.2.2) hg
  ·exact zgc hm hi h0 rfl hu hg
def ykr(hm:z8 w)(hi:i<w.U.length)(h0:w.U[i].inn=0):z8 (Ce w w.U[i]):=by
 unfold Ce;split
 ·exact zgb hm hi h0 _
 ·exact yky hm hi h0 ‹_›
end
structure MayF(w:Wld):Prop where
 hg:zv w.G
 hB:w.B.length<=256
 hU:w.U.length<=4096
 hT:w.G.T.length<=16384
 hb:∀b∈w.B,qh b/\onP w.G b
 hk:∀u∈w.U,Gb u.kind
 hr:yl w.U
 hn1:1<=w.next
 hn2:w.next<=1099511627776
def ww{w:Wld}(h:z8 w):MayF w:=by have⟨⟨hh,hok⟩,_⟩:=h;have hbl:=hh.2.1.2.1;have ha:=xj hh.2.1.1;exact⟨hh.2.1.1,hbl.1,hh.2.1.2.2,θ,λb hb=>⟨(hbl.2.2.1 b hb).1,(hbl.2.2.1 b hb).2.1⟩,λu hu=>(hok.2 u hu).1.1.2.2,hok.1,hh.1.2.2.1,hh.1.2.2.2⟩
theorem MayF.fits{w:Wld}(h:MayF w):w.fits:=⟨by unfold Gnd.fits;have:=h.hT;omega,by have:=h.hB;omega,by have:=h.hU;omega⟩
def cr(k:Int):0<=vn k/\vn k<=3:=by unfold vn;split<;>decide
end Go.V
