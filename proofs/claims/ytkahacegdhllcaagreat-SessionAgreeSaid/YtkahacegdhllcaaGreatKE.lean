/- Ground of laws of thronglaw30: contracts and plain lemmas; no condition beyond the row's own. -/
import Derived.Test.YtkahacegdhllcaaGreatKD
set_option linter.unusedSimpArgs false
set_option linter.unusedVariables false
set_option linter.defProp false
namespace Go.V
section
variable {g:Gnd} {x y:Int} {s:Nat}
def onG(g:Gnd)(x y:Int):Prop:=(0<=x/\x<g.W)/\(0<=y/\y<g.H)
instance(g:Gnd)(x y:Int):Decidable (onG g x y):=inferInstanceAs (Decidable (_/\_))
def tl(g:Gnd)(x y:Int):Nat:=(x+g.W*y).toNat
def Dr(hg:zv g)(h:onG g x y):((tl g x y:Nat):Int)=x+g.W*y/\tl g x y<g.T.length/\(tl g x y:Int)%g.W=x/\(tl g x y:Int)/g.W=y:=by
 obtain⟨h1,h2,h3⟩:=xc hg;obtain⟨⟨hx,hx2⟩,hy,hy2⟩:=h;have hW:1<=g.W:=hg.1.1;have e0:0<=g.W*y:=Fa8 θ hy;have e:((tl g x y:Nat):Int)=x+g.W*y:=by unfold tl;omega
 have e1:g.W*y<=g.W*(g.H-1):=Fbm (Fci _) θ hy θ;rw[Int.mul_sub,Int.mul_one]at e1;refine⟨e,θ,?_,?_⟩
 ·simp_all[Fen]
 ·rw[e,Int.add_mul_ediv_left _ _ θ,Fd0 hx hx2,Int.zero_add]
def Vn(hg:zv g){t:Nat}(ht:t<g.T.length):onG g ((t:Int)%g.W) ((t:Int)/g.W)/\tl g ((t:Int)%g.W) ((t:Int)/g.W)=t:=by obtain⟨h1,h2,h3⟩:=xc hg;have hW:1<=g.W:=hg.1.1;have a:=Fdy (t:Int) (show g.W≠0 by omega);have b:=Fdd (t:Int) (show 0<g.W by omega);have c:=Fcu (show 0<=(t:Int) by omega) (show 0<=g.W by omega);have d:(t:Int)/g.W<g.H:=Fd8 θ (by rw[Int.mul_comm];omega);refine⟨⟨⟨a,b⟩,c,d⟩,?_⟩;unfold tl;rw[Fd7];omega
def sqP(g:Gnd)(f:Nat->Bool)(s:Nat)(x y:Int):Prop:=∀a b:Int,-(s:Int)<=a->a<=s->-(s:Int)<=b->b<=s->onG g (x+a) (y+b)/\f (tl g (x+a) (y+b))=true
def sq_zero{f:Nat->Bool}:sqP g f 0 x y↔onG g x y/\f (tl g x y)=true:=by
 constructor
 ·intro h;have:=h 0 0 ψ ψ ψ ψ;simpa using this
 ·intro h a b h1 h2 h3 h4;grind
def sq_succ{f:Nat->Bool}:sqP g f (s+1) x y↔∀a b:Int,-1<=a->a<=1->-1<=b->b<=1->onG g (x+a) (y+b)/\sqP g f s (x+a) (y+b):=by
 constructor
 ·intro h a b h1 h2 h3 h4;refine⟨(h a b θ θ θ θ).1,λa' b' k1 k2 k3 k4=>?_⟩;have:=h (a+a') (b+b') θ θ θ θ;grind
 ·intro h a b h1 h2 h3 h4;obtain⟨a1,ha1,ha2,ha3,ha4⟩:∃a1:Int,-1<=a1/\a1<=1/\-(s:Int)<=a-a1/\a-a1<=s:=by
   by_cases c1:a>s
   ·exact⟨1,θ,θ,θ,θ⟩
   ·by_cases c2:a< -s
    ·exact⟨-1,θ,θ,θ,θ⟩
    ·exact⟨0,θ,θ,θ,θ⟩
  obtain⟨b1,hb1,hb2,hb3,hb4⟩:∃b1:Int,-1<=b1/\b1<=1/\-(s:Int)<=b-b1/\b-b1<=s:=by
   by_cases c1:b>s
   ·exact⟨1,θ,θ,θ,θ⟩
   ·by_cases c2:b< -s
    ·exact⟨-1,θ,θ,θ,θ⟩
    ·exact⟨0,θ,θ,θ,θ⟩
  have:=(h a1 b1 ha1 ha2 hb1 hb2).2 (a-a1) (b-b1) ha3 ha4 hb3 hb4;grind
def tz{f:Nat->Bool}{s':Nat}(hs:s'<=s)(h:sqP g f s x y):sqP g f s' x y:=λa b h1 h2 h3 h4=>h a b θ θ θ θ
def m5(a b c d e:Int):Int:=min (min (min (min a (b+1)) (c+1)) (d+1)) (e+1)
def ynf{f:Nat->Bool}{A B:Int->Int->Int}(oA:∀x y,¬onG g x y->A x y=0)(oB:∀x y,¬onG g x y->B x y=0)
  (hA:∀x y,onG g x y->A x y=m5 (if f (tl g x y)then 128 else 0) (A (x-1) y) (A (x-1) (y-1)) (A x (y-1)) (A (x+1) (y-1)))
  (hB:∀x y,onG g x y->B x y=m5 (A x y) (B (x+1) y) (B (x+1) (y+1)) (B x (y+1)) (B (x-1) (y+1))) (hxy:onG g x y) (s:Nat) (hs:s<=127):(s:Int)<B x y↔sqP g f s x y:=by
 -- not below 0
 have nA:∀n:Nat,∀x y,onG g x y->y*200+x<n->0<=A x y:=by
  intro n;induction n with
  |zero=>intro x y h hn;obtain⟨⟨h1,h2⟩,h3,h4⟩:=h;omega
  |succ n ih=>
   intro x y h hn;have any:∀x' y',y'*200+x'<y*200+x->0<=A x' y':=λx' y' hl=>by
    by_cases ho:onG g x' y'
    ·exact ih x' y' ho θ
    ·rw[oA x' y' ho];decide
   rw[hA x y h];have a1:=any (x-1) y θ;have a2:=any (x-1) (y-1) θ;have a3:=any x (y-1) θ;have a4:=any (x+1) (y-1) θ;have a5:(0:Int)<=(if f (tl g x y)then 128 else 0):=by split<;>decide
   unfold m5;omega
 have pA:∀x y,0<=A x y:=λx y=>by
  by_cases ho:onG g x y
  ·exact nA (y*200+x+1).toNat x y ho (by obtain⟨⟨h1,h2⟩,h3,h4⟩:=ho;omega)
  ·rw[oA x y ho];decide
 have nB:∀n:Nat,∀x y,onG g x y->(g.H-y)*200+(g.W-x)<n->0<=B x y:=by
  intro n;induction n with
  |zero=>intro x y h hn;obtain⟨⟨h1,h2⟩,h3,h4⟩:=h;omega
  |succ n ih=>
   intro x y h hn;have any:∀x' y',(g.H-y')*200+(g.W-x')<(g.H-y)*200+(g.W-x)->0<=B x' y':=λx' y' hl=>by
    by_cases ho:onG g x' y'
    ·exact ih x' y' ho θ
    ·rw[oB x' y' ho];decide
   rw[hB x y h];have a1:=any (x+1) y θ;have a2:=any (x+1) (y+1) θ;have a3:=any x (y+1) θ;have a4:=any (x-1) (y+1) θ;have a5:=pA x y;unfold m5;omega
 have pB:∀x y,0<=B x y:=λx y=>by
  by_cases ho:onG g x y
  ·exact nB ((g.H-y)*200+(g.W-x)+1).toNat x y ho (by obtain⟨⟨h1,h2⟩,h3,h4⟩:=ho;omega)
  ·rw[oB x y ho];decide
 constructor
 ·-- what is bad is not farther than its steps
  have up1:∀d:Nat,∀x y a b,onG g x y->-(d:Int)<=a->a<=d->-(d:Int)<=b->b<=0->a<=-b->¬(onG g (x+a) (y+b)/\f (tl g (x+a) (y+b))=true)->A x y<=d:=by
   intro d;induction d with
   |zero=>
    intro x y a b h h1 h2 h3 h4 h5 hbad;have ea:a=0:=θ;have eb:b=0:=θ;subst ea eb;rw[Fcd,Fcd]at hbad;have hf:¬f (tl g x y)=true:=λhf=>hbad ⟨h,hf⟩;rw[hA x y h,if_neg hf];unfold m5;omega
   |succ d ih=>
    intro x y a b h h1 h2 h3 h4 h5 hbad;have go:∀u v:Int,-(d:Int)<=a-u->a-u<=d->-(d:Int)<=b-v->b-v<=0->a-u<=-(b-v)->A (x+u) (y+v)<=d:=λu v g1 g2 g3 g4 g5=>by
     by_cases ho:onG g (x+u) (y+v)
     ·refine ih (x+u) (y+v) (a-u) (b-v) ho g1 g2 g3 g4 g5 ?_;rw[show x+u+(a-u)=x+a by omega,show y+v+(b-v)=y+b by omega];exact hbad
     ·rw[oA _ _ ho];omega
    have hk:=hA x y h;unfold m5 at hk;by_cases cb:b=0
    ·by_cases ca:a=0
     ·subst ca cb;rw[Fcd,Fcd]at hbad;have hf:¬f (tl g x y)=true:=λhf=>hbad ⟨h,hf⟩;rw[if_neg hf]at hk;omega
     ·have:=go (-1) 0 θ θ θ θ θ;rw[show x+-1=x-1 by omega,Fcd]at this;omega
    ·by_cases ca:a=0
     ·have:=go 0 (-1) θ θ θ θ θ;rw[show y+-1=y-1 by omega,Fcd]at this;omega
     ·by_cases ca2:a<0
      ·have:=go (-1) (-1) θ θ θ θ θ;rw[show y+-1=y-1 by omega,show x+-1=x-1 by omega]at this;omega
      ·have:=go 1 (-1) θ θ θ θ θ;rw[show y+-1=y-1 by omega]at this;omega
  have up2:∀d:Nat,∀x y a b,onG g x y->-(d:Int)<=a->a<=d->-(d:Int)<=b->b<=d->¬(onG g (x+a) (y+b)/\f (tl g (x+a) (y+b))=true)->B x y<=d:=by
   intro d;induction d with
   |zero=>
    intro x y a b h h1 h2 h3 h4 hbad;have:=up1 0 x y a b h h1 h2 h3 θ θ hbad;have hk:=hB x y h;unfold m5 at hk;omega
   |succ d ih=>
    intro x y a b h h1 h2 h3 h4 hbad;have hk:=hB x y h;unfold m5 at hk;by_cases cone:b<=0/\a<=-b
    ·have:=up1 (d+1) x y a b h h1 h2 h3 cone.1 cone.2 hbad;omega
    have go:∀u v:Int,-(d:Int)<=a-u->a-u<=d->-(d:Int)<=b-v->b-v<=d->B (x+u) (y+v)<=d:=λu v g1 g2 g3 g4=>by
     by_cases ho:onG g (x+u) (y+v)
     ·refine ih (x+u) (y+v) (a-u) (b-v) ho g1 g2 g3 g4 ?_;rw[show x+u+(a-u)=x+a by omega,show y+v+(b-v)=y+b by omega];exact hbad
     ·rw[oB _ _ ho];omega
    by_cases cb:b<=0
    ·have:=go 1 0 θ θ θ θ;rw[Fcd]at this;omega
    ·by_cases ca:a=0
     ·have:=go 0 1 θ θ θ θ;rw[Fcd]at this;omega
     ·by_cases ca2:a<0
      ·have:=go (-1) 1 θ θ θ θ;rw[show x+-1=x-1 by omega]at this;omega
      ·have:=go 1 1 θ θ θ θ;omega
  intro hlt a b h1 h2 h3 h4;refine Classical.byContradiction λhbad=>?_;have:=up2 s x y a b hxy h1 h2 h3 h4 hbad;omega
 ·-- what is good all about is far
  have loA:∀s:Nat,s<=127->∀x y,sqP g f s x y->(s:Int)<A x y:=by
   intro s;induction s with
   |zero=>
    intro _ x y h;obtain⟨ho,hf⟩:=sq_zero.1 h;rw[hA x y ho,if_pos hf];have a1:=pA (x-1) y;have a2:=pA (x-1) (y-1);have a3:=pA x (y-1);have a4:=pA (x+1) (y-1);unfold m5;omega
   |succ s ih=>
    intro hs x y h;have h2:=sq_succ.1 h;have nb:=λ(a b:Int) h3 h4 h5 h6=>ih θ _ _ (h2 a b h3 h4 h5 h6).2;obtain⟨ho,hf⟩:=sq_zero.1 (tz (Fae _) h);have a1:=nb (-1) 0 ψ ψ ψ ψ;have a2:=nb (-1) (-1) ψ ψ ψ ψ;have a3:=nb 0 (-1) ψ ψ ψ ψ;have a4:=nb 1 (-1) ψ ψ ψ ψ;rw[show x+-1=x-1 by omega]at a1 a2;rw[show y+-1=y-1 by omega]at a2 a3 a4;rw[Fcd]at a1 a3;rw[hA x y ho,if_pos hf];unfold m5;omega
  have loB:∀s:Nat,s<=127->∀x y,sqP g f s x y->(s:Int)<B x y:=by
   intro s;induction s with
   |zero=>
    intro hs x y h;obtain⟨ho,hf⟩:=sq_zero.1 h;rw[hB x y ho];have a1:=pB (x+1) y;have a2:=pB (x+1) (y+1);have a3:=pB x (y+1);have a4:=pB (x-1) (y+1);have a5:=loA 0 hs x y h;unfold m5;omega
   |succ s ih=>
    intro hs x y h;have h2:=sq_succ.1 h;have nb:=λ(a b:Int) h3 h4 h5 h6=>ih θ _ _ (h2 a b h3 h4 h5 h6).2;obtain⟨ho,hf⟩:=sq_zero.1 (tz (Fae _) h);have a1:=nb 1 0 ψ ψ ψ ψ;have a2:=nb 1 1 ψ ψ ψ ψ;have a3:=nb 0 1 ψ ψ ψ ψ;have a4:=nb (-1) 1 ψ ψ ψ ψ;rw[show x+-1=x-1 by omega]at a4;rw[Fcd]at a1 a3;have a5:=loA (s+1) hs x y h;rw[hB x y ho];unfold m5;omega
  exact loB s hs x y
end
section
variable {g:Gnd} {x y j i:Int}
theorem zei{p q:Nat->Bool}{m:Nat}(hp:∀t,p t=true->t<m):∀{N:Nat},m<N->(∀t,t<N->(q t=true↔p t=true\/t=m))->(List.range N).filter q=(List.range N).filter p++[m]
 |0,h,_=>absurd h (Fa2 m)
 |N+1,h,hq=>by
  rw[Fc7,Fb5,Fb5];have hpN:p N=false:=Bool.eq_false_iff.2 λhh=>by have:=hp N hh;omega
  by_cases e:m=N
  ·subst e;have h1:(List.range m).filter q=(List.range m).filter p:=List.filter_congr λt ht=>by
    have ht:=Fbf.1 ht;have:=hq t θ;rw[Fcv,this];exact⟨λh=>h.resolve_right θ,.inl⟩
   have h2:q m=true:=(hq m θ).2 (.inr rfl);rw[h1];simp[hpN,h2]
  ·have h2:q N=false:=Bool.eq_false_iff.2 λhh=>by
    rcases(hq N θ).1 hh with h|h
    ·rw[hpN]at h;cases h
    ·omega
   rw[zei hp θ (λt ht=>hq t θ)];simp[hpN,h2]
def mv{p q:Nat->Bool}{N:Nat}(h:∀t,t<N->(q t=true↔p t=true)):(List.range N).filter q=(List.range N).filter p:=
 List.filter_congr λt ht=>by rw[Fcv];exact h t (Fbf.1 ht)
def zvz{α:Type}(L:List α)(a:α)(n:Nat):(L++[a]).take n=if L.length<n then L.take n++[a]else L.take n:=by
 split
 ·rw[Fcm χ,Fcm θ]
 ·rw[Fcf θ]
def sx{α:Type}(L:List α)(n:Nat):(L.take n).length<n↔L.length<n:=θu
def qi(l:List Nat):List Int:=l.map λ(t:Nat)=>(t:Int)
theorem zb8(a b:List Nat):qi (a++b)=qi a++qi b:=Faz
def F9(i j:Int):Int:=max (max i (-i)) (max j (-j))
def Ov(g:Gnd)(x y k d:Int)(t:Nat):Bool:=decide (F9 ((t:Int)%g.W-x) ((t:Int)/g.W-y)=d/\((t:Int)%g.W-x).tmod k=0/\((t:Int)/g.W-y).tmod k=0)
def Gg(g:Gnd)(x y k d:Int):List Nat:=(List.range g.T.length).filter (Ov g x y k d)
def zgl(g:Gnd)(x y j i:Int)(t:Nat):Bool:=decide ((t:Int)/g.W<y+j\/((t:Int)/g.W=y+j/\(t:Int)%g.W<x+i))
def Bq(g:Gnd)(x y k d j i:Int):List Nat:=(List.range g.T.length).filter λt=>Ov g x y k d t&&zgl g x y j i t
def Su{k d:Int}{t:Nat}(h:Ov g x y k d t=true):(x-d<=(t:Int)%g.W/\(t:Int)%g.W<=x+d)/\(y-d<=(t:Int)/g.W/\(t:Int)/g.W<=y+d):=by have:=(of_decide_eq_true h).1;unfold F9 at this;omega
theorem yca(g:Gnd)(x y k d:Int):Bq g x y k d (-d) (-d)=[]:=by unfold Bq;rw[List.filter_eq_nil_iff];intro t _ hh;obtain⟨h1,h2⟩:=(Fbq).1 hh;have:=Su h1;have:=of_decide_eq_true h2;omega
theorem ycb(g:Gnd)(x y k d j:Int):Bq g x y k d j (d+1)=Bq g x y k d (j+1) (-d):=mv λt ht=>by
 rw[Fbq,Fbq];refine⟨λ⟨h1,h2⟩=>⟨h1,?_⟩,λ⟨h1,h2⟩=>⟨h1,?_⟩⟩
 ·have:=Su h1;have:=of_decide_eq_true h2;exact decide_eq_true θ
 ·have:=Su h1;have:=of_decide_eq_true h2;exact decide_eq_true θ
theorem yce(g:Gnd)(x y k d:Int):Bq g x y k d (d+1) (-d)=Gg g x y k d:=mv λt ht=>by rw[Fbq];refine⟨λh=>h.1,λh1=>⟨h1,?_⟩⟩;have:=Su h1;exact decide_eq_true θ
theorem yb9(hg:zv g){k d:Int}(ho:onG g (x+i) (y+j))(hd:F9 i j=d)(hi:i.tmod k=0)(hj:j.tmod k=0):Bq g x y k d j (i+1)=Bq g x y k d j i++[tl g (x+i) (y+j)]:=by
 obtain⟨e1,e2,e3,e4⟩:=Dr hg ho;have hW:1<=g.W:=hg.1.1;refine zei (m:=tl g (x+i) (y+j)) (λt hh=>?_) e2 (λt ht=>?_)
 ·obtain⟨h1,h2⟩:=(Fbq).1 hh;have h2:=of_decide_eq_true h2;have e5:=Fd7 (t:Int) g.W;rcases h2 with h2|⟨h2,h3⟩
  ·have b1:=Fdd (t:Int) (show 0<g.W by omega);have:g.W*((t:Int)/g.W+1)<=g.W*(y+j):=Fda θ θ;rw[Fee,Int.mul_one]at this;have:=ho.1.1;omega
  ·rw[h2]at e5;omega
 ·rw[Fbq,Fbq];constructor
  ·rintro⟨h1,h2⟩;have h2:=of_decide_eq_true h2;by_cases h3:(t:Int)/g.W=y+j/\(t:Int)%g.W=x+i
   ·right;have:=(Vn hg ht).2;rw[h3.1,h3.2]at this;exact this.symm
   ·exact .inl ⟨h1,decide_eq_true θ⟩
  ·rintro(⟨h1,h2⟩|rfl)
   ·have h2:=of_decide_eq_true h2;exact⟨h1,decide_eq_true θ⟩
   ·refine⟨decide_eq_true ?_,decide_eq_true ?_⟩
    ·rw[e3,e4,show x+i-x=i by omega,show y+j-y=j by omega];exact⟨hd,hi,hj⟩
    ·rw[e3,e4];omega
theorem ycc(hg:zv g){k d:Int}(hn:¬(F9 i j=d/\i.tmod k=0/\j.tmod k=0/\onG g (x+i) (y+j))):Bq g x y k d j (i+1)=Bq g x y k d j i:=mv λt ht=>by
 rw[Fbq,Fbq];refine⟨λ⟨h1,h2⟩=>⟨h1,?_⟩,λ⟨h1,h2⟩=>⟨h1,?_⟩⟩
 ·have h2:=of_decide_eq_true h2;refine decide_eq_true ?_;by_cases h3:(t:Int)/g.W=y+j/\(t:Int)%g.W=x+i
  ·exfalso;obtain⟨q1,q2,q3⟩:=of_decide_eq_true h1;rw[h3.1,h3.2,show x+i-x=i by omega,show y+j-y=j by omega]at q1;rw[h3.2,show x+i-x=i by omega]at q2;rw[h3.1,show y+j-y=j by omega]at q3;have:=(Vn hg ht).1;rw[h3.1,h3.2]at this;exact hn ⟨q1,q2,q3,this⟩
  ·omega
 ·have h2:=of_decide_eq_true h2;exact decide_eq_true θ
def Cd(g:Gnd)(f:Nat->Bool)(x y k d:Int):List Nat:=(Gg g x y k d).filter f
def vf(g:Gnd)(f:Nat->Bool)(x y k:Int):Nat->List Nat
 |0=>[]
 |d+1=>vf g f x y k d++Cd g f x y k d
def Mg(g:Gnd)(f:Nat->Bool)(size goal:Int)(n:Nat):List Nat:=(vf g f (goal%g.W) (goal/g.W) (2*size+1) (g.W+g.H+1).toNat).take n
def uj(g:Gnd)(f:Nat->Bool)(x y k:Int)(d:Nat):∀e:Nat,∃m,vf g f x y k (d+e)=vf g f x y k d++m
 |0=>⟨[],φ⟩
 |e+1=>by obtain⟨m,hm⟩:=uj g f x y k d e;exact⟨m++Cd g f x y k ((d+e:Nat):Int),by rw[<-Fat,<-hm];rfl⟩
theorem zww(hg:zv g){f:Nat->Bool}{k d:Int}(hx:0<=x/\x<g.W)(hy:0<=y/\y<g.H)(hd:max g.W g.H<=d):Cd g f x y k d=[]:=by unfold Cd Gg;rw[List.filter_filter,List.filter_eq_nil_iff];intro t ht hh;obtain⟨h1,h2⟩:=(Fbq).1 hh;have h3:=(of_decide_eq_true h2).1;obtain⟨⟨o1,o2⟩,o3,o4⟩:=(Vn hg (Fbf.1 ht)).1;unfold F9 at h3;omega
def zwv{f:Nat->Bool}{k d:Int}(hd:¬k∣d):Cd g f x y k d=[]:=by
 unfold Cd Gg;rw[List.filter_filter,List.filter_eq_nil_iff];intro t ht hh;obtain⟨h1,h2⟩:=(Fbq).1 hh;obtain⟨h3,h4,h5⟩:=of_decide_eq_true h2;have h4:=Int.dvd_of_tmod_eq_zero h4;have h5:=Int.dvd_of_tmod_eq_zero h5;refine hd ?_;rw[<-h3];unfold F9;generalize(t:Int)%g.W-x=a at*;generalize(t:Int)/g.W-y=b at*;have ha:=(Int.dvd_neg (a:=k) (b:=a)).2 h4;have hb:=(Int.dvd_neg (a:=k) (b:=b)).2 h5;have mx:∀u v:Int,k∣u->k∣v->k∣max u v:=λu v h1 h2=>by
  by_cases h:u<=v
  ·rw[Int.max_eq_right h];exact h2
  ·rw[Int.max_eq_left θ];exact h1
 exact mx _ _ (mx _ _ h4 ha) (mx _ _ h5 hb)
def zwu{f:Nat->Bool}{k d:Nat}(hk:0<k)(hd:k∣d):vf g f x y k (d+k)=vf g f x y k d++Cd g f x y k d:=by
 have:∀e:Nat,e<k->vf g f x y k (d+(e+1))=vf g f x y k d++Cd g f x y k d:=by
  intro e;induction e with
  |zero=>intro _;rfl
  |succ e ih=>
   intro he;have h1:=ih θ;have h2:Cd g f x y k ((d+(e+1):Nat):Int)=[]:=zwv λhh=>by
    have hh:k∣d+(e+1):=by exact_mod_cast hh
    have:=(Nat.dvd_add_right hd).1 hh;have:=Nat.le_of_dvd θ this;omega
   show vf g f x y k (d+(e+1))++Cd g f x y k ((d+(e+1):Nat):Int)=_;rw[h1,h2,Fbh]
 have:=this (k-1) θ;rw[show k-1+1=k by omega]at this;exact this
def zws(hg:zv g){f:Nat->Bool}{size goal:Int}(hgl:0<=goal/\goal<g.W*g.H){d n:Nat}(h:n<=(vf g f (goal%g.W) (goal/g.W) (2*size+1) d).length\/max g.W g.H<=(d:Int)):
  (vf g f (goal%g.W) (goal/g.W) (2*size+1) d).take n=Mg g f size goal n:=by
 have hW:1<=g.W/\g.W<=128:=hg.1;have hH:1<=g.H/\g.H<=128:=hg.2.1;have hx:0<=goal%g.W/\goal%g.W<g.W:=⟨Fdy _ θ,Fdd _ θ⟩
 have hy:0<=goal/g.W/\goal/g.W<g.H:=⟨Fcu hgl.1 θ,Fd8 θ (by rw[Int.mul_comm];exact hgl.2)⟩
 unfold Mg;generalize goal%g.W=x at*;generalize goal/g.W=y at*;generalize 2*size+1=k at*;generalize hm:(g.W+g.H+1).toNat=m at*;have hmI:(m:Int)=g.W+g.H+1:=θ
 -- from where nothing comes any more
 have flat:∀c:Nat,max g.W g.H<=(c:Int)->∀e:Nat,vf g f x y k (c+e)=vf g f x y k c:=λc hc e=>by
  induction e with
  |zero=>rfl
  |succ e ih=>
   show vf g f x y k (c+e)++Cd g f x y k ((c+e:Nat):Int)=_;rw[ih,zww hg hx hy θ,Fbh]
 rcases h with h|h
 ·by_cases hdm:d<=m
  ·obtain⟨r,hr⟩:=uj g f x y k d (m-d);rw[show d+(m-d)=m by omega]at hr;rw[hr,Fcf h]
  ·have:=flat m θ (d-m);rw[show m+(d-m)=d by omega]at this;rw[this]
 ·by_cases hdm:d<=m
  ·have:=flat d h (m-d);rw[show d+(m-d)=m by omega]at this;rw[this]
  ·have:=flat m θ (d-m);rw[show m+(d-m)=d by omega]at this;rw[this]
end
section
variable {n t:Nat} {g:Gnd}
def il(n:Nat)(f:Nat->Int):List AV:=(List.range n).map λt=>int (f t)
theorem xz(n:Nat)(f:Nat->Int):(il n f).length=n:=by simp[il]
theorem Fz{f:Nat->Int}(h:t<n):(il n f)[t]?=some (int (f t)):=by simp[il,h]
def Ck{f:Nat->Int}(h:t<n):((il n f).drop (0+t*1)).head?=some (int (f t)):=by rw[Fch,show 0+t*1=t by omega,Fz h]
def zgg{f:Nat->Bool}(h:t<n):((bl n f).drop (0+t*1)).head?=some (bool (f t)):=by rw[Fch,show 0+t*1=t by omega,I2 h]
theorem zdn(n:Nat):List.replicate n (AV.s (.int .i64 0))=il n λ_=>0:=by unfold il;rw[List.map_const',Fcn];rfl
def setI(f:Nat->Int)(t:Nat)(v:Int):Nat->Int:=λs=>if s=t then v else f s
theorem Ot(f:Nat->Int)(t:Nat)(v:Int):setI f t v t=v:=if_pos rfl
theorem Mh(f:Nat->Int){s:Nat}(v:Int)(h:s≠t):setI f t v s=f s:=if_neg h
theorem zw7(f:Nat->Int)(t:Nat):setI f t (f t)=f:=funext λs=>by
 unfold setI;split
 ·rename_i h;rw[h]
 ·rfl
theorem ff(f:Nat->Int)(t:Nat)(v u:Int):setI (setI f t v) t u=setI f t u:=funext λs=>by unfold setI;split<;>simp_all
theorem zdo{f:Nat->Int}(h:t<n)(g:Nat->Int)(hg:∀s,s≠t->g s=f s):zq (il n f) t [int (g t)]=il n g:=by
 unfold zq;apply Fb8;intro s;by_cases h1:s<t
 ·rw[Fat,Fa3 (by rw[Fah,xz];omega),Fca h1,Fz θ,Fz θ,hg s θ]
 ·by_cases h2:s=t
  ·subst h2;rw[Fat,Fa6 (by rw[Fah,xz];omega),Fah,xz,show s-min s n=0 by omega,Fz h];rfl
  ·rw[Fa6 (by rw[Fab,Fah,xz];simp;omega),Fab,Fah,xz,Fbw];by_cases h3:s<n
   ·have e:t+[int (g t)].length+(s-(min t n+[int (g t)].length))=s:=χ;rw[e,Fz h3,Fz h3,hg s h2]
   ·rw[Fbl (by rw[xz];simp;omega),Fbl θd]
theorem Ip{f:Nat->Int}(h:t<n)(v:Int):zq (il n f) t [int v]=il n (setI f t v):=by have:=zdo h (setI f t v) (λs hs=>Mh f v hs);rw[Ot]at this;exact this
def ilL(n:Nat)(f:Nat->Int):List Int:=(List.range n).map f
theorem Wh(n:Nat)(f:Nat->Int):(ilL n f).length=n:=by simp[ilL]
theorem yib{f:Nat->Int}(h:t<n):(ilL n f)[t]'(by rw[Wh];exact h)=f t:=by simp[ilL]
theorem yh9(n:Nat)(f:Nat->Int):(rws zn (ilL n f)).flatten=il n f:=by
 unfold rws ilL il;rw[Fdh];generalize List.range n=l;induction l with
 |nil=>rfl
 |cons a l ih=>simp only[Fcb,Fd2,ih];rfl
theorem Pk{f g:Nat->Int}(h:∀t,t<n->f t=g t):il n f=il n g:=Fbx λt ht=>by rw[h t (Fbf.1 ht)]
theorem yn3{f g:Nat->Bool}(h:∀t,t<n->f t=g t):bl n f=bl n g:=Fbx λt ht=>by rw[h t (Fbf.1 ht)]
def gv(g:Gnd)(f:Nat->Int)(x y:Int):Int:=if onG g x y then f (tl g x y)else 0
def wz(g:Gnd)(f:Nat->Int)(x y:Int)(v:Int)(ws:List (Int×Int)):Int:=ws.foldl (λv d=>min v (gv g f (x+d.1) (y+d.2)+1)) v
def zdu(hg:zv g){f:Nat->Int}(hf:∀t,t<g.T.length->0<=f t/\f t<=128)(x y:Int):0<=gv g f x y/\gv g f x y<=128:=by
 unfold gv;split
 ·rename_i h;exact hf _ (Dr hg h).2.1
 ·omega
def gn(hg:zv g){f:Nat->Int}(hf:∀t,t<g.T.length->0<=f t/\f t<=128)(x y:Int):∀(ws:List (Int×Int)) (v:Int),0<=v/\v<=128->0<=wz g f x y v ws/\wz g f x y v ws<=128
 |[],v,hv=>hv
 |d::r,v,hv=>by have:=zdu hg hf (x+d.1) (y+d.2);exact gn hg hf x y r (min v (gv g f (x+d.1) (y+d.2)+1)) θ
def yd0(g:Gnd)(f:Nat->Int)(x y v:Int)(ws:List (Int×Int)){i:Nat}(hi:i<ws.length):wz g f x y v (ws.take (i+1))=min (wz g f x y v (ws.take i)) (gv g f (x+ws[i].1) (y+ws[i].2)+1):=by unfold wz;rw[Fad hi,Fcp];rfl
def zw8{f:Nat->Int}(hf:∀t,t<n->0<=f t/\f t<=128){v:Int}(hv:0<=v/\v<=128):∀s,s<n->0<=setI f t v s/\setI f t v s<=128:=λs hs=>by
 unfold setI;split
 ·exact hv
 ·exact hf s hs
def yit(hg:zv g)(f:Nat->Int)(v:Int){dx dy:Int}(hd:dx≠0\/dy≠0):gv g (setI f t v) ((t:Int)%g.W+dx) ((t:Int)/g.W+dy)=gv g f ((t:Int)%g.W+dx) ((t:Int)/g.W+dy):=by
 unfold gv;split
 ·rename_i h;obtain⟨_,_,h3,h4⟩:=Dr hg h;refine Mh f v λe=>?_;rw[e]at h3 h4;omega
 ·rfl
def M8:List (Int×Int):=[(-1,0),(-1,-1),(0,-1),(1,-1)]
def Lr:List (Int×Int):=[(1,0),(1,1),(0,1),(-1,1)]
def I7(d:Int×Int):List AV:=[int d.1,int d.2]
def Md(g:Gnd)(f:Nat->Int)(ws:List (Int×Int))(t:Nat):Nat->Int:=setI f t (wz g f ((t:Int)%g.W) ((t:Int)/g.W) (f t) ws)
def wu(g:Gnd)(f:Nat->Int):Nat->Nat->Int
 |0=>f
 |i+1=>Md g (wu g f i) M8 i
def Cc(g:Gnd)(f:Nat->Int)(n:Nat):Nat->Nat->Int
 |0=>f
 |j+1=>Md g (Cc g f n j) Lr (n-1-j)
def ta(hg:zv g){f:Nat->Int}(hf:∀t,t<g.T.length->0<=f t/\f t<=128){ws:List (Int×Int)}(ht:t<g.T.length):∀s,s<g.T.length->0<=Md g f ws t s/\Md g f ws t s<=128:=
 zw8 hf (gn hg hf _ _ _ _ (hf t ht))
def ef(hg:zv g){f:Nat->Int}(hf:∀t,t<g.T.length->0<=f t/\f t<=128):∀i,i<=g.T.length->∀s,s<g.T.length->0<=wu g f i s/\wu g f i s<=128
 |0,_=>hf
 |i+1,hi=>ta hg (ef hg hf i θ) θ
def tc(hg:zv g){f:Nat->Int}(hf:∀t,t<g.T.length->0<=f t/\f t<=128):∀i,i<=g.T.length->∀s,s<g.T.length->0<=Cc g f g.T.length i s/\Cc g f g.T.length i s<=128
 |0,_=>hf
 |i+1,hi=>ta hg (tc hg hf i θ) θ
theorem td(g:Gnd)(f:Nat->Int):∀i s,i<=s->wu g f i s=f s
 |0,_,_=>rfl
 |i+1,s,h=>by show setI _ i _ s=_;rw[Mh _ _ θ,td g f i s θ]
theorem R9(g:Gnd)(f:Nat->Int):∀i s,s<i->wu g f i s=wu g f (s+1) s
 |0,_,h=>absurd h (Fa2 _)
 |i+1,s,h=>by
  by_cases e:s=i
  ·subst e;rfl
  ·show setI _ i _ s=_;rw[Mh _ _ e,R9 g f i s θ]
theorem tb(g:Gnd)(f:Nat->Int)(n:Nat):∀j s,s+j<n->Cc g f n j s=f s
 |0,_,_=>rfl
 |j+1,s,h=>by show setI _ (n-1-j) _ s=_;rw[Mh _ _ θ,tb g f n j s θ]
theorem R8(g:Gnd)(f:Nat->Int)(n:Nat):∀j s,s<n->j<=n->n<=s+j->Cc g f n j s=Cc g f n (n-1-s+1) s
 |0,s,h,_,h2=>absurd h2 θ
 |j+1,s,h,h1,h2=>by
  by_cases e:s=n-1-j
  ·have:j+1=n-1-s+1:=θ;rw[this]
  ·show setI _ (n-1-j) _ s=_;rw[Mh _ _ e,R8 g f n j s h θ θ]
theorem yd2(g:Gnd)(f:Nat->Int)(x y v:Int):wz g f x y v M8=m5 v (gv g f (x-1) y) (gv g f (x-1) (y-1)) (gv g f x (y-1)) (gv g f (x+1) (y-1)):=by unfold wz M8 m5;simp only[Fct,List.foldl_nil,Fcd,<-Fdx]
theorem yd1(g:Gnd)(f:Nat->Int)(x y v:Int):wz g f x y v Lr=m5 v (gv g f (x+1) y) (gv g f (x+1) (y+1)) (gv g f x (y+1)) (gv g f (x-1) (y+1)):=by unfold wz Lr m5;simp only[Fct,List.foldl_nil,Fcd,<-Fdx]
def Fo(g:Gnd)(o:Nat->Bool):Nat->Int:=Cc g (wu g (λt=>if o t then 128 else 0) g.T.length) g.T.length g.T.length
theorem yb4(hg:zv g)(o:Nat->Bool)(ht:t<g.T.length)(s:Nat)(hs:s<=127):(s:Int)<Fo g o t↔sqP g o s ((t:Int)%g.W) ((t:Int)/g.W):=by
 have hW:1<=g.W:=hg.1.1;obtain⟨ho,he⟩:=Vn hg ht
 have key:=ynf (g:=g) (f:=o) (A:=gv g (wu g (λt=>if o t then 128 else 0) g.T.length)) (B:=gv g (Fo g o))
  (λx y h=>if_neg h) (λx y h=>if_neg h) (λx y h=>?_) (λx y h=>?_) ho s hs
 ·rw[<-key];unfold gv;rw[if_pos ho,he]
 ·obtain⟨e1,e2,e3,e4⟩:=Dr hg h;have nb:∀dx dy:Int,(dy=-1\/dy=0/\dx=-1)->dx<=1->gv g (wu g (λt=>if o t then 128 else 0) (tl g x y)) (x+dx) (y+dy)=gv g (wu g (λt=>if o t then 128 else 0) g.T.length) (x+dx) (y+dy):=λdx dy hd hx=>by
   unfold gv;split
   ·rename_i h2;obtain⟨f1,f2,f3,f4⟩:=Dr hg h2;have hlt:tl g (x+dx) (y+dy)<tl g x y:=by
     have hb:=h.1;have hb2:=h2.1;rcases hd with rfl|⟨rfl,rfl⟩
     ·have:g.W*(y+-1)=g.W*y-g.W:=by rw[Fee];omega
      rw[this]at f1;have hne:(tl g (x+dx) (y+-1):Int)≠tl g x y:=λe=>by rw[e,e4]at f4;omega
      omega
     ·rw[Fcd]at f1⊢;omega
    rw[R9 g _ _ _ hlt,R9 g _ _ _ f2]
   ·rfl
  have h1:gv g (wu g (λt=>if o t then 128 else 0) g.T.length) x y=wz g (wu g (λt=>if o t then 128 else 0) (tl g x y)) x y (if o (tl g x y)then 128 else 0) M8:=by unfold gv;rw[if_pos h,R9 g _ _ _ e2];show setI _ _ _ _=_;rw[Ot,e3,e4,td g _ _ _ (Fai _)]
  rw[h1,yd2];have n1:=nb (-1) 0 θ ψ;have n2:=nb (-1) (-1) θ ψ;have n3:=nb 0 (-1) θ ψ;have n4:=nb 1 (-1) θ ψ;rw[Fcd]at n1 n3;rw[<-Fdx]at n1 n2 n3 n4;rw[<-Fdx]at n2;rw[n1,n2,n3,n4]
 ·obtain⟨e1,e2,e3,e4⟩:=Dr hg h;have hj:g.T.length-1-(g.T.length-1-tl g x y)=tl g x y:=θ;unfold Fo;generalize hF:wu g (λt=>if o t then 128 else 0) g.T.length=F;have nb:∀dx dy:Int,(dy=1\/dy=0/\dx=1)->-1<=dx->gv g (Cc g F g.T.length (g.T.length-1-tl g x y)) (x+dx) (y+dy)=gv g (Cc g F g.T.length g.T.length) (x+dx) (y+dy):=λdx dy hd hx=>by
   unfold gv;split
   ·rename_i h2;obtain⟨f1,f2,f3,f4⟩:=Dr hg h2;have hlt:tl g x y<tl g (x+dx) (y+dy):=by
     have hb:=h.1;have hb2:=h2.1;rcases hd with rfl|⟨rfl,rfl⟩
     ·have:g.W*(y+1)=g.W*y+g.W:=by rw[Fee];omega
      rw[this]at f1;have hne:(tl g (x+dx) (y+1):Int)≠tl g x y:=λe=>by rw[e,e4]at f4;omega
      omega
     ·rw[Fcd]at f1⊢;omega
    rw[R8 g _ _ _ _ f2 θ θ,R8 g _ _ _ _ f2 (Fai _) θ]
   ·rfl
  have h1:gv g (Cc g F g.T.length g.T.length) x y=wz g (Cc g F g.T.length (g.T.length-1-tl g x y)) x y (gv g F x y) Lr:=by unfold gv;rw[if_pos h,if_pos h,R8 g _ _ _ _ e2 (Fai _) θ];show setI _ _ _ _=_;rw[hj,Ot,e3,e4,tb g _ _ _ _ θ]
  rw[h1,yd1];have n1:=nb 1 0 θ ψ;have n2:=nb 1 1 θ ψ;have n3:=nb 0 1 θ ψ;have n4:=nb (-1) 1 θ ψ;rw[Fcd]at n1 n3;rw[<-Fdx]at n4;rw[n1,n2,n3,n4]
def sqB(g:Gnd)(f:Nat->Bool)(s:Nat)(x y:Int):Bool:=(List.range (2*s+1)).all λa=>(List.range (2*s+1)).all λb=>decide (onG g (x-s+a) (y-s+b))&&f (tl g (x-s+a) (y-s+b))
theorem zwi{f:Nat->Bool}{s:Nat}{x y:Int}:sqB g f s x y=true↔sqP g f s x y:=by
 unfold sqB;rw[Fcy];constructor
 ·intro h a b h1 h2 h3 h4;have h5:=h (a+s).toNat (Fbf.2 θ);rw[Fcy]at h5;have h6:=h5 (b+s).toNat (Fbf.2 θ);rw[show x-s+((a+s).toNat:Int)=x+a by omega,show y-s+((b+s).toNat:Int)=y+b by omega,Fbq]at h6;exact⟨of_decide_eq_true h6.1,h6.2⟩
 ·intro h a ha;have ha:=Fbf.1 ha;rw[Fcy];intro b hb;have hb:=Fbf.1 hb;have:=h (a-s) (b-s) θ θ θ θ;rw[show x-s+(a:Int)=x+(a-s) by omega,show y-s+(b:Int)=y+(b-s) by omega,Fbq];exact⟨decide_eq_true this.1,this.2⟩
def ya(g:Gnd)(l:List Bld)(c s:Int)(t:Nat):Bool:=sqB g (yy g l c) s.toNat ((t:Int)%g.W) ((t:Int)/g.W)
theorem yi0(hg:zv g)(l:List Bld)(c:Int){s:Int}(hs:0<=s/\s<=3)(ht:t<g.T.length):decide (s<Fo g (yy g l c) t)=ya g l c s t:=by rw[Fcv,decide_eq_true_iff];unfold ya;rw[zwi,<-yb4 hg _ ht _ θ];omega
def zdz(g:Gnd)(l:List Bld)(c s:Int):AV:=lst 1 qu (blL g.T.length (ya g l c s))
end
def dirL:List (Int×Int):=[(0,-1),(1,0),(0,1),(-1,0),(1,-1),(1,1),(-1,1),(-1,-1)]
def K3(g:Gnd)(x y:Int)(d:Int×Int):Int:=if onG g (x+d.1) (y+d.2)then x+d.1+g.W*(y+d.2)else -1
def Gq(g:Gnd)(t:Nat):List Int:=dirL.map (K3 g ((t:Int)%g.W) ((t:Int)/g.W))
theorem Vs(g:Gnd)(t:Nat):(Gq g t).length=8:=by simp[Gq,dirL]
def yfg{g:Gnd}(hg:zv g)(x y:Int)(d:Int×Int):K3 g x y d=-1/\¬onG g (x+d.1) (y+d.2)\/onG g (x+d.1) (y+d.2)/\K3 g x y d=(tl g (x+d.1) (y+d.2):Nat)/\tl g (x+d.1) (y+d.2)<g.T.length:=by
 unfold K3;split
 ·rename_i h;exact .inr ⟨h,(Dr hg h).1.symm,(Dr hg h).2.1⟩
 ·rename_i h;exact .inl ⟨rfl,h⟩
def yff{g:Gnd}(hg:zv g){t:Nat}{u:Int}(h:u∈Gq g t):u=-1\/∃m:Nat,u=m/\m<g.T.length:=by
 unfold Gq at h;obtain⟨d,_,rfl⟩:=Fag.1 h;rcases yfg hg ((t:Int)%g.W) ((t:Int)/g.W) d with⟨q1,_⟩|⟨_,q2,q3⟩
 ·exact .inl q1
 ·exact .inr ⟨_,q2,q3⟩
section
variable {g:Gnd} {c:Int} {t way goal:Nat}
def yn(g:Gnd)(t way:Nat):Int:=(Gq g t).getD way (-1)
def F6(g:Gnd)(c:Int)(t:Nat):Int:=Dt c (g.T.getD t 5).toNat
def vk(ok:Nat->Bool)(u:Int):Bool:=decide (0<=u)&&ok u.toNat
def Kk(way:Nat):Nat:=way-4
def Kj(way:Nat):Nat:=(way-3)%4
def xg(g:Gnd)(ok:Nat->Bool)(c:Int)(t way:Nat):Int:=
 if vk ok (yn g t way)then
  (if way<4 then 5*(F6 g c t+F6 g c (yn g t way).toNat)
   else if vk ok (yn g t (Kk way))/\vk ok (yn g t (Kj way))then 7*(F6 g c t+F6 g c (yn g t way).toNat)else 0)
 else 0
def Bk(g:Gnd)(ok:Nat->Bool)(c:Int)(t u:Nat)(k:Int):Prop:=ok t=true/\t<g.T.length/\∃way,way<8/\yn g t way=(u:Int)/\ok u=true/\k=xg g ok c t way/\0<k
def W4{ok:Nat->Bool}:∀t u k,Bk g ok c t u k->0<k:=λt u k h=>by obtain⟨_,_,w,_,_,_,_,h⟩:=h;exact h
def bz(hg:zv g)(hw:way<8):yn g t way=-1\/∃u:Nat,yn g t way=u/\u<g.T.length:=by
 unfold yn;have h8:way<(Gq g t).length:=by rw[Vs];exact hw
 rw[Fap,Fac h8];exact yff hg (Faa h8)
def mj{ok:Nat->Bool}{u:Int}(h:vk ok u=true):0<=u/\ok u.toNat=true:=by unfold vk at h;simpa using h
def eo{ok:Nat->Bool}(h:xg g ok c t way≠0):vk ok (yn g t way)=true:=by
 unfold xg at h;split at h
 ·assumption
 ·exact absurd rfl h
def ylh{ok:Nat->Bool}(ht:ok t=true)(htl:t<g.T.length)(hw:way<8)(h:0<xg g ok c t way):Bk g ok c t (yn g t way).toNat (xg g ok c t way):=by obtain⟨h1,h2⟩:=mj (eo (g:=g) (ok:=ok) (c:=c) (t:=t) (way:=way) θ);exact⟨ht,htl,way,hw,θ,h2,rfl,h⟩
def Vh(c:Int)(t:Nat):0<=Dt c t/\Dt c t<=6:=by
 have h:∀l∈[[2,1,3,5,0,0],[2,1,6,0,0,0],[2,1,0,3,2,0]],∀t:Nat,0<=(l:List Int).getD t 0/\(l:List Int).getD t 0<=6:=by
  intro l hl t;simp only[Fax,Fb4,or_false]at hl;by_cases h6:t<6
  ·have:t=0\/t=1\/t=2\/t=3\/t=4\/t=5:=θ;rcases hl with rfl|rfl|rfl<;>rcases this with rfl|rfl|rfl|rfl|rfl|rfl<;>decide
  ·rcases hl with rfl|rfl|rfl<;>(rw[Fap,Fbl χ];decide)
 unfold Dt;split
 ·exact h _ φ t
 ·split
  ·exact h _ φ t
  ·exact h _ φ t
def ti(g:Gnd)(ok:Nat->Bool)(c:Int)(t way:Nat):0<=xg g ok c t way/\xg g ok c t way<=84:=by
 have h1:=Vh c (g.T.getD t 5).toNat;have h2:=Vh c (g.T.getD (yn g t way).toNat 5).toNat;unfold xg F6;split
 ·split
  ·omega
  ·split<;>omega
 ·omega
open Classical in
noncomputable def wi(g:Gnd)(ok:Nat->Bool)(c:Int)(goal:Nat):Nat->Int:=
 if ok goal=true then(if h:∃d,FarOK (Bk g ok c) goal d then h.choose else λ_=>-1)else λ_=>-1
def ykt{ok:Nat->Bool}(hok:ok goal=true){d:Nat->Int}(h:FarOK (Bk g ok c) goal d):wi g ok c goal=d:=by
 unfold wi;rw[if_pos hok];have hx:∃d,FarOK (Bk g ok c) goal d:=⟨d,h⟩
 rw[dif_pos hx];exact ykr W4 hx.choose_spec h
theorem yks{ok:Nat->Bool}(hok:ok goal=false):wi g ok c goal=λ_=>-1:=by unfold wi;rw[if_neg (by simp[hok])]
noncomputable def je(g:Gnd)(ok:Nat->Bool)(c:Int)(d:Nat->Int)(t:Nat):Int:=
 if d t<=0 then -1 else match(List.range 8).find? λway=>decide (0<xg g ok c t way/\0<=d (yn g t way).toNat/\xg g ok c t way+d (yn g t way).toNat=d t)with
  |some way=>(way:Int)
  |none=>-1
end
section
variable {id P:Int} {i:Nat} {w:Wld}
def allE(f:Int->Int):List Int->Int
 |[]=>0
 |a::l=>if f a=0 then allE f l else f a
def po{f:Int->Int}:∀{l:List Int},(∀j,(h:j<l.length)->f l[j]=0)->allE f l=0
 |[],_=>rfl
 |a::l,h=>by have h0:=h 0 φ;simp only[Fby]at h0;unfold allE;rw[if_pos h0];exact po λj hj=>by have:=h (j+1) χ;simpa using this
def pm{f:Int->Int}:∀{l:List Int} {i:Nat} (hi:i<l.length),(∀j,(h:j<l.length)->j<i->f l[j]=0)->f l[i]≠0->allE f l=f l[i]
 |[],i,hi,_,_=>absurd hi (Fa2 i)
 |a::l,0,hi,_,h=>by simp_all[allE]
 |a::l,i+1,hi,h,h2=>by have h0:=h 0 φ θ;simp only[Fby]at h0;simp only[List.getElem_cons_succ]at h2⊢;unfold allE;rw[if_pos h0];exact pm (by simpa using hi) (λj hj hji=>by have:=h (j+1) χ θ;simpa using this) h2
def Lz{f:Int->Int}:∀{l:List Int},allE f l=0->∀a∈l,f a=0
 |[],_,a,ha=>by cases ha
 |b::l,h,a,ha=>by
  unfold allE at h;by_cases hb:f b=0
  ·rw[if_pos hb]at h;rcases Fax.1 ha with rfl|ha
   ·exact hb
   ·exact Lz h a ha
  grind
def qp(l:List Unt)(id:Int):Option Nat:=l.findIdx? λu=>decide (u.id=id)
def Cq:Unt:=⟨0,0,0,(0,0),0,0,0,0,0⟩
theorem Ll{l:List Unt}(h:qp l id=some i):∃hi:i<l.length,l[i].id=id:=by unfold qp at h;rw[Fa9]at h;grind
theorem ykm{l:List Unt}(h:qp l id=none):∀u∈l,u.id≠id:=by grind[qp]
theorem Pv{l:List Unt}(hr:yk l)(hi:i<l.length)(e:l[i].id=id):qp l id=some i:=by
 cases h:qp l id with
 |none=>grind[ykm]
 |some k=>
  obtain⟨hk,e2⟩:=Ll h;by_cases h1:k<i
  ·have:=Hk hr h1 hi;omega
  ·by_cases h2:i<k
   ·have:=Hk hr h2 hk;omega
   ·rw[show k=i by omega]
def uAt(w:Wld)(id:Int):Unt:=match qp w.U id with|none=>Cq|some i=>w.U.getD i Cq
def ju(w:Wld)(P id:Int):Int:=match qp w.U id with|none=>3|some i=>if(w.U.getD i Cq).owner=P then(if(w.U.getD i Cq).inn=0 then 0 else 9)else 6
def R0(h:qp w.U id=some i):∃hi:i<w.U.length,w.U[i].id=id/\uAt w id=w.U[i]:=by grind[Ll,uAt]
theorem o9(h:qp w.U id=none):ju w P id=3/\uAt w id=Cq:=by simp_all[ju,uAt]
theorem zgp(h:qp w.U id=some i)(hi:i<w.U.length):ju w P id=if w.U[i].owner=P then(if w.U[i].inn=0 then 0 else 9)else 6:=by grind[ju]
def I4(h:ju w P id=0):∃i,∃hi:i<w.U.length,qp w.U id=some i/\w.U[i].id=id/\uAt w id=w.U[i]/\w.U[i].owner=P/\w.U[i].inn=0:=by
 cases hf:qp w.U id with
 |none=>grind[o9]
 |some i=>
  obtain⟨hi,e,e2⟩:=R0 hf;rw[zgp hf hi]at h;grind
def sd(hn:∀u∈w.U,u.pos.ok)(id:Int):(uAt w id).pos.ok:=by
 cases hf:qp w.U id with
 |none=>rw[(o9 (P:=0) hf).2];trivial
 |some i=>
  obtain⟨hi,e,e2⟩:=R0 hf;grind
def Ge(u:Unt):Unt:={u with goal:=-1,next:=-1,stuck:=0,state:=0}
def qs(l:List Int)(g:Unt->Unt)(U:List Unt):List Unt:=U.map λu=>if u.id∈l then g u else u
theorem Se(g:Unt->Unt)(U:List Unt):qs [] g U=U:=by unfold qs;simp
theorem Cu(l:List Int)(g:Unt->Unt)(U:List Unt):(qs l g U).length=U.length:=by unfold qs;rw[Fam]
theorem Sg{l:List Int}{g:Unt->Unt}{U:List Unt}(hi:i<U.length):(qs l g U)[i]'(by rw[Cu];exact hi)=if U[i].id∈l then g U[i]else U[i]:=by unfold qs;rw[Fb1]
theorem Sf{l:List Int}{g:Unt->Unt}(hg:∀u,(g u).id=u.id){U:List Unt}(hi:i<U.length):((qs l g U)[i]'(by rw[Cu];exact hi)).id=U[i].id:=by grind[Sg]
def fc{l:List Int}{g:Unt->Unt}(hg:∀u,(g u).id=u.id){U:List Unt}(hr:yk U):yk (qs l g U):=by
 intro i hi h0;have hi2:i<U.length:=by rw[Cu]at hi;exact hi
 rw[Sf hg hi2,Sf hg (show i-1<U.length by omega)];exact hr i hi2 h0
theorem uo{l:List Int}{g:Unt->Unt}{U:List Unt}(hr:yk U)(hi:i<U.length):(qs l g U).set i (g U[i])=qs (l++[U[i].id]) g U:=by
 apply Fcx
 ·rw[Fak,Cu,Cu]
 intro j h1 h2;have hj:j<U.length:=by rw[Cu]at h2;exact h2
 rw[Sg hj,Fcl];by_cases e:i=j
 ·grind
 ·rw[if_neg e,Sg hj];have hne:U[j].id≠U[i].id:=by
   by_cases h:i<j
   ·have:=Hk hr h hj;omega
   ·have:=Hk hr (show j<i by omega) hi;omega
  grind
def stW(w:Wld)(c:Cmd):Wld:={w with U:=qs c.U Ge w.U}
def stE(w:Wld)(c:Cmd):Int:=allE (ju w c.P) c.U
theorem Ml{α:Type}{f:α->List AV}{k:Nat}(hf:∀x,(f x).length=k){U:List α}(hi:i<U.length)(x:α)(J:List AV):zq ((rws f U).flatten++J) (i*k) (f x)=(rws f (U.set i x)).flatten++J:=by have:=ew (j:=0) (ys:=f x) (L:=J) (x':=x) hf hi (by rw[hf];omega) (by simp_all[zq]);grind
end
section
variable {P:Program} {c:Cfg} {st:Store}
structure SrcOK(P:Program)(st:Store)(k m:Nat)(x:AV)(xs:List AV):Prop where
  out:∀(Oth M:BB) (w:World) (xv:Value),StoreOK st Oth M w->VRel w (λb o=>M b o\/Oth b o) x xv->
    (Builtin.lenOf xv).run P w=.ok m w/\∃new:Array Value,Reads w (λb o=>M b o\/Oth b o) xs new.toList/\(∀v∈new.toList,qw v=true)/\new.size=m*k/\∀w',w'.heap=w.heap->(Builtin.firstCells k m xv).run P w'=.ok new w'
theorem SrcOK.obj{k m o b cp:Nat}{l:List AV}(ho:st.obj b=some (.cells l))(hl:o+m*k<=l.length)(h1:∀y∈(l.drop o).take (m*k),y.one=true):SrcOK P st k m (.s (.slice (some ⟨b,o,none⟩) m cp)) ((l.drop o).take (m*k)):=by
  refine⟨λOth M w xv sto hxv=>?_⟩;have hxv:=VRel.eq_s hxv;subst hxv;obtain⟨cs,e,fr,hb,_,hlen,hrel⟩:=(sto.obj b _ ho).1;have hreads:Reads w (λb o=>M b o\/Oth b o) ((l.drop o).take (m*k)) ((List.range' 0 (m*k)).map λi=>cs.getD (o+i) undef):=by refine⟨χ,λi x y hx hy=>?_⟩;have hi:i<m*k:=δ;rw[Fca hi,Fbw]at hx;simp[hi]at hy;grind
  refine⟨by simp[Builtin.lenOf],((List.range' 0 (m*k)).map λi=>cs.getD (o+i) undef).toArray,by simpa using hreads,by simpa using zbp hreads h1,φ,λw' hw=>?_⟩;have:=Mk (P:=P) ⟨b,o,none⟩ w' (λi=>cs.getD (o+i) undef) (m*k) 0 #[] (λp hp0 hp=>by rw[vr,l6 hw];simp only[World.cell?,hb];have:o+p<cs.size:=θ;simp[this]);grind[Builtin.firstCells,loadCells]
def Rh{e:TypeId}{ie:TI}(hie:c.I e=some ie){b n cap:Nat}{l:List AV}{x:AV}{m:Nat}{xs:List AV}(ho:st.obj b=some (.cells l))(hcap:cap*ie.size<=l.length)(hn:n<=cap)
    (hx:SrcOK P st ie.size m x xs) (hroom:room (n+m) ie.bytes) {K:Ja}
    (h1:n+m<=cap->K (.s (.slice (some ⟨b,0,none⟩) (n+m) cap)) (st.sO b (.cells (zq l (n*ie.size) xs))))
    (h2:cap<n+m->∀b' cap',Fresh st b'->n+m<=cap'->cap'<=9223372036854775807->K (.s (.slice (some ⟨b',0,none⟩) (n+m) cap')) (st.sO b' (.cells (l.take (n*ie.size)++xs++List.replicate ((cap'-(n+m))*ie.size) .any)))):
    AppX P c st e (.s (.slice (some ⟨b,0,none⟩) n cap)) x K:=by
  refine⟨⟨ie,hie⟩,λie' hie' Oth M w sv xv argTypes ty args t sto hs hxv hat ht1 hu hti h0 h1'=>?_⟩;rw[hie]at hie';cases hie';have hs:=VRel.eq_s hs;subst hs;have A:AppArgs P c argTypes args t e ie (some ⟨b,0,none⟩) n cap xv:=⟨hat,ht1,hu,hti,h0,h1'⟩
  obtain⟨hl1,new,hnew,hone,hnsz,hfc⟩:=hx.out Oth M w xv sto hxv;have hnn:n*ie.size<=l.length:=Fb6 (Fa4 _ hn) hcap;by_cases hc:n+m<=cap
  · obtain⟨⟨cs,e0,fr,hb0,huf,hlen,hrel⟩,hM⟩:=sto.obj b _ ho
    have hfit:n*ie.size+new.toList.length<=cs.size:=by rw[Fcg,hnsz,<-Fcc,<-hlen];exact Fb6 (Fa4 _ hc) hcap
    obtain⟨w',hw1,hw2⟩:=Ig (P:=P) w b (n*ie.size) new.toList 0 w cs e0 fr hb0 (.inl huf) hfit hone;have hrun:=Lv (w':=w') ty A hl1 (hfc w rfl) hc (λa ha=>by cases ha;rw[vr,Fba];exact hw1) (λh=>ω);obtain⟨k1,k2⟩:=Bm sto ho hnew hw2;exact⟨_,_,hrun,_,_,M,h1 hc,.s _,k1,k2⟩
  · have hc:cap<n+m:=θ
    obtain⟨old,hold1,hold2,hold3⟩:=mo (P:=P) (cap:=cap) (sto.obj b _ ho).1 hnn;obtain⟨newCap,rest,g1,g0,g2,g3⟩:=Lw ty A hl1 (hfc w.drew rfl) (hold3 w.drew rfl) hc hroom;have gd:Grow w w.drew:=Grow.drew w;have sto1:=sto.grow gd;obtain⟨f1,f2,f3⟩:=Gp sto1 (old++new++rest) e (l:=l.take (n*ie.size)++xs++List.replicate rest.size .any) (by
      rw[Fbk,Fbk];refine((hold1.append hnew).append ⟨φ,λi x y hx hy=>?_⟩).keep (gd.keeps _);rw[Fbu]at hx;split at hx
      · cases hx;exact .any _
      · cases hx)
    have e1:w.drew.heap.size=w.heap.size:=rfl;rw[g2]at f2;exact⟨_,_,g3,_,_,_,h2 hc _ newCap f1 g1 g0,.s _,f2,(gd.chg M).trans f3⟩
end
section
variable {P:Program} {c:Cfg} {st:Store}
def zgu{e:TypeId}{ie:TI}(hie:c.I e=some ie){a:Option Addr}{x:AV}{m:Nat}{xs:List AV}(hx:SrcOK P st ie.size m x xs)(hroom:room m ie.bytes)(hne:0<m){K:Ja}
    (h2:∀b' cap',Fresh st b'->m<=cap'->cap'<=9223372036854775807->K (.s (.slice (some ⟨b',0,none⟩) m cap')) (st.sO b' (.cells (xs++List.replicate ((cap'-m)*ie.size) .any)))):
    AppX P c st e (.s (.slice a 0 0)) x K:=by
  refine⟨⟨ie,hie⟩,λie' hie' Oth M w sv xv argTypes ty args t sto hs hxv hat ht1 hu hti h0 h1'=>?_⟩;rw[hie]at hie';cases hie';have hs:=VRel.eq_s hs;subst hs;have A:AppArgs P c argTypes args t e ie a 0 0 xv:=⟨hat,ht1,hu,hti,h0,h1'⟩
  obtain⟨hl1,new,hnew,hone,hnsz,hfc⟩:=hx.out Oth M w xv sto hxv;obtain⟨newCap,rest,g1,g0,g2,g3⟩:=Lw (old:=#[]) ty A hl1 (hfc w.drew rfl) (by cases a<;>simp[Builtin.firstCells,loadCells,loadCellsFrom]) θ (by simpa using hroom);have gd:Grow w w.drew:=Grow.drew w;have sto1:=sto.grow gd;obtain⟨f1,f2,f3⟩:=Gp sto1 (#[]++new++rest) e (l:=xs++List.replicate rest.size .any) (by
    rw[Fbk,Fbk];refine((show Reads w _ xs ([]++new.toList)from hnew).append ⟨φ,λi x y hx hy=>?_⟩).keep (gd.keeps _);rw[Fbu]at hx;split at hx
    · cases hx;exact .any _
    · cases hx)
  rw[g2]at f2;simp only[Fba]at g1 g3 f2;exact⟨_,_,g3,_,_,_,h2 _ newCap f1 g1 g0,.s _,f2,(gd.chg M).trans f3⟩
def ci{o:Oper}{cl:Call}{t e:TypeId}{x:Operand}(ho:o.op=.call cl)(hcl:cl.callee=.builtin .clear)(hargs:cl.args=#[x])(hat:cl.argTypes[0]?=some t)
    {it ie:TI} (hit:c.I t=some it) (hty:it.ty=.slice e) (hie:c.I e=some ie) {b off m cap:Nat} {l:List AV} (hm:m=1) (hb:st.obj b=some (.cells l)) (hn:off+ie.size<=l.length) (hone:∀v∈ie.zero,qw v=true)
    {R:Ja} (h:R (.tup []) (st.sO b (.cells (zq l off (ie.zero.map AV.s))))):AEff P c o [.s (.slice (some ⟨b,off,none⟩) m cap)] st R:=by
  subst hm;refine⟨λOth M w ρ hI sto hr=>?_⟩;have hops:o.op.operands=#[x]:=θ3;rw[hops]at hr;have hr:Reads w (λb o=>M b o\/Oth b o) [.s (.slice (some ⟨b,off,none⟩) 1 cap)] [ρ x]:=θm;obtain⟨u,he,h1⟩:=Ii hr;simp only[Fce,and_true]at he;rw[<-he]at h1;have h1:=VRel.eq_s h1;have ht:=xt (hI _ _ hit) hty;have hie:=hI _ _ hie;obtain⟨⟨cs,e0,fr,hb0,huf,hlen,hrel⟩,hM⟩:=sto.obj b _ hb;obtain⟨z,hz1,hz2⟩:=Kn (P:=P) hie w;have hzs:z.cells.size=ie.size:=by rw[<-hie.zsz,<-hz2];simp
  have hzc:(Builtin.zeroCells z.cells 1).toList=ie.zero:=by
    rw[<-hz2];unfold Builtin.zeroCells;apply Fcx
    · simp
    grind[Nat.mod_eq_of_lt]
  obtain⟨w',hw1,hw2⟩:=Ig (P:=P) w b off ie.zero 0 w cs e0 fr hb0 (.inl huf) δ hone;have hund:=yj (P:=P) ht;have hrun:(execOp ρ o).run P w=.ok (.value (.tuple #[])) w':=ψz;rw[hrun];obtain⟨k1,k2⟩:=Bm sto hb (Reads.map_s (w:=w) (T:=λb o=>M b o\/Oth b o) ie.zero) (by trivial);exact⟨_,_,M,h,ko Reads.nil,k1,k2⟩
def zg9{o:Oper}{t e:TypeId}{x lo hi mx:Operand}(ho:o.op=.slice t x (some lo) (some hi) (some mx)){it ie:TI}(hit:c.I t=some it)(hty:it.ty=.slice e)(hie:c.I e=some ie)
    {b off len cap i j m:Nat} {k k' k'':IntKind} (h1:i<=j) (h2:j<=m) (h3:m<=cap) (h4:i<m) {R:Ja} (h:R (.s (.slice (some ⟨b,off+i*ie.size,none⟩) (j-i) (m-i))) st):
    AEff P c o [.s (.slice (some ⟨b,off,none⟩) len cap),.s (.int k (i:Int)),.s (.int k' (j:Int)),.s (.int k'' (m:Int))] st R:=by
  refine⟨λOth M w ρ hI sto hr=>?_⟩;have hops:o.op.operands=#[x,lo,hi,mx]:=by rw[ho];simp[Op.operands]
  rw[hops]at hr;have hr:Reads w (λb o=>M b o\/Oth b o) [.s (.slice (some ⟨b,off,none⟩) len cap),.s (.int k (i:Int)),.s (.int k' (j:Int)),.s (.int k'' (m:Int))] [ρ x,ρ lo,ρ hi,ρ mx]:=θm;have e1:=VRel.eq_s (hr.2 0 _ (ρ x) rfl rfl);have e2:=VRel.eq_s (hr.2 1 _ (ρ lo) rfl rfl);have e3:=VRel.eq_s (hr.2 2 _ (ρ hi) rfl rfl);have e4:=VRel.eq_s (hr.2 3 _ (ρ mx) rfl rfl);have ht:=xt (hI _ _ hit) hty;have hie:=hI _ _ hie;have hm:¬m=i:=θ;have hund:=yj (P:=P) ht;have hrun:(execOp ρ o).run P w=.ok (.value (.slice (some ⟨b,off+i*ie.size,none⟩) (j-i) (m-i))) w:=by simp[execOp,ho,e1,e2,e3,e4,Instr.sliceAt,Instr.slice,hund,Instr.sliceBounds,Instr.sliceBound,asIntOf,h1,h2,h3,run_sizeOf hie,hm,vr]
  rw[hrun];exact⟨_,st,M,h,.s _,sto,Chg.refl _ _⟩
end
def yim{g:Gnd}(hg:zv g){t:Nat}(ht:(t:Int)<g.W*g.H){p:Vc}(hp:ji p.1 p.2){r:Int}(hr:0<r/\r<=81920)(h:vj g t p r):near (tx g t+32768,ty g t+32768) p 147456=true:=by
 have hb:=Oe hg ht;obtain⟨h3,h4⟩:=hp;rw[ii ζ ζ θ θ ψ];dsimp only;unfold vj at h;have o1:0<=off p.1 (tx g t):=ψb;have o2:0<=off p.2 (ty g t):=ψb;have d1:-(32768+off p.1 (tx g t))<=tx g t+32768-p.1/\tx g t+32768-p.1<=32768+off p.1 (tx g t):=ψb;have d2:-(32768+off p.2 (ty g t))<=ty g t+32768-p.2/\ty g t+32768-p.2<=32768+off p.2 (ty g t):=ψb;generalize off p.1 (tx g t)=ex at*;generalize off p.2 (ty g t)=ey at*;generalize tx g t+32768-p.1=dx at*;generalize ty g t+32768-p.2=dy at*;have hrr:r*r<=81920*81920:=Fbm hr.2 hr.2 θ ψ;have ex2:=Fa8 o1 o1;have ey2:=Fa8 o2 o2;have bx:ex<81920:=Sb o1 ψ θ;have by':ey<81920:=Sb o2 ψ θ;have sq:∀d m:Int,0<=m->-m<=d->d<=m->d*d<=m*m:=λd m hm h1 h2=>by
  by_cases hd:0<=d
  ·exact Fbm h2 h2 hd hm
  ·have:(-d)*(-d)<=m*m:=Fbm θ θ θ hm
   rwa [Int.neg_mul_neg]at this
 have s1:=sq dx (32768+ex) θ d1.1 d1.2;have s2:=sq dy (32768+ey) θ d2.1 d2.2;have e1:(32768+ex)*(32768+ex)=1073741824+65536*ex+ex*ex:=by rw[Int.add_mul,Fee,Fee,Int.mul_comm ex 32768];omega
 have e2:(32768+ey)*(32768+ey)=1073741824+65536*ey+ey*ey:=by rw[Int.add_mul,Fee,Fee,Int.mul_comm ey 32768];omega
 rw[e1]at s1;rw[e2]at s2;refine decide_eq_true ?_;omega
instance(a b:Bld):Decidable (w9 a b):=inferInstanceAs (Decidable (_/\_))
def bdB(w:Wld)(c:Cmd):Bld:=⟨w.next,c.P,c.T.tmod w.G.W,c.T.tdiv w.G.W,c.W,c.H⟩
open Classical in
noncomputable def ja(g:Gnd)(l:List Bld)(b:Bld):Int:=if¬onP g b then 3 else if∃x∈l,w9 x b then 12 else if¬Gz g b then 5 else if 256<=l.length then 4 else 0
def K5(w:Wld)(b:Bld):Prop:=∃t:Nat,((t:Int)<w.G.W*w.G.H/\Dc w.G b t)/\∃u∈w.U,u.inn=0/\vj w.G t u.pos (zz u.kind)
open Classical in
noncomputable def bdE(w:Wld)(c:Cmd):Int:=if¬(0<=c.T/\c.T<w.G.W*w.G.H)then 3 else if 1099511627776<=w.next then 4 else if ja w.G w.B (bdB w c)=0 then(if K5 w (bdB w c)then 5 else 0)else ja w.G w.B (bdB w c)
def bdW(w:Wld)(c:Cmd):Wld:={w with B:=w.B++[bdB w c],next:=w.next+1}
def yn0:Bld:=⟨0,0,0,0,0,0⟩
def G4(l:List Bld)(id:Int):Option Nat:=l.findIdx? λb=>decide (b.id=id)
def drE(w:Wld)(c:Cmd):Int:=match G4 w.B c.N with|none=>3|some i=>if(w.B.getD i yn0).owner=c.P then 0 else 6
def drW(w:Wld)(c:Cmd):Wld:=match G4 w.B c.N with|none=>w|some i=>{w with B:=w.B.eraseIdx i}
section
variable {k i:Nat}
theorem Wz{α:Type}{f:α->List AV}(hf:∀x,(f x).length=k){l:List α}(hi:i<l.length)(L:List AV):
  zq ((rws f l).flatten++L) (i*k) (rws f (l.drop (i+1))).flatten=(rws f (l.eraseIdx i)).flatten++(f l[l.length-1]++L):=by
 have e1:(rws f l).flatten++L=(rws f (l.take i)).flatten++((rws f (l.drop i)).flatten++L):=by grind[Fm,List.take_append_drop]
 have h1:(rws f (l.take i)).flatten.length=i*k:=by grind[yx,List.length_take]
 rw[e1,ve h1,List.eraseIdx_eq_take_drop_succ,Fm];simp only[Fat]
 congr 1
 congr 1
 have h2:(rws f (l.drop (i+1))).flatten.length=(l.length-(i+1))*k:=by rw[yx hf,Fbj]
 have e2:l.drop i=(l.drop i).dropLast++[l[l.length-1]]:=by have hne:l.drop i≠[]:=θc;grind[List.dropLast_concat_getLast]
 have e3:(rws f (l.drop i)).flatten=(rws f (l.drop i).dropLast).flatten++f l[l.length-1]:=by
  conv=>lhs;rw[e2]
  rw[Fm];show _++(f _++[])=_;rw[Fbh]
 have h3:(rws f (l.drop i).dropLast).flatten.length=(l.length-(i+1))*k:=by
  rw[yx hf,List.length_dropLast,Fbj]
  congr 1
 grind
def W0{α:Type}{l:List α}(hi:i<l.length):(l.eraseIdx i).length=l.length-1:=δ
theorem W5{α:Type}{f:α->List AV}(hf:∀x,(f x).length=k){l:List α}(hi:i<=l.length)(L:List AV):(((rws f l).flatten++L).drop (i*k)).take ((l.length-i)*k)=(rws f (l.drop i)).flatten:=by
 have e1:(rws f l).flatten++L=(rws f (l.take i)).flatten++((rws f (l.drop i)).flatten++L):=by grind[Fm,List.take_append_drop]
 have h1:(rws f (l.take i)).flatten.length=i*k:=by grind[yx,List.length_take]
 have h2:(rws f (l.drop i)).flatten.length=(l.length-i)*k:=by rw[yx hf,Fbj]
 grind
theorem yog{P:Program}{c:Cfg}{st:Store}{e:TypeId}{ie:TI}(hie:c.I e=some ie){a:Option Addr}{x:AV}(hx:kb ie.size (.av x)=some []){K:Ja}(h:K (.s (.slice a 0 0)) st):AppX P c st e (.s (.slice a 0 0)) x K:=by
 refine⟨⟨ie,hie⟩,λie' hie' Oth M w sv xv argTypes ty args t sto hs hxv hat ht1 hu hti h0 h1'=>?_⟩;rw[hie]at hie';cases hie';have hs:=VRel.eq_s hs;subst hs;have A:AppArgs P c argTypes args t e ie a 0 0 xv:=⟨hat,ht1,hu,hti,h0,h1'⟩
 obtain⟨hl1,hl2,new,hnew,hone,hnsz,hfc⟩:=Kg (P:=P) (β:=λ_=>0) (k:=ie.size) (x:=.av x) hxv hx;have hn0:new.toList=[]:=θc;have hrun:=Lv (w':=w) ty A hl1 (hfc w rfl) φ (λb hb=>by rw[hn0];simp[storeCells]) (λ_=>rfl);exact⟨_,_,hrun,_,_,M,h,.s _,sto,Chg.refl M w⟩
end
section
variable {r P N:Int} {w:Wld}
def Fy(m r:Int):Prop:=0<=r/\r<=9223372036854775807/\r*r<=m/\(r=9223372036854775807\/m<(r+1)*(r+1))
def yhc{m:Int}(h:Fy m r){k:Int}(hk:0<=k)(hk2:k<9223372036854775807):k<r↔(k+1)*(k+1)<=m:=by
 obtain⟨h0,h1,h2,h3⟩:=h;constructor
 ·intro hkr;exact Fd6 (Fbm (show k+1<=r by omega) (show k+1<=r by omega) θ h0) h2
 ·intro hm;refine Int.not_le.1 λhle=>?_;rcases h3 with h3|h3
  ·omega
  ·have:=Fbm (show r+1<=k+1 by omega) (show r+1<=k+1 by omega) θ θ;omega
def yhb{m r':Int}(h:Fy m r)(h':Fy m r'):r=r':=by
 obtain⟨h0,h1,h2,h3⟩:=h;obtain⟨g0,g1,g2,g3⟩:=h';have a:¬r<r':=λhlt=>by
  rcases h3 with h3|h3
  ·omega
  ·have:=Fbm (show r+1<=r' by omega) (show r+1<=r' by omega) θ g0;omega
 have b:¬r'<r:=λhlt=>by
  rcases g3 with h3|h3
  ·omega
  ·have:=Fbm (show r'+1<=r by omega) (show r'+1<=r by omega) θ h0;omega
 omega
def G5(p q:Vc):Prop:=17180131329<=sqr (xq p q)
instance(p q:Vc):Decidable (G5 p q):=inferInstanceAs (Decidable (_<=_))
theorem ybw{p q:Vc}(h:Fy (sqr (xq p q)) r):131072<r↔G5 p q:=by have:=yhc h (k:=131072) ψ ψ;unfold G5;exact this
def wl(w:Wld)(P N:Int):Int:=if ju w P N=0 then(if jy (uAt w N).kind=0 then 7 else 0)else ju w P N
def Mv(x u:Unt):Int:=if 0<jy u.kind then 7 else if G5 u.pos x.pos then 8 else 0
def ldA(w:Wld)(P N id:Int):Int:=if ju w P id=0 then Mv (uAt w N) (uAt w id)else ju w P id
def ldE(w:Wld)(c:Cmd):Int:=if wl w c.P c.N=0 then(if allE (ldA w c.P c.N) c.U=0 then(if jy (uAt w c.N).kind<((z8 w.U c.N).length:Int)+(c.U.length:Int)then 4 else 0)else allE (ldA w c.P c.N) c.U)else wl w c.P c.N
def ldU(n:Int)(u:Unt):Unt:={u with pos:=(0,0),goal:=-1,next:=-1,stuck:=0,inn:=n,state:=0}
def ldW(w:Wld)(c:Cmd):Wld:={w with U:=qs c.U (ldU c.N) w.U}
def zc7{id:Int}(h:ldA w P N id=0):ju w P id=0/\Mv (uAt w N) (uAt w id)=0:=by unfold ldA at h;grind
def og(h:wl w P N=0):ju w P N=0/\jy (uAt w N).kind≠0:=by unfold wl at h;grind
def yh1(hm:yc w){i:Nat}(hi:i<w.U.length)(h0:w.U[i].id≠0):((z8 w.U w.U[i].id).length:Int)<=jy w.U[i].kind:=by
 have hr:yk w.U:=hm.1.2.1;cases hl:z8 w.U w.U[i].id with
 |nil=>simp_all[Pf]
 |cons a l=>
  have ha:a∈z8 w.U w.U[i].id:=by rw[hl];simp
  unfold z8 at ha;obtain⟨u,hu,_⟩:=Fag.1 ha;obtain⟨hu,he⟩:=Fbc.1 hu;have he:u.inn=w.U[i].id:=by simpa using he
  obtain⟨x,hx,e1,_,e3,_⟩:=hm.2.2 u hu (by rw[he];exact h0);obtain⟨k,hk,rfl⟩:=Faf hx;have hki:k=i:=by
   by_cases h1:k<i
   ·have:=Hk hr h1 hi;omega
   ·by_cases h2:i<k
    ·have:=Hk hr h2 hk;omega
    ·omega
  grind
theorem yeb{n:Int}{q m:Nat}(h0:0<=n)(h1:n<2^m)(h2:n+q*2^m<18446744073709551616):Au .or .u64 (q*2^m) n=q*2^m+n:=by
 obtain⟨a,rfl⟩:=Fcj h0;have e:((q:Int)*2^m)=((q*2^m:Nat):Int):=φ;have h1':a<2^m:=by exact_mod_cast h1
 rw[e]at h2⊢;have h3:a+q*2^m<18446744073709551616:=θ;rw[(yn6 (q*2^m) a θ θ).2,Nat.or_comm,yfh a q m h1',Hf θ θ];simp;omega
theorem zw0{k:Nat}(hk:k<=62):IntKind.u64.wrap (1*2^(min ((k:Int)).toNat IntKind.u64.bits))=2^k:=by
 have:(min ((k:Int)).toNat IntKind.u64.bits)=k:=by show min ((k:Int)).toNat 64=k;omega
 rw[this,Int.one_mul];have h:(2:Int)^k<=2^62:=by exact_mod_cast Nat.pow_le_pow_right ψ hk
 grind[Hf]
def Ih(m r:Int)(k:Nat):Prop:=∃q:Nat,r=q*2^k/\r+2^k<=9223372036854775808/\r*r<=m/\(m<(r+2^k)*(r+2^k)\/r+2^k=9223372036854775808)
def yby{m:Int}(hm:0<=m):Ih m 0 63:=⟨0,φ,ψ,by simpa using hm,.inr ψ⟩
def yb0{m:Int}(h:Ih m r 0):Fy m r:=by obtain⟨q,e,h1,h2,h3⟩:=h;have e1:(2:Int)^0=1:=rfl;rw[e1]at h1 h3 e;exact⟨θ,θ,h2,h3.symm.imp (λh=>θ) id⟩
def yb1{m:Int}{k:Nat}(h:Ih m r (k+1)):Au .or .u64 r (2^k)=r+2^k/\0<=r/\(0:Int)<2^k/\r+2^k<9223372036854775808:=by obtain⟨q,e,h1,h2,h3⟩:=h;grind[yeb]
def ybz{m:Int}{k:Nat}(h:Ih m r (k+1))(hn:m<(r+2^k)*(r+2^k)):Ih m r k:=by obtain⟨q,e,h1,h2,h3⟩:=h;have e2:(2:Int)^(k+1)=2*2^k:=δ;have h0:(0:Int)<2^k:=Int.pow_pos ψ;rw[e2]at h1;refine⟨2*q,?_,θ,h2,.inl hn⟩;grind
def ybx{m:Int}{k:Nat}(h:Ih m r (k+1))(hn:(r+2^k)*(r+2^k)<=m):Ih m (r+2^k) k:=by obtain⟨q,e,h1,h2,h3⟩:=h;have e2:(2:Int)^(k+1)=2*2^k:=δ;have h0:(0:Int)<2^k:=Int.pow_pos ψ;rw[e2]at h1 h3;have e3:r+2^k+2^k=r+2*2^k:=θ;refine⟨2*q+1,?_,θ,hn,by rw[e3];exact h3⟩;grind
end
section
variable {t i:Nat} {w:Wld} {tile id:Int} {u:Unt}
def qd(g:Gnd)(t:Nat):Vc:=(tx g t+32768,ty g t+32768)
def Rb{g:Gnd}(hg:zv g)(ht:t<g.T.length):(qd g t).ok:=by have ha:=xc hg;have:=Oe hg (t:=t) θ;unfold qd Vc.ok yq;dsimp only;omega
def qq(w:Wld)(k tile:Int)(n:Nat):List Nat:=Mg w.G (ya w.G w.B (qo k) (ki k)) (ki k) tile n
def ui(g:Gnd)(f:Nat->Bool)(x y k:Int):∀d t,t∈vf g f x y k d->t<g.T.length/\f t=true
 |0,t,h=>ω
 |d+1,t,h=>by
  rcases Fas.1 (show t∈vf g f x y k d++Cd g f x y k d from h)with h|h
  ·exact ui g f x y k d t h
  ·unfold Cd Gg at h;obtain⟨h1,h2⟩:=Fbc.1 h;exact⟨Fbf.1 (Fbc.1 h1).1,h2⟩
def fa{k:Int}{n:Nat}(h:t∈qq w k tile n):t<w.G.T.length/\ya w.G w.B (qo k) (ki k) t=true:=ui _ _ _ _ _ _ _ (Fck h)
def zwt(w:Wld)(k tile:Int)(n:Nat):(qq w k tile n).length<=n:=by grind[qq,Mg]
open Classical in
noncomputable def C0(w:Wld)(u:Unt)(tile:Int):Option Nat:=(qq w u.kind tile 64).find? λt=>decide (xo w u.id u.kind (qd w.G t))
open Classical in
def yd6{j:Nat}(hj:j<(qq w u.kind tile 64).length)(hno:∀i,(h:i<(qq w u.kind tile 64).length)->i<j->¬xo w u.id u.kind (qd w.G (qq w u.kind tile 64)[i]))(hy:xo w u.id u.kind (qd w.G (qq w u.kind tile 64)[j])):C0 w u tile=some (qq w u.kind tile 64)[j]:=by unfold C0;rw[List.find?_eq_some_iff_getElem];grind
open Classical in
def yd7(hno:∀i,(h:i<(qq w u.kind tile 64).length)->¬xo w u.id u.kind (qd w.G (qq w u.kind tile 64)[i])):C0 w u tile=none:=by unfold C0;rw[Fei];intro t ht;obtain⟨i,hi,rfl⟩:=Faf ht;grind
open Classical in
def zbj(h:C0 w u tile=some t):t∈qq w u.kind tile 64/\xo w u.id u.kind (qd w.G t):=by unfold C0 at h;grind
def Dn(u:Unt)(p:Vc):Unt:={u with pos:=p,inn:=0}
noncomputable def unl(tile:Int):List Int->Wld->Option Wld
 |[],w=>some w
 |id::l,w=>match qp w.U id with
  |none=>none
  |some i=>match C0 w (w.U.getD i Cq) tile with
   |none=>none
   |some t=>unl tile l {w with U:=w.U.set i (Dn (w.U.getD i Cq) (qd w.G t))}
theorem dk{l:List Int}(hi:i<w.U.length)(hf:qp w.U id=some i)(ho:C0 w w.U[i] tile=none):unl tile (id::l) w=none:=by show(match qp w.U id with|none=>none|some i=>_)=_;grind
theorem di{l:List Int}(hi:i<w.U.length)(hf:qp w.U id=some i)(ho:C0 w w.U[i] tile=some t):unl tile (id::l) w=unl tile l {w with U:=w.U.set i (Dn w.U[i] (qd w.G t))}:=by show(match qp w.U id with|none=>none|some i=>_)=_;grind
open Classical in
noncomputable def ulE(w:Wld)(c:Cmd):Int:=
 if wl w c.P c.N=0 then
  (if 0<=c.T/\c.T<w.G.W*w.G.H then
   (if G5 (qd w.G c.T.toNat) (uAt w c.N).pos then 8 else(match unl c.T (z8 w.U c.N) w with|none=>5|some _=>0))
  else 3)
 else wl w c.P c.N
noncomputable def ulW(w:Wld)(c:Cmd):Wld:=(unl c.T (z8 w.U c.N) w).getD w
def Fe(L:List Ent)(u:Unt):List Ent:=if u.inn=0 then qm L u.id++[(u.id,u.pos)]else qm L u.id
def ylc(L:List Ent)(u:Unt):(Fe L u).length<=L.length+1:=by grind[qm,Fe]
def ylb{L:List Ent}(hok:∀e∈L,e.2.ok)(hp:u.pos.ok):∀e∈Fe L u,e.2.ok:=λe he=>by grind[Fe,mem_dropId]
def zbt{L:List Ent}(hF:Dy w L)(hr:yk w.U)(hi:i<w.U.length)(hid:w.U[i].id=u.id):Dy {w with U:=w.U.set i u} (Fe L u):=by
 have old:∀e,e∈qm L u.id↔∃j,∃hj:j<w.U.length,j≠i/\w.U[j].inn=0/\e=(w.U[j].id,w.U[j].pos):=λe=>by
  rw[mem_dropId,hF e];constructor
  ·rintro⟨⟨x,hx,h0,rfl⟩,hne⟩;obtain⟨j,hj,rfl⟩:=Faf hx;grind
  ·rintro⟨j,hj,hji,h0,rfl⟩;refine⟨⟨w.U[j],Faa hj,h0,rfl⟩,λe=>hji ?_⟩;have e:w.U[j].id=u.id:=e;by_cases h1:j<i
   ·have:=Gf hr h1 hi;omega
   ·by_cases h2:i<j
    ·have:=Gf hr h2 hj;omega
    ·omega
 intro e;have key:(∃y∈w.U.set i u,y.inn=0/\e=(y.id,y.pos))↔(u.inn=0/\e=(u.id,u.pos))\/∃j,∃hj:j<w.U.length,j≠i/\w.U[j].inn=0/\e=(w.U[j].id,w.U[j].pos):=by
  constructor
  ·rintro⟨y,hy,h0,he⟩;obtain⟨j,hj,rfl⟩:=Faf hy;grind
  ·rintro(⟨h0,he⟩|⟨j,hj,hji,h0,he⟩)
   ·exact⟨u,List.mem_set hi u,h0,he⟩
   ·refine⟨w.U[j],?_,h0,he⟩;have hj2:j<(w.U.set i u).length:=by grind
    have:(w.U.set i u)[j]=w.U[j]:=δ;grind
 grind[Fe]
def zbu{L:List Ent}(hn:(L.map (·.1)).Nodup)(hF:Dy w L):L.length<=w.U.length:=by have:=Fbz (l₂:=w.U.map (·.id)) hn (λid hid=>by obtain⟨e,he,rfl⟩:=Fag.1 hid;obtain⟨u,hu,_,rfl⟩:=(hF e).1 he;grind);grind
theorem So{U:List Unt}(hr:yk U)(hi:i<U.length)(hid:U[i].id=u.id):yk (U.set i u):=by intro j hj h0;rw[Fak]at hj;have:=hr j hj h0;grind
theorem ykl{U:List Unt}(hr:yk U)(hi:i<U.length)(hid:U[i].id=u.id)(id:Int):qp (U.set i u) id=qp U id:=by
 have id':∀k,(hk:k<U.length)->((U.set i u)[k]'δ).id=U[k].id:=λk hk=>δ;cases h:qp U id with
 |some k=>
  grind[Ll,Pv,So]
 |none=>
  grind[qp]
end
section
variable {w:Wld} {k:Nat} {kd:Int}
def mvG(g:Int)(u:Unt):Unt:={u with goal:=g,next:=-1,stuck:=0,state:=1}
def C8(w:Wld)(c:Cmd)(k:Nat)(kd:Int):Int:=match(qq w kd c.T c.U.length)[k]? with|some t=>(t:Int)|none=>c.T
def mvL(w:Wld)(c:Cmd):Nat->List Unt
 |0=>w.U
 |k+1=>match qp w.U (c.U.getD k 0)with
  |some i=>(mvL w c k).set i (mvG (C8 w c k (w.U.getD i Cq).kind) (w.U.getD i Cq))
  |none=>mvL w c k
def mvE(w:Wld)(c:Cmd):Int:=if 0<=c.T/\c.T<w.G.W*w.G.H then allE (ju w c.P) c.U else 3
def mvW(w:Wld)(c:Cmd):Wld:={w with U:=mvL w c c.U.length}
theorem zcc{c:Cmd}{i:Nat}(hk:k<c.U.length)(hf:qp w.U c.U[k]=some i)(hi:i<w.U.length):mvL w c (k+1)=(mvL w c k).set i (mvG (C8 w c k w.U[i].kind) w.U[i]):=by show(match qp w.U (c.U.getD k 0)with|some i=>_|none=>_)=_;rw[show c.U.getD k 0=c.U[k] by simp[Fap,hk],hf];dsimp only;rw[show w.U.getD i Cq=w.U[i] by simp[Fap,hi]]
theorem Cj(w:Wld)(c:Cmd):∀k,(mvL w c k).length=w.U.length
 |0=>rfl
 |k+1=>by
  show(match qp w.U (c.U.getD k 0)with|some i=>_|none=>_:List Unt).length=_;cases qp w.U (c.U.getD k 0)with
  |none=>exact Cj w c k
  |some i=>dsimp only;rw[Fak];exact Cj w c k
def Vt(w:Wld)(c:Cmd):∀k j,(hj:j<w.U.length)->mvG 0 ((mvL w c k)[j]'(by rw[Cj];exact hj))=mvG 0 w.U[j]
 |0,j,hj=>rfl
 |k+1,j,hj=>by
  have ih:=Vt w c k j hj;have key:∀L:List Unt,(hL:j<L.length)->L=mvL w c (k+1)->mvG 0 L[j]=mvG 0 w.U[j]:=λL hL e=>by
   have e2:mvL w c (k+1)=(match qp w.U (c.U.getD k 0)with
    |some i=>(mvL w c k).set i (mvG (C8 w c k (w.U.getD i Cq).kind) (w.U.getD i Cq))
    |none=>mvL w c k):=rfl
   rw[e2]at e;cases hf:qp w.U (c.U.getD k 0)with
   |none=>rw[hf]at e;subst e;exact ih
   |some i=>
    rw[hf]at e;obtain⟨hi,_⟩:=Ll hf;subst e;rw[Fcl];split
    ·rename_i e3;subst e3;rw[show w.U.getD i Cq=w.U[i] by simp[Fap,hi]];rfl
    ·exact ih
  exact key _ (by rw[Cj];exact hj) rfl
def K4{a b:Unt}(h:mvG 0 a=mvG 0 b):a.id=b.id/\a.owner=b.owner/\a.kind=b.kind/\a.pos=b.pos/\a.inn=b.inn:=by
 refine⟨?_,?_,?_,?_,?_⟩
 ·have:=congrArg Unt.id h;exact this
 ·have:=congrArg Unt.owner h;exact this
 ·have:=congrArg Unt.kind h;exact this
 ·have:=congrArg Unt.pos h;exact this
 ·have:=congrArg Unt.inn h;exact this
theorem io(w:Wld)(c:Cmd)(k j:Nat)(hj:j<w.U.length):((mvL w c k)[j]'(by rw[Cj];exact hj)).id=w.U[j].id:=(K4 (Vt w c k j hj)).1
def im(hr:yk w.U)(c:Cmd)(k:Nat):yk (mvL w c k):=by intro j hj h0;rw[Cj]at hj;have:=hr j hj h0;rw[io w c k _ θ,io w c k _ hj];exact this
def zce{c:Cmd}{u:Unt}(h:u∈mvL w c k):∃x∈w.U,u.id=x.id/\u.owner=x.owner/\u.kind=x.kind/\u.pos=x.pos/\u.inn=x.inn:=by obtain⟨j,hj,rfl⟩:=Faf h;have hj2:=hj;rw[Cj]at hj2;exact⟨w.U[j],Faa hj2,K4 (Vt w c k j hj2)⟩
theorem zci{c:Cmd}(h:¬(0<=c.T/\c.T<w.G.W*w.G.H)):mvE w c=3:=by unfold mvE;rw[if_neg h]
theorem zch{c:Cmd}(h:0<=c.T/\c.T<w.G.W*w.G.H):mvE w c=allE (ju w c.P) c.U:=by unfold mvE;rw[if_pos h]
theorem zcf{c:Cmd}(h:k<(qq w kd c.T c.U.length).length):C8 w c k kd=((qq w kd c.T c.U.length)[k]:Nat):=by unfold C8;rw[Fac h]
theorem zcg{c:Cmd}(h:¬k<(qq w kd c.T c.U.length).length):C8 w c k kd=c.T:=by unfold C8;rw[Fbl θ]
theorem ygr{α:Type}(f:α->AV)(cs:List (Int×α))(k:Int)(z:AV):Fv true z ((cs.map (yp f)).find? (qA k))=match yr cs k with|some v=>.tup [f v,.s (.bool true)]|none=>.tup [z,.s (.bool false)]:=by
 rw[mq];unfold yr;cases cs.find? λe=>k==e.1 with
 |none=>rfl
 |some e=>rfl
end
section
variable {w:Wld}
noncomputable def aE(w:Wld)(c:Cmd):Int:=if c.K=1 then spE w c else if c.K=2 then mvE w c else if c.K=3 then stE w c else if c.K=4 then bdE w c else if c.K=5 then drE w c else if c.K=6 then ldE w c else ulE w c
noncomputable def aW(w:Wld)(c:Cmd):Wld:=if c.K=1 then spW w c else if c.K=2 then mvW w c else if c.K=3 then stW w c else if c.K=4 then bdW w c else if c.K=5 then drW w c else if c.K=6 then ldW w c else ulW w c
theorem a1{c:Cmd}(h:c.K=1):aE w c=spE w c/\aW w c=spW w c:=θn
theorem a2{c:Cmd}(h:c.K=2):aE w c=mvE w c/\aW w c=mvW w c:=θn
theorem a3{c:Cmd}(h:c.K=3):aE w c=stE w c/\aW w c=stW w c:=θn
theorem a4{c:Cmd}(h:c.K=4):aE w c=bdE w c/\aW w c=bdW w c:=θn
theorem a5{c:Cmd}(h:c.K=5):aE w c=drE w c/\aW w c=drW w c:=θn
theorem a6{c:Cmd}(h:c.K=6):aE w c=ldE w c/\aW w c=ldW w c:=θn
theorem a7{c:Cmd}(h:c.K=7):aE w c=ulE w c/\aW w c=ulW w c:=θn
def ls{c:Cmd}(h:vo c):c.K=1\/c.K=2\/c.K=3\/c.K=4\/c.K=5\/c.K=6\/c.K=7:=Classical.byContradiction λhn=>by have hn:c.K≠1/\c.K≠2/\c.K≠3/\c.K≠4/\c.K≠5/\c.K≠6/\c.K≠7:=θ;exact Cmd.ok0 hn.1 hn.2.1 hn.2.2.1 hn.2.2.2.1 hn.2.2.2.2.1 hn.2.2.2.2.2.1 hn.2.2.2.2.2.2 h.1
def ze0{E:Wld->Cmd->Int}{c:Cmd}(h:doE E w c=0):yc w/\vo c/\c.P<=w.players/\E w c=0:=by
 have hb:¬(¬yc w\/¬vo c\/w.players<c.P):=λhb=>by rw[ze2 hb]at h;cases h
 have h1:yc w:=Classical.byContradiction λhh=>hb (.inl hh);have h2:vo c:=Classical.byContradiction λhh=>hb (.inr (.inl hh));grind[ze1]
theorem r9{tile:Int}:∀(l:List Int) (w x:Wld),yk w.U->unl tile l w=some x->x.tick=w.tick/\x.players=w.players/\x.next=w.next/\x.G=w.G/\x.B=w.B/\∃h:x.U.length=w.U.length,∀j,(hj:j<w.U.length)->x.U[j].id=w.U[j].id/\x.U[j].owner=w.U[j].owner/\x.U[j].kind=w.U[j].kind/\(x.U[j]=w.U[j]\/∃t,t<w.G.T.length/\x.U[j].pos=qd w.G t)
 |[],w,x,hr,h=>by have:w=x:=Option.some.inj h;grind
 |id::l,w,x,hr,h=>by
  cases hf:qp w.U id with
  |none=>
   grind[unl]
  |some i=>
   obtain⟨hi,_⟩:=Ll hf;cases ho:C0 w w.U[i] tile with
   |none=>rw[dk hi hf ho]at h;cases h
   |some t=>
    rw[di hi hf ho]at h;have ht:=(fa (zbj ho).1).1;obtain⟨h0,h1,h2,h3,h4,h5,h6⟩:=r9 l _ x (So hr hi (u:=Dn w.U[i] (qd w.G t)) rfl) h;grind[Dn]
def sc{c:Cmd}(hr:yk w.U):(ulW w c).tick=w.tick/\(ulW w c).players=w.players/\(ulW w c).next=w.next/\(ulW w c).G=w.G/\(ulW w c).B=w.B/\∃h:(ulW w c).U.length=w.U.length,∀j,(hj:j<w.U.length)->(ulW w c).U[j].id=w.U[j].id/\(ulW w c).U[j].owner=w.U[j].owner/\(ulW w c).U[j].kind=w.U[j].kind/\((ulW w c).U[j]=w.U[j]\/∃t,t<w.G.T.length/\(ulW w c).U[j].pos=qd w.G t):=by
 have key:∀x:Wld,ulW w c=x->x.tick=w.tick/\x.players=w.players/\x.next=w.next/\x.G=w.G/\x.B=w.B/\∃h:x.U.length=w.U.length,∀j,(hj:j<w.U.length)->x.U[j].id=w.U[j].id/\x.U[j].owner=w.U[j].owner/\x.U[j].kind=w.U[j].kind/\(x.U[j]=w.U[j]\/∃t,t<w.G.T.length/\x.U[j].pos=qd w.G t):=λx hx=>by
  unfold ulW at hx;cases h:unl c.T (z8 w.U c.N) w with
  |none=>
   grind
  |some y=>
   grind[r9]
 exact key _ rfl
def uq{l:List Int}{g:Unt->Unt}{U:List Unt}{u:Unt}(h:u∈qs l g U):∃x∈U,u=x\/u=g x:=by unfold qs at h;grind
def ypu{c:Cmd}(hn:∀u∈w.U,u.pos.ok)(h:doE aE w c=0):∀u∈(aW w c).U,u.pos.ok:=by
 obtain⟨hm,hc,hp,he⟩:=ze0 h;have z0:Vc.ok (0,0):=by unfold Vc.ok yq;decide
 intro u hu;rcases ls hc with k|k|k|k|k|k|k
 ·rw[(a1 k).2]at hu;rcases Fas.1 (show u∈w.U++[spU w c]from hu)with hu|hu
  ·exact hn u hu
  ·rw[Fbo]at hu;subst hu;have:=(Cmd.ok1 k).1 hc.1;have:=this.2;show Vc.ok (c.X,c.Y);grind[ji,Vc.ok,yq]
 ·rw[(a2 k).2]at hu;obtain⟨x,hx,_,_,_,e,_⟩:=zce (show u∈mvL w c c.U.length from hu);rw[e];exact hn x hx
 ·rw[(a3 k).2]at hu;obtain⟨x,hx,rfl|rfl⟩:=uq (show u∈qs c.U Ge w.U from hu)
  ·exact hn _ hx
  ·exact hn x hx
 ·rw[(a4 k).2]at hu;exact hn u hu
 ·grind[a5,drW]
 ·rw[(a6 k).2]at hu;obtain⟨x,hx,rfl|rfl⟩:=uq (show u∈qs c.U (ldU c.N) w.U from hu)
  ·exact hn _ hx
  ·exact z0
 ·rw[(a7 k).2]at hu;obtain⟨_,_,_,_,_,hl,hf⟩:=sc (c:=c) hm.1.2.1;obtain⟨j,hj,rfl⟩:=Faf hu;obtain⟨_,_,_,e|⟨t,ht,e⟩⟩:=hf j θ
  ·grind
  ·rw[e];exact Rb hm.1.1.2.1.1 ht
def yln(w:Wld)(c:Cmd):(drW w c).tick=w.tick/\(drW w c).players=w.players/\(drW w c).next=w.next/\(drW w c).G=w.G/\(drW w c).U=w.U/\(drW w c).B.length<=w.B.length:=by unfold drW;grind
end
instance(g:Gnd)(t:Nat)(p:Vc)(r:Int):Decidable (vj g t p r):=by unfold vj;infer_instance
instance(g:Gnd)(b:Bld):Decidable (Gz g b):=by unfold Gz;infer_instance
instance(g:Gnd)(b:Bld):Decidable (onP g b):=by unfold onP;infer_instance
instance(b:Bld):Decidable (qb b):=by unfold qb;infer_instance
instance(a b:Bld):Decidable (w9 a b):=by unfold w9;infer_instance
instance(l:List Bld):Decidable (Ss l):=by unfold Ss;infer_instance
instance(l:List Bld):Decidable (ce l):=by unfold ce;infer_instance
instance(g:Gnd):Decidable (zv g):=by unfold zv;infer_instance
instance(g:Gnd)(l:List Bld):Decidable (Ls g l):=by unfold Ls;infer_instance
instance(g:Gnd)(l:List Bld)(c:Int)(p:Vc)(r:Int):Decidable (De g l c p r):=by unfold De;infer_instance
instance(w:Wld)(id k:Int)(p:Vc):Decidable (xo w id k p):=by unfold xo;infer_instance
instance(k:Int):Decidable (Gt k):=by unfold Gt;infer_instance
instance(g:Gnd)(t:Int):Decidable (Ca g t):=by unfold Ca;infer_instance
instance(w:Wld)(u:Unt):Decidable (ka w u):=by unfold ka;infer_instance
instance(w:Wld):Decidable (Pn w):=by unfold Pn;infer_instance
instance(l:List Unt):Decidable (yk l):=by unfold yk;infer_instance
instance(w:Wld):Decidable (Oa w):=by unfold Oa;infer_instance
instance(w:Wld)(u:Unt):Decidable (Gh w u):=by unfold Gh;infer_instance
instance(w:Wld):Decidable (yc w):=by unfold yc;infer_instance
instance(x y:Int):Decidable (ji x y):=by unfold ji;infer_instance
instance(t:Int):Decidable (k9 t):=by unfold k9;infer_instance
instance(t:Int):Decidable (idP t):=by unfold idP;infer_instance
instance(l:List Int):Decidable (Cr l):=by unfold Cr;infer_instance
instance(w:Wld):Decidable (Iv w):=by unfold Iv;infer_instance
def j3(a b:Vc):Vc:=(ql a.1 b.1,ql a.2 b.2)
def ky(v:Vc):Vc:=(nrm v.1,nrm v.2)
def Cl(v:Vc)(k:Nat):Vc:=(v.1.tdiv (2^k:Nat),v.2.tdiv (2^k:Nat))
def Sn(m:Int):Nat->Int->Int
 |0,r=>r
 |b+1,r=>Sn m b (if(r+(2^b:Nat))*(r+(2^b:Nat))<=m then r+(2^b:Nat)else r)
def kr(m:Int):Int:=Sn m 63 0
def yb2{m:Int}(hm:0<=m):∀(b:Nat) (r:Int),0<=r->r*r<=m->(r+(2^b:Nat)=9223372036854775808\/m<(r+(2^b:Nat))*(r+(2^b:Nat)))->r+(2^b:Nat)<=9223372036854775808->Fy m (Sn m b r):=by
 intro b;induction b with
 |zero=>
  intro r h0 h1 h2 h3;refine⟨h0,?_,h1,?_⟩
  ·simp only[Nat.pow_zero]at h3;show r<=_;omega
  ·show r=_\/_;simp only[Nat.pow_zero]at h2;rcases h2 with h2|h2
   ·exact .inl θ
   ·exact .inr h2
 |succ b ih=>
  intro r h0 h1 h2 h3;have hp:(2^(b+1):Nat)=2^b+2^b:=by rw[Nat.pow_succ];omega
  have hq:0<2^b:=Nat.pow_pos ψ;rw[hp]at h2 h3;generalize hB:2^b=B at*;show Fy m (Sn m b (if _ then _ else _));rw[hB];split
  ·rename_i hle;refine ih (r+(B:Nat)) θ hle ?_ θ;rw[Int.add_assoc,show((B:Nat):Int)+(B:Nat)=((B+B:Nat):Int) by omega];exact h2
  ·rename_i hle;exact ih r h0 h1 (.inr θ) θ
def Mm{m:Int}(hm:0<=m):Fy m (kr m):=yb2 hm 63 0 ψ (by simpa using hm) (.inl ψ) ψ
def zal{m r:Int}(hm:0<=m)(h:Fy m r):r=kr m:=yhb h (Mm hm)
def Hz(c most long:Int):Int:=if c<0 then -((-c)*most/long)else c*most/long
def j2(v:Vc)(most:Int):Vc:=
 if kr (sqr v)<=max most 0 then ky v else(Hz (nrm v.1) (max most 0) (kr (sqr v)),Hz (nrm v.2) (max most 0) (kr (sqr v)))
def Mc(p q:Vc)(speed:Int):Vc:=j2 (xq q p) speed
def Ar(p:Vc)(r:Int)(q:Vc):Vc:=
 if near p q r then j2 (if xq p q=(0,0)then(65536,0)else xq p q) (r-kr (sqr (xq p q)))else(0,0)
instance(w:Wld)(id k:Int)(p:Vc):Decidable (xo w id k p):=by unfold xo De;infer_instance
def Ak(w:Wld)(u:Unt)(v:Vc):Nat->Nat->Option (Nat×Vc)
 |0,_=>none
 |n+1,k=>if Cl v k=(0,0)then none else if xo w u.id u.kind (j3 u.pos (Cl v k))then some (k,j3 u.pos (Cl v k))else Ak w u v n (k+1)
def yw(w:Wld)(u:Unt):Wld:={w with U:=w.U.map λx=>if x.id=u.id then u else x}
def Kd(w:Wld)(u:Unt)(v:Vc):Int:=match Ak w u (ky v) 5 0 with|none=>5|some (k,_)=>(k:Int)
def wq(w:Wld)(u:Unt)(v:Vc):Wld:=match Ak w u (ky v) 5 0 with|none=>w|some (_,p)=>yw w {u with pos:=p}
def Iq(w:Wld)(u:Unt):Vc:=w.U.foldl (λv x=>if x.inn=0/\x.id≠u.id then j3 v (Ar u.pos (zz u.kind+zz x.kind+16384) x.pos)else v) (0,0)
def Gu(w:Wld)(u:Unt):Wld:=wq w u (j2 (Iq w u) ((wh u.kind).tdiv 4))
def Bi(s:Int)(u:Unt):Unt:={u with goal:=-1,next:=-1,stuck:=0,state:=s}
def okU(w:Wld)(u:Unt)(t:Nat):Bool:=ya w.G w.B (qo u.kind) (ki u.kind) t
def K7(w:Wld)(u:Unt)(own:Nat):Bool:=
 decide (u.next=-1)||decide (u.pos=qd w.G u.next.toNat)|| !okU w u u.next.toNat||(decide (u.next≠own)&& !(Gq w.G own).contains u.next)
noncomputable def C7(w:Wld)(u:Unt)(own:Nat):Int:=
 if u.pos≠qd w.G own then own else
  (let way:=je w.G (okU w u) (qo u.kind) (wi w.G (okU w u) (qo u.kind) u.goal.toNat) own
   if way<0 then -1 else yn w.G own way.toNat)
def Ds(w:Wld)(u:Unt):Wld:=
 if Kd (yw w {u with stuck:=0}) {u with stuck:=0} (Mc u.pos (qd w.G u.next.toNat) (wh u.kind))<5 then wq (yw w {u with stuck:=0}) {u with stuck:=0} (Mc u.pos (qd w.G u.next.toNat) (wh u.kind))
 else if u.stuck+1=8 then yw w (Bi 4 u)else yw w {u with stuck:=u.stuck+1,next:=-1}
noncomputable def Fa(w:Wld)(u:Unt):Wld:=
 if u.pos=qd w.G u.goal.toNat then yw w (Bi 2 u)
 else if K7 w u (Al w.G u.pos)then
  (if C7 w u (Al w.G u.pos)<0 then yw w (Bi 3 u)else Ds w {u with next:=C7 w u (Al w.G u.pos)})
 else Ds w u
noncomputable def Az(w:Wld)(u:Unt):Wld:=if u.goal=-1 then Gu w u else Fa w u
theorem zgx{g:Gnd}(hg:zv g){l:List Bld}{c c':Int}{p q:Vc}{k k':Int}(hp:De g l c p (zz k))(hq:De g l c' q (zz k')):Av p (zz k) q (zz k')=Av q (zz k') p (zz k):=by have b1:=Pt hg hp;have b2:=Pt hg hq;grind[Av,ii,zz]
def nw{w w':Wld}{id k:Int}{p:Vc}(hG:w'.G=w.G)(hB:w'.B=w.B)(h:∀v∈w'.U,v.inn=0->v.id≠id->∃x∈w.U,x.inn=0/\x.id≠id/\x.pos=v.pos/\x.kind=v.kind)(hc:xo w id k p):xo w' id k p:=by refine⟨by rw[hG,hB];exact hc.1,λv hv h0 hid=>?_⟩;obtain⟨x,hx,e1,e2,e3,e4⟩:=h v hv h0 hid;rw[<-e3,<-e4];exact hc.2 x hx e1 e2
theorem yh2(l:List Unt)(id:Int):z8 l id=((l.map λu=>(u.inn,u.id)).filter λx=>x.1==id).map (·.2):=by unfold z8;rw[List.filter_map,Fdh];rfl
def yh5{U U':List Unt}(hl:U'.length=U.length)(h:∀j,(hj:j<U.length)->(U'[j]'θ).inn=U[j].inn/\(U'[j]'θ).id=U[j].id)(id:Int):z8 U' id=z8 U id:=by grind[yh2,List.ext_getElem,List.length_map]
def zan{U U':List Unt}(hl:U'.length=U.length)(h:∀j,(hj:j<U.length)->(U'[j]'θ).id=U[j].id)(hr:yk U):yk U':=by intro j hj h0;rw[hl]at hj;have:=hr j hj h0;grind
def yh3{l:List Unt}{u:Unt}(hu:u∈l):u.id∈z8 l u.inn:=by unfold z8;grind
def iw{w:Wld}(hm:yc w){U:List Unt}(hl:U.length=w.U.length)(h1:∀j,(hj:j<w.U.length)->mvG 0 (U[j]'θ)=mvG 0 w.U[j])(h2:∀j,(hj:j<w.U.length)->w.U[j].inn≠0->U[j]'θ=w.U[j])(h3:∀j,(hj:j<w.U.length)->ka w (U[j]'θ)):yc {w with U:=U}:=by
 obtain⟨⟨hh,hr,hu⟩,hc,hd⟩:=hm;have same:=λj hj=>K4 (h1 j hj);have back:∀v∈U,∃j,∃hj:j<w.U.length,v=U[j]'θ:=λv hv=>by obtain⟨j,hj,rfl⟩:=Faf hv;exact⟨j,θ,rfl⟩
 have hin:=yh5 hl (λj hj=>⟨(same j hj).2.2.2.2,(same j hj).1⟩);refine⟨⟨⟨hh.1,⟨hh.2.1.1,hh.2.1.2.1,by show U.length<=_;rw[hl];exact hh.2.1.2.2⟩,hh.2.2⟩,zan hl (λj hj=>(same j hj).1) hr,λv hv=>?_⟩,λv hv h0=>?_,λv hv h0=>?_⟩
 ·obtain⟨j,hj,rfl⟩:=back v hv;refine⟨h3 j hj,λb hb=>?_⟩;grind
 ·obtain⟨j,hj,rfl⟩:=back v hv;obtain⟨e1,_,e3,e4,e5⟩:=same j hj;rw[e1,e3,e4];refine nw (w:=w) rfl rfl (λx hx hx0 hxi=>?_) (hc _ (Faa hj) (by rw[<-e5];exact h0));grind
 ·obtain⟨j,hj,rfl⟩:=back v hv;have e5:=(same j hj).2.2.2.2;rw[e5]at h0;rw[h2 j hj h0];obtain⟨x,hx,g1,g2,g3,g4⟩:=hd _ (Faa hj) h0;obtain⟨k,hk,rfl⟩:=Faf hx;obtain⟨f1,f2,f3,f4,f5⟩:=same k hk;refine⟨U[k]'θ,Faa _,by rw[f1];exact g1,⟨by rw[f5];exact g2.1,by rw[f2];exact g2.2⟩,?_,g4⟩;grind
theorem zej{q:Unt->Bool}{x:Unt}(hx:q x=false):∀(U:List Unt) (i:Nat),((U.set i x).filter q).length<=(U.filter q).length
 |[],_=>Fai _
 |a::l,0=>δ
 |a::l,i+1=>by
  rw[List.set_cons_succ,Fds,Fds];have:=zej hx l i;split
  ·simp only[Fbg];omega
  ·exact this
def zcs{w:Wld}(hm:yc w){i:Nat}(hi:i<w.U.length){p:Vc}(hp:xo w w.U[i].id w.U[i].kind p):yc {w with U:=w.U.set i {w.U[i]with pos:=p,inn:=0}}:=by
 obtain⟨⟨hh,hr,hu⟩,hc,hd⟩:=hm;have hg:=hh.2.1.1;have hl:(w.U.set i {w.U[i]with pos:=p,inn:=0}).length=w.U.length:=Fak;have get:∀j,(hj:j<w.U.length)->(w.U.set i {w.U[i]with pos:=p,inn:=0})[j]'θ=if i=j then{w.U[i]with pos:=p,inn:=0}else w.U[j]:=λj hj=>Fcl ..
 have back:∀v∈w.U.set i {w.U[i]with pos:=p,inn:=0},v={w.U[i]with pos:=p,inn:=0}\/∃j,∃hj:j<w.U.length,j≠i/\v=w.U[j]:=λv hv=>by obtain⟨j,hj,rfl⟩:=Faf hv;grind
 have idne:∀j,(hj:j<w.U.length)->j≠i->w.U[j].id≠w.U[i].id:=λj hj hne e=>by
  rcases Nat.lt_trichotomy j i with q|q|q
  ·have:=Gf hr q hi;omega
  ·exact hne q
  ·have:=Gf hr q hj;omega
 have hself:ka w {w.U[i]with pos:=p,inn:=0}/\∀b∈w.B,b.id≠w.U[i].id:=⟨(hu _ (Faa hi)).1,(hu _ (Faa hi)).2⟩
 refine⟨⟨⟨hh.1,⟨hh.2.1.1,hh.2.1.2.1,by show(w.U.set i _).length<=_;rw[hl];exact hh.2.1.2.2⟩,hh.2.2⟩,So hr hi rfl,λv hv=>?_⟩,λv hv h0=>?_,λv hv h0=>?_⟩
 ·rcases back v hv with rfl|⟨j,hj,_,rfl⟩
  ·exact hself
  ·exact hu _ (Faa hj)
 ·rcases back v hv with rfl|⟨j,hj,hne,rfl⟩
  ·refine nw (w:=w) rfl rfl (λx hx hx0 hxi=>?_) hp;grind
  ·have hcj:=hc _ (Faa hj) h0;refine⟨hcj.1,λx hx hx0 hxi=>?_⟩;rcases back x hx with rfl|⟨k,hk,_,rfl⟩
   ·have:=hp.2 _ (Faa hj) h0 (idne j hj hne);rw[zgx hg hp.1 hcj.1]at this;exact this
   ·exact hcj.2 _ (Faa hk) hx0 hxi
 ·rcases back v hv with rfl|⟨j,hj,hne,rfl⟩
  ·exact absurd rfl h0
  obtain⟨x,hx,g1,g2,g3,g4⟩:=hd _ (Faa hj) h0;obtain⟨k,hk,rfl⟩:=Faf hx;have hle:((z8 (w.U.set i {w.U[i]with pos:=p,inn:=0}) w.U[j].inn).length:Int)<=jy w.U[k].kind:=by grind[zej,z8]
  by_cases e:k=i
  ·subst e;exact⟨{w.U[k]with pos:=p,inn:=0},List.mem_set hi _,g1,⟨rfl,g2.2⟩,hle,g4⟩
  ·refine⟨w.U[k],?_,g1,g2,hle,g4⟩;grind
def zcp{tile:Int}:∀(l:List Int) (w x:Wld),yc w->unl tile l w=some x->yc x
 |[],w,x,hm,h=>by have:w=x:=Option.some.inj h;subst this;exact hm
 |id::l,w,x,hm,h=>by
  cases hf:qp w.U id with
  |none=>
   grind[unl]
  |some i=>
   obtain⟨hi,_⟩:=Ll hf;cases ho:C0 w w.U[i] tile with
   |none=>rw[dk hi hf ho]at h;cases h
   |some t=>
    rw[di hi hf ho]at h;exact zcp l _ x (zcs hm hi (zbj ho).2) h
section
variable {w:Wld} {i:Nat} {u:Unt} {s:Int}
theorem Kq(hr:yk w.U)(hi:i<w.U.length)(hid:u.id=w.U[i].id):yw w u={w with U:=w.U.set i u}:=by
 unfold yw
 congr 1
 refine Fcx φ λj h1 h2=>?_;have hj:j<w.U.length:=θo;rw[Fb1,Fcl];by_cases e:i=j
 ·subst e;rw[if_pos hid.symm,if_pos rfl]
 ·rw[if_neg e,if_neg];intro hx;rcases Nat.lt_or_gt_of_ne e with h|h
  ·have:=Hk hr h hj;omega
  ·have:=Hk hr h hi;omega
def Vb(hr:yk w.U)(hi:i<w.U.length)(hid:u.id=w.U[i].id):∃h2:i<(yw w u).U.length,(yw w u).U[i]=u:=by rw[Kq hr hi hid];exact⟨by simpa using hi,φ⟩
theorem Va(w:Wld)(u:Unt):(yw w u).U.length=w.U.length:=by simp[yw]
theorem za0(hr:yk w.U)(hi:i<w.U.length)(hid:u.id=w.U[i].id){j:Nat}(hj:j<w.U.length)(hij:j≠i):(yw w u).U[j]'(by rw[Va];exact hj)=w.U[j]:=by
 have h:=Kq hr hi hid;have:(yw w u).U=w.U.set i u:=by rw[h]
 simp only[this];rw[Fcl,if_neg (Ne.symm hij)]
def Vy(hm:yc w)(hi:i<w.U.length)(h0:w.U[i].inn=0)(h1:mvG 0 u=mvG 0 w.U[i])(h2:ka w u):yc (yw w u):=by
 have hid:u.id=w.U[i].id:=(K4 h1).1;rw[Kq hm.1.2.1 hi hid];have get:∀j,(hj:j<w.U.length)->(w.U.set i u)[j]'(by simpa using hj)=if i=j then u else w.U[j]:=λj hj=>Fcl ..
 refine iw hm φ (λj hj=>?_) (λj hj hn=>?_) (λj hj=>?_)
 ·rw[get j hj];split
  ·rename_i e;subst e;exact h1
  ·rfl
 ·rw[get j hj];split
  ·rename_i e;subst e;exact absurd h0 hn
  ·rfl
 ·rw[get j hj];split
  ·exact h2
  ·exact(hm.1.2.2 _ (Faa hj)).1
def R4{v:Vc}:∀(n k:Nat) {r:Nat×Vc},Ak w u v n k=some r->xo w u.id u.kind r.2/\(k<=r.1/\r.1<k+n)/\r.2=j3 u.pos (Cl v r.1)
 |0,k,r,h=>ω
 |n+1,k,r,h=>by
  unfold Ak at h;split at h
  ·cases h
  ·split at h
   ·cases h;exact⟨‹_›,θ,rfl⟩
   ·obtain⟨h1,h2,h3⟩:=R4 n (k+1) h;exact⟨h1,θ,h3⟩
def zcq(hm:yc w)(hi:i<w.U.length)(h0:w.U[i].inn=0)(v:Vc):yc (wq w w.U[i] v):=by
 unfold wq;cases h:Ak w w.U[i] (ky v) 5 0 with
 |none=>exact hm
 |some r=>
  obtain⟨k,p⟩:=r;dsimp only;obtain⟨h1,_,_⟩:=R4 5 0 h;rw[Kq (u:={w.U[i]with pos:=p}) hm.1.2.1 hi rfl];have:=zcs hm hi h1;have e:({w.U[i]with pos:=p,inn:=0}:Unt)={w.U[i]with pos:=p}:=by rw[<-h0]
  rw[e]at this;exact this
def dg(hm:yc w)(hi:i<w.U.length):ka w w.U[i]:=(hm.1.2.2 _ (Faa hi)).1
def zi1(h:ka w u)(hs:s=2\/s=3\/s=4):ka w (Bi s u):=by obtain⟨⟨a1,a2,a3⟩,_,_,_⟩:=h;refine⟨⟨a1,a2,a3⟩,⟨.inl rfl,.inl rfl,by show(0:Int)<=0/\(0:Int)<8;omega⟩,⟨by show 0<=s/\s<=4;omega,?_⟩,λ_=>⟨rfl,rfl⟩⟩;show s=1↔(-1:Int)≠-1;omega
def Rz(h:ka w u)(hg:u.goal≠-1){nx st:Int}(hn:Ca w.G nx)(hs:0<=st/\st<8):ka w {u with next:=nx,stuck:=st}:=by obtain⟨⟨a1,a2,a3⟩,⟨b1,b2,b3⟩,c,d⟩:=h;exact⟨⟨a1,a2,a3⟩,⟨b1,hn,hs⟩,c,λe=>absurd e hg⟩
def iy(hm:yc w)(hi:i<w.U.length)(h0:w.U[i].inn=0)(hs:s=2\/s=3\/s=4)(hu:mvG 0 u=mvG 0 w.U[i])(hup:ka w u):yc (yw w (Bi s u)):=
 Vy hm hi h0 (by rw[<-hu];rfl) (zi1 hup hs)
def zcr(hm:yc w)(hi:i<w.U.length)(h0:w.U[i].inn=0)(hu:mvG 0 u=mvG 0 w.U[i])(hup:ka w u)(hg:u.goal≠-1):yc (Ds w u):=by
 have hid:u.id=w.U[i].id:=(K4 hu).1;have hin:u.inn=w.U[i].inn:=(K4 hu).2.2.2.2;unfold Ds;split
 ·have hp:ka w {u with stuck:=0}:=Rz hup hg hup.2.1.2.1 θ;have hm2:yc (yw w {u with stuck:=0}):=Vy hm hi h0 (by rw[<-hu];rfl) hp;obtain⟨h2,e⟩:=Vb (u:={u with stuck:=0}) hm.1.2.1 hi hid;have:=zcq hm2 h2 (by rw[e];exact hin.trans h0) (Mc u.pos (qd w.G u.next.toNat) (wh u.kind));rw[e]at this;exact this
 ·split
  ·exact iy hm hi h0 (.inr (.inr rfl)) hu hup
  ·rename_i h8;have:=hup.2.1.2.2;exact Vy hm hi h0 (by rw[<-hu];rfl) (Rz hup hg (.inl rfl) θ)
def zbs(hm:yc w)(hi:i<w.U.length)(h0:w.U[i].inn=0):(0<=w.U[i].pos.1/\w.U[i].pos.1<w.G.W*65536)/\(0<=w.U[i].pos.2/\w.U[i].pos.2<w.G.H*65536):=by have:=Pt hm.1.1.2.1.1 (hm.2.1 _ (Faa hi) h0).1;have:=this.1;have:=this.2;omega
def gq(hm:yc w)(hi:i<w.U.length)(h0:w.U[i].inn=0):Al w.G w.U[i].pos<w.G.T.length:=(sr hm.1.1.2.1.1 (zbs hm hi h0)).2.1
def d0{g:Gnd}(hg:zv g){t:Nat}(h:t<g.T.length):Ca g (t:Int):=.inr (by have:=hg.2.2.1;omega)
def zij(g:Gnd)(ok:Nat->Bool)(c:Int)(d:Nat->Int)(t:Nat):je g ok c d t=-1\/∃way:Nat,way<8/\je g ok c d t=way/\0<xg g ok c t way:=by
 unfold je;split
 ·exact .inl rfl
 ·cases h:(List.range 8).find? λway=>decide (0<xg g ok c t way/\0<=d (yn g t way).toNat/\xg g ok c t way+d (yn g t way).toNat=d t)with
  |none=>exact .inl rfl
  |some way=>
   have h1:=Fc5 h;have h2:=List.find?_some h;exact .inr ⟨way,θo,rfl,(of_decide_eq_true h2).1⟩
def ib(hg:zv w.G){own:Nat}(ho:own<w.G.T.length):Ca w.G (C7 w u own):=by
 unfold C7;split
 ·exact d0 hg ho
 ·dsimp only;rcases zij w.G (okU w u) (qo u.kind) (wi w.G (okU w u) (qo u.kind) u.goal.toNat) own with h|⟨way,h1,h2,_⟩
  ·rw[h,if_pos ψ];exact .inl rfl
  ·rw[h2,if_neg θ];rcases bz hg (t:=own) (way:=way) h1 with h3|⟨x,h3,h4⟩
   ·rw[Fbe,h3];exact .inl rfl
   ·rw[Fbe,h3];exact d0 hg h4
def yga(hm:yc w)(hi:i<w.U.length)(h0:w.U[i].inn=0)(hg:w.U[i].goal≠-1):yc (Fa w w.U[i]):=by
 have hu:=dg hm hi;unfold Fa;split
 ·exact iy hm hi h0 (.inl rfl) rfl hu
 ·split
  ·split
   ·exact iy hm hi h0 (.inr (.inl rfl)) rfl hu
   ·exact zcr hm hi h0 (u:={w.U[i]with next:=C7 w w.U[i] (Al w.G w.U[i].pos)}) rfl (Rz hu hg (ib hm.1.1.2.1.1 (gq hm hi h0)) hu.2.1.2.2) hg
  ·exact zcr hm hi h0 rfl hu hg
def yf2(hm:yc w)(hi:i<w.U.length)(h0:w.U[i].inn=0):yc (Az w w.U[i]):=by
 unfold Az;split
 ·exact zcq hm hi h0 _
 ·exact yga hm hi h0 ‹_›
end
structure MayF(w:Wld):Prop where
 hg:zv w.G
 hB:w.B.length<=256
 hU:w.U.length<=4096
 hT:w.G.T.length<=16384
 hb:∀b∈w.B,qb b/\onP w.G b
 hk:∀u∈w.U,Gt u.kind
 hr:yk w.U
 hn1:1<=w.next
 hn2:w.next<=1099511627776
def wg{w:Wld}(h:yc w):MayF w:=by obtain⟨⟨hh,hok⟩,_⟩:=h;have hbl:=hh.2.1.2.1;have ha:=xc hh.2.1.1;exact⟨hh.2.1.1,hbl.1,hh.2.1.2.2,θ,λb hb=>⟨(hbl.2.2.1 b hb).1,(hbl.2.2.1 b hb).2.1⟩,λu hu=>(hok.2 u hu).1.1.2.2,hok.1,hh.1.2.2.1,hh.1.2.2.2⟩
theorem MayF.fits{w:Wld}(h:MayF w):w.fits:=⟨by unfold Gnd.fits;have:=h.hT;omega,by have:=h.hB;omega,by have:=h.hU;omega⟩
def V4(k:Int):0<=ki k/\ki k<=3:=by unfold ki;split<;>decide
end Go.V
