/- Lemmas of thronglaw29; no conditions. -/
import Derived.Test.YtphhbmaalpdnoaaGreatKD
set_option linter.unusedSimpArgs false
set_option linter.unusedVariables false
set_option linter.defProp false
open List renaming length→Γ
open Option renaming some→Δ,none→Θ
namespace Go.V
section
variable {g:Gnd} {t r:Nat}
def dirL:List (Int×Int):=[(0,-1),(1,0),(0,1),(-1,0),(1,-1),(1,1),(-1,1),(-1,-1)]
def w9(g:Gnd)(x y:Int)(d:Int×Int):Int:=if onG g (x+d.1) (y+d.2)then x+d.1+g.W*(y+d.2)else -1
def j4(g:Gnd)(t:Nat):List Int:=dirL.map (w9 g ((t:Int)%g.W) ((t:Int)/g.W))
theorem L6(g:Gnd)(t:Nat):(j4 g t).length=8:=by simp[j4,dirL]
def zdb(a:zt g)(x y:Int)(d:Int×Int):w9 g x y d=-1/\¬onG g (x+d.1) (y+d.2)\/onG g (x+d.1) (y+d.2)/\w9 g x y d=(tl g (x+d.1) (y+d.2):Nat)/\tl g (x+d.1) (y+d.2)<Γ g.T:=by
 unfold w9;split
 .rename_i h;exact .inr ⟨h,(Db a h).1.symm,(Db a h).2.1⟩
 .rename_i h;exact .inl ⟨rfl,h⟩
def zda(e:zt g){u:Int}(h:u∈j4 g t):u=-1\/∃m:Nat,u=m/\m<Γ g.T:=by
 unfold j4 at h;obtain⟨d,_,rfl⟩:=Fag.1 h;rcases zdb e ((t:Int)%g.W) ((t:Int)/g.W) d with⟨c,_⟩|⟨_,b,a⟩
 .exact .inl c
 .exact .inr ⟨_,b,a⟩
def sqT(g:Gnd)(o:Nat->Bool)(r t:Nat):Bool:=sqB g o r ((t:Int)%g.W) ((t:Int)/g.W)
theorem sqT_iff{o:Nat->Bool}:sqT g o r t=true↔sqP g o r ((t:Int)%g.W) ((t:Int)/g.W):=uo
theorem zz7(b:zt g)(o:Nat->Bool)(a:t<Γ g.T):sqT g o 0 t=o t:=by rw[Fbm,sqT_iff,sq_zero];obtain⟨h1,h2⟩:=Nq b a;rw[h2];exact⟨λh=>h.2,λh=>⟨h1,h⟩⟩
def gi{o:Nat->Bool}{s:Nat}(h:s<=r)(a:sqT g o r t=true):sqT g o s t=true:=sqT_iff.2 (gg h (sqT_iff.1 a))
def zz8(a:zt g){o:Nat->Bool}(h:sqT g o r t=true):r<=63:=by have:=zz4 (sqT_iff.1 h);have:=a.1.2;omega
def okB(g:Gnd)(o:Nat->Bool)(r:Nat)(u:Int):Bool:=decide (0<=u)&&sqT g o r u.toNat
def zc1(c:zt g){o:Nat->Bool}{x y:Int}{d:Int×Int}:okB g o r (w9 g x y d)=true↔onG g (x+d.1) (y+d.2)/\sqP g o r (x+d.1) (y+d.2):=by
 unfold okB;rw[Fbg];rcases zdb c x y d with⟨a,b⟩|⟨a,b,i⟩
 .rw[a];exact⟨λh=>absurd (of_decide_eq_true h.1) ψ,λh=>absurd h.1 b⟩
 .obtain⟨_,_,f,e⟩:=Db c a;rw[b,Faz,sqT_iff,f,e];exact⟨λh=>⟨a,h.2⟩,λh=>⟨decide_eq_true Z,h.2⟩⟩
def yr8{a b:Int}(i:-1<=a)(h:a<=1)(f:-1<=b)(e:b<=1):(a=0/\b=0)\/(a,b)∈dirL:=by have d:a=-1\/a=0\/a=1:=Z;have c:b=-1\/b=0\/b=1:=Z;rcases d with rfl|rfl|rfl<;>rcases c with rfl|rfl|rfl<;>first|exact .inl ⟨rfl,rfl⟩|exact .inr ψ
def zz9(c:zt g){o:Nat->Bool}(i:t<Γ g.T):sqT g o (r+1) t=(sqT g o r t&&(j4 g t).all (okB g o r)):=by
 rw[Fbm,Fbg,sqT_iff,sqT_iff,sq_succ,Fcm];unfold j4;constructor
 .intro h;refine⟨by have:=(h 0 0 ψ ψ ψ ψ).2;simpa using this,λu f=>?_⟩;obtain⟨d,e,rfl⟩:=Fag.1 f;refine(zc1 c).2 ?_;have:∀d∈dirL,(-1<=d.1/\d.1<=1)/\(-1<=d.2/\d.2<=1):=ψ;have:=this d e;exact h d.1 d.2 this.1.1 this.1.2 this.2.1 this.2.2
 .rintro⟨p,h⟩ a b n l k j;rcases yr8 n l k j with⟨rfl,rfl⟩|e
  .rw[Fb8,Fb8];exact⟨(Nq c i).1,p⟩
  .exact(zc1 c).1 (h _ (Fag.2 ⟨(a,b),e,rfl⟩))
def Fv(g:Gnd)(o:Nat->Bool)(r i:Nat)(f:Nat->Int):Prop:=∀t,t<Γ g.T->0<=f t/\f t<=((if t<i then r+1 else r:Nat):Int)/\∀s:Nat,s<(if t<i then r+1 else r)->((s:Int)<f t↔sqT g o s t=true)
def yop(g:Gnd)(o:Nat->Bool):Fv g o 0 0 λ_=>0:=λt _=>⟨Fcw _,φ,λs a=>absurd a φ⟩
def yos{o:Nat->Bool}{f:Nat->Int}(h:Fv g o r (Γ g.T) f):Fv g o (r+1) 0 f:=λt a=>by have:=h t a;rw[if_pos a]at this;rw[if_neg (Fav t)];exact this
def you{o:Nat->Bool}{i:Nat}{f:Nat->Int}(h:Fv g o r i f)(a:t<Γ g.T):0<=f t/\f t<=r+1:=by have:=h t a;split at this<;>omega
def yor{o:Nat->Bool}{f:Nat->Int}(h:Fv g o r t f)(i:sqT g o r t=false):Fv g o r (t+1) f:=λs d=>by
 have a:=h s d;by_cases e:s=t
 .subst e;rw[if_neg (Fdo s)]at a;rw[if_pos Z];refine⟨a.1,Z,λq j=>?_⟩;by_cases b:q=r
  .subst b;rw[i];exact⟨λc=>Z,λc=>by cases c⟩
  .exact a.2.2 q Z
 .by_cases b:s<t
  .rw[if_pos b]at a;rw[if_pos Z];exact a
  .rw[if_neg b]at a;rw[if_neg Z];exact a
def yoq{o:Nat->Bool}{f:Nat->Int}(h:Fv g o r t f)(k:t<Γ g.T)(b:sqT g o r t=true):Fv g o r (t+1) (setI f t (f t+1)):=λs d=>by
 have a:=h s d;by_cases e:s=t
 .subst e;rw[if_neg (Fdo s)]at a;rw[if_pos Z,Ng];have i:f s=r:=by
   by_cases j:r=0
   .subst j;have:=a.1;have:=a.2.1;omega
   .have:=(a.2.2 (r-1) Z).2 (gi Z b);have:=a.2.1;omega
  rw[i];refine⟨Z,Z,λq l=>⟨λ_=>gi Z b,λ_=>Z⟩⟩
 .rw[Ln _ _ e];by_cases c:s<t
  .rw[if_pos c]at a;rw[if_pos Z];exact a
  .rw[if_neg c]at a;rw[if_neg Z];exact a
def bk(g:Gnd)(o:Nat->Bool)(f:Nat->Int):Prop:=∀t,t<Γ g.T->∀s:Nat,(s:Int)<f t↔sqT g o s t=true
def yot{o:Nat->Bool}{f:Nat->Int}(h:Fv g o r 0 f)(d:∀t,t<Γ g.T->sqT g o r t=false):bk g o f:=λt b s=>by
 have a:=h t b;rw[if_neg (Fav t)]at a;by_cases e:s<r
 .exact a.2.2 s e
 .constructor
  .intro c;have:=a.2.1;omega
  .intro c;have:=gi (s:=r) Z c;rw[d t b]at this;cases this
theorem yoo{l:List Bld}{c:Int}{f:Nat->Int}(h:bk g (yp g l c) f){s:Int}(b:0<=s)(a:t<Γ g.T):decide (s<f t)=zn g l c s t:=by rw[Fbm,decide_eq_true_iff];have:=h t a s.toNat;rw[show((s.toNat:Nat):Int)=s by omega]at this;exact this
def nxF(g:Gnd)(o:Nat->Bool)(r t:Nat)(v:Bool)(s:Nat):Bool:=if s<t then sqT g o (r+1) s else(decide (s=t)&&v)
def D5(g:Gnd)(o:Nat->Bool)(r t:Nat):Bool:=(List.range t).any (sqT g o (r+1))
def ym2(g:Gnd)(o:Nat->Bool)(r t:Nat):D5 g o r (t+1)=(D5 g o r t||sqT g o (r+1) t):=by unfold D5;rw[Fdp,List.any_append];simp
theorem ylb(g:Gnd)(o:Nat->Bool)(r:Nat):nxF g o r 0 false=λ_=>false:=funext λs=>by unfold nxF;rw[if_neg (Fav s),Feg]
theorem zc4(g:Gnd)(o:Nat->Bool)(r t:Nat):nxF g o r t (sqT g o (r+1) t)=nxF g o r (t+1) false:=funext λs=>by
 unfold nxF;by_cases h:s<t
 .rw[if_pos h,if_pos Z]
 .rw[if_neg h];by_cases e:s=t
  .subst e;rw[if_pos Z];simp
  .rw[if_neg Z];simp[e]
theorem yld(g:Gnd)(o:Nat->Bool)(r n:Nat):∀t,t<n->nxF g o r n false t=sqT g o (r+1) t:=λt a=>if_pos a
theorem zc5(g:Gnd)(o:Nat->Bool)(r t:Nat)(v:Bool):nxF g o r t v t=v:=by unfold nxF;rw[if_neg (Fdo t)];simp
theorem ylc(g:Gnd)(o:Nat->Bool)(r t:Nat)(v u:Bool){s:Nat}(h:s≠t):nxF g o r t v s=nxF g o r t u s:=by
 unfold nxF;split
 .rfl
 .simp[h]
end
section
variable {g:Gnd} {c:Int} {t way goal:Nat}
def yi(g:Gnd)(t way:Nat):Int:=(j4 g t).getD way (-1)
def Gx(g:Gnd)(c:Int)(t:Nat):Int:=Bo c (g.T.getD t 5).toNat
def vz(ok:Nat->Bool)(u:Int):Bool:=decide (0<=u)&&ok u.toNat
def H6(way:Nat):Nat:=way-4
def H5(way:Nat):Nat:=(way-3)%4
def qk(g:Gnd)(ok:Nat->Bool)(c:Int)(t way:Nat):Int:=
 if vz ok (yi g t way)then
  (if way<4 then 5*(Gx g c t+Gx g c (yi g t way).toNat)
   else if vz ok (yi g t (H6 way))/\vz ok (yi g t (H5 way))then 7*(Gx g c t+Gx g c (yi g t way).toNat)else 0)
 else 0
def jo(g:Gnd)(ok:Nat->Bool)(c:Int)(t u:Nat)(k:Int):Prop:=ok t=true/\t<Γ g.T/\∃way,way<8/\yi g t way=(u:Int)/\ok u=true/\k=qk g ok c t way/\0<k
theorem Oo{ok:Nat->Bool}:∀t u k,jo g ok c t u k->0<k:=λt u k h=>by obtain⟨_,_,w,_,_,_,_,h⟩:=h;exact h
def dp(d:zt g)(b:way<8):yi g t way=-1\/∃u:Nat,yi g t way=u/\u<Γ g.T:=by
 unfold yi;have a:way<(j4 g t).length:=by rw[L6];exact b
 rw[Fbo,Fac a];exact zda d (Faa a)
def n9{ok:Nat->Bool}{u:Int}(h:vz ok u=true):0<=u/\ok u.toNat=true:=by unfold vz at h;simpa using h
def ge{ok:Nat->Bool}(h:qk g ok c t way≠0):vz ok (yi g t way)=true:=by
 unfold qk at h;split at h
 .assumption
 .exact absurd rfl h
def zgc{ok:Nat->Bool}(d:ok t=true)(a:t<Γ g.T)(b:way<8)(h:0<qk g ok c t way):jo g ok c t (yi g t way).toNat (qk g ok c t way):=by obtain⟨f,e⟩:=n9 (ge (g:=g) (ok:=ok) (c:=c) (t:=t) (way:=way) Z);exact⟨d,a,way,b,Z,e,rfl,h⟩
def Nn(c:Int)(t:Nat):0<=Bo c t/\Bo c t<=6:=by
 have h:∀l∈[[2,1,3,5,0,0],[2,1,6,0,0,0],[2,1,0,3,2,0]],∀t:Nat,0<=(l:List Int).getD t 0/\(l:List Int).getD t 0<=6:=by
  intro l a t;simp only[Fa7,Fcg,or_false]at a;by_cases b:t<6
  .have:t=0\/t=1\/t=2\/t=3\/t=4\/t=5:=Z;rcases a with rfl|rfl|rfl<;>rcases this with rfl|rfl|rfl|rfl|rfl|rfl<;>decide
  .rcases a with rfl|rfl|rfl<;>(rw[Fbo,Fb4 χ];decide)
 unfold Bo;split
 .exact h _ φ t
 .split
  .exact h _ φ t
  .exact h _ φ t
def Vq(g:Gnd)(ok:Nat->Bool)(c:Int)(t way:Nat):0<=qk g ok c t way/\qk g ok c t way<=84:=by
 have b:=Nn c (g.T.getD t 5).toNat;have a:=Nn c (g.T.getD (yi g t way).toNat 5).toNat;unfold qk Gx;split
 .split
  .omega
  .split<;>omega
 .omega
open Classical in
noncomputable def jc(g:Gnd)(ok:Nat->Bool)(c:Int)(goal:Nat):Nat->Int:=
 if ok goal=true then(if h:∃d,FarOK (jo g ok c) goal d then h.choose else λ_=>-1)else λ_=>-1
def zf1{ok:Nat->Bool}(a:ok goal=true){d:Nat->Int}(h:FarOK (jo g ok c) goal d):jc g ok c goal=d:=by
 unfold jc;rw[if_pos a];have b:∃d,FarOK (jo g ok c) goal d:=⟨d,h⟩
 rw[dif_pos b];exact yqy Oo b.choose_spec h
theorem zf0{ok:Nat->Bool}(a:ok goal=false):jc g ok c goal=λ_=>-1:=by unfold jc;rw[if_neg (by simp[a])]
noncomputable def xe(g:Gnd)(ok:Nat->Bool)(c:Int)(d:Nat->Int)(t:Nat):Int:=
 if d t<=0 then -1 else match(List.range 8).find? λway=>decide (0<qk g ok c t way/\0<=d (yi g t way).toNat/\qk g ok c t way+d (yi g t way).toNat=d t)with
  |some way=>(way:Int)
  |none=>-1
end
def zet{F N S:Store}(e:zl F N):((F.un N).un S).Has (F.un S):=by
 refine⟨λb y h=>?_,λb x h=>?_⟩
 .rcases sy h with a|⟨a,d⟩
  .exact zh a
  .have c:(F.un N).obj b=Δ y:=yf e d;show(match S.obj b with|some y=>Δ y|none=>(F.un N).obj b)=Δ y;rw[a];exact c
 .rcases sx h with a|⟨a,d⟩
  .exact H2 a
  .have c:(F.un N).tok b=Δ x:=Lh e d;show(match S.tok b with|some y=>Δ y|none=>(F.un N).tok b)=Δ x;rw[a];exact c
def Hd{l:List Unt}(f:yw l){a b:Nat}(h:a<b)(g:b<Γ l):(l[a]'Z).id<l[b].id:=by
 induction b with
 |zero=>omega
 |succ b d=>
  have c:=f (b+1) g Z;simp only[Fec]at c;by_cases e:a=b
  .subst e;exact c
  .have:=d Z Z;omega
theorem Ke{l:List Unt}(c:yw l){u v:Unt}(e:u∈l)(d:v∈l)(h:u.id=v.id):u=v:=by
 obtain⟨a,g,rfl⟩:=Faj e;obtain⟨b,f,rfl⟩:=Faj d;rcases Nat.lt_trichotomy a b with q|q|q
 .have:=Hd c q f;omega
 .subst q;rfl
 .have:=Hd c q g;omega
def Fp(w:Wld)(L:List Ent):Prop:=∀e,e∈L↔∃u∈w.U,u.inn=0/\e=(u.id,u.pos)
def Lu{w:Wld}{L:List Ent}(h:Fp w L)(b:∀u∈w.U,u.pos.ok):∀e∈L,e.2.ok:=λe c=>by obtain⟨u,a,_,rfl⟩:=(h e).1 c;exact b u a
def L5(w:Wld)(p:Vc)(r:Int)(a:List Unt):Prop:=∀u,u∈a↔(u∈w.U/\u.inn=0)/\near p u.pos r=true
def zc9{w:Wld}{L:List Ent}(i:yw w.U)(k:Fp w L){p:Vc}{r:Int}{a:List Int}(j:Sq L p r a){d:List Unt}(l:d.map (·.id)=a)(h:∀u∈d,u∈w.U/\u.inn=0):L5 w p r d:=by
 intro u;constructor
 .intro f;refine⟨h u f,?_⟩;have:u.id∈a:=by rw[<-l];exact Fag.2 ⟨u,f,rfl⟩
  obtain⟨e,n,c,g⟩:=(j.2 _).1 this;obtain⟨v,b,_,rfl⟩:=(k e).1 n;rw[Ke i (h u f).1 b c.symm];exact g
 .rintro⟨⟨c,g⟩,t⟩;have:u.id∈a:=(j.2 _).2 ⟨(u.id,u.pos),(k _).2 ⟨u,c,g,rfl⟩,rfl,t⟩;rw[<-l]at this;obtain⟨v,b,o⟩:=Fag.1 this;rw[Ke i c (h v b).1 o.symm];exact b
theorem Cg(k:Int):0<zw k/\zw k<=81920:=by unfold zw;split<;>(try split)<;>omega
def Hp(k:Int):yk k=0\/yk k=1\/yk k=2:=by unfold yk;split<;>(try split)<;>(try split)<;>omega
theorem zc8{a b:Vc}{r r':Int}(h:r<=r')(c:near a b r=true):near a b r'=true:=by unfold near at*;rw[decide_eq_true_iff]at*;have:r*r<=r'*r':=Fa9 h h Z Z;omega
def zg3{w:Wld}{id k:Int}{q:Vc}{d:List Unt}(f:Cy w.G w.B (yk k) q (zw k))(b:L5 w q (zw k+81920) d):
  qi w id k q↔∀u∈d,u.id≠id->wt q (zw k) u.pos (zw u.kind)=true:=by
 constructor
 .intro h u c a;have:=(b u).1 c;exact h.2 u this.1.1 this.1.2 a
 .intro h;refine⟨f,λu c i a=>?_⟩;unfold wt;cases e:near q u.pos (zw k+zw u.kind)with
  |false=>rfl
  |true=>
   have g:=zc8 (r':=zw k+81920) (by have:=Cg u.kind;omega) e;have:=h u ((b u).2 ⟨⟨c,i⟩,g⟩) a;unfold wt at this;rw[e]at this;exact this
end Go.V
namespace Go.V
def qa{α:Type}(f:α->AV)(e:Int×α):AV×AV:=(int e.1,f e.2)
def qe{α:Type}(a:List (Int×α))(k:Int):Option α:=(a.find? λe=>k==e.1).map (·.2)
def yz{α:Type}:List (Int×α)->Int->α->List (Int×α)
 |[],k,v=>[(k,v)]
 |e::l,k,v=>if k==e.1 then(k,v)::l else e::yz l k v
theorem oh{α:Type}(f:α->AV)(a:List (Int×α))(k:Int):(a.map (qa f)).find? (qA k)=(a.find? λe=>k==e.1).map (qa f):=by rw[List.find?_map];rfl
theorem Ie{α:Type}(f:α->AV)(a:List (Int×α))(k:Int)(z:AV):Gl false z ((a.map (qa f)).find? (qA k))=((qe a k).map f).getD z:=by
 rw[oh];unfold qe;cases a.find? λe=>k==e.1 with
 |none=>rfl
 |some e=>rfl
def zcd{α:Type}(f:α->AV)(k:Int)(v:α):∀b:List (Int×α),
  (match(b.map (qa f)).findIdx? (qA k)with|some i=>(b.map (qa f)).set i (int k,f v)|none=>b.map (qa f)++[(int k,f v)])=(yz b k v).map (qa f)
 |[]=>rfl
 |e::l=>by
  have a:=zcd f k v l;rw[Fb5,List.findIdx?_cons];unfold yz;by_cases h:k==e.1
  .have c:qA k (qa f e)=true:=h;rw[c];simp only[h,if_true,List.set_cons_zero,Fb5];rfl
  .have h:(k==e.1)=false:=by simpa using h
   have c:qA k (qa f e)=false:=h;rw[c];simp only[h,if_false,Fb5];cases d:(l.map (qa f)).findIdx? (qA k)with
   |none=>rw[d]at a;simp at a⊢;exact a
   |some i=>rw[d]at a;simp at a⊢;exact a
def L8{α:Type}(f:α->AV)(b:List (Int×α))(g:List Nat)(c:Nat)(k:Int)(v:α):∃d a,Aa (b.map (qa f)) g c (qA k) (int k) (f v)=.map ((yz b k v).map (qa f)) d a:=by
 have h:=zcd f k v b;unfold Aa;cases e:(b.map (qa f)).findIdx? (qA k)with
 |none=>rw[e]at h;exact⟨_,_,by rw[<-h]⟩
 |some i=>rw[e]at h;exact⟨_,_,by rw[<-h]⟩
theorem Dr{α:Type}(k:Int)(v:α)(j:Int):∀f:List (Int×α),qe (yz f k v) j=if j=k then Δ v else qe f j
 |[]=>by unfold yz qe;by_cases h:j=k<;>simp[h]
 |e::l=>by
  have d:=Dr k v j l;unfold qe at d⊢;by_cases h:k=e.1
  .have c:(k==e.1)=true:=by simpa using h
   rw[show yz (e::l) k v=(k,v)::l by unfold yz;simp[c]];by_cases a:j=k
   .simp[a]
   .have b:(j==k)=false:=by simpa using a
    have g:(j==e.1)=false:=by rw[<-h];exact b
    rw[List.find?_cons,List.find?_cons,if_neg a];simp only[b,g]
  .have c:(k==e.1)=false:=by simpa using h
   rw[show yz (e::l) k v=e::yz l k v by rw[yz];simp[c]];rw[List.find?_cons,List.find?_cons];by_cases a:j=e.1
   .have b:(j==e.1)=true:=by simpa using a
    simp only[b];rw[if_neg Z]
   .have b:(j==e.1)=false:=by simpa using a
    simp only[b];exact d
end Go.V
namespace Go.V
theorem Ru{l:List Unt}{i:Nat}(a:i<Γ l)(id:Int):((z6 (l.take (i+1)) id).length:Int)=((z6 (l.take i) id).length:Int)+(if l[i].inn=id then 1 else 0):=by
 unfold z6;rw[Fab a,Fcu,Fa8,Fad];by_cases h:l[i].inn=id
 .simp[h]
 .simp[h]
def Rv{l:List Unt}(i:Nat)(id:Int):(z6 (l.take i) id).length<=(z6 l id).length:=by
 have h:(z6 l id).length=(z6 (l.take i) id).length+(z6 (l.drop i) id).length:=by unfold z6;rw[<-Fad,<-Fa8,<-Fcu,Fcb]
 omega
def ii(w:Wld)(i:Nat):Prop:=
 (∀j,(h:j<Γ w.U)->j<i->w.U[j].inn≠0->∃x∈w.U,x.id=w.U[j].inn/\(x.inn=0/\x.owner=w.U[j].owner)/\j6 w.U[j].kind=0/\w.U[j].pos=(0,0)/\w.U[j].goal=-1/\w.U[j].state=0)∧
 ∀x∈w.U,x.id≠0->((z6 (w.U.take i) x.id).length:Int)<=j6 x.kind
def yh7{w:Wld}(h:ii w (Γ w.U)):∀u∈w.U,u.inn≠0->Ce w u:=by intro u e a;obtain⟨j,d,rfl⟩:=Faj e;obtain⟨x,c,b,l,k,i,g,f⟩:=h.1 j d d a;have:=h.2 x c (by rw[b];exact a);rw[Fal,b]at this;exact⟨x,c,b,l,this,k,i,g,f⟩
theorem Mc(k:Int):0<=j6 k/\j6 k<=4:=by unfold j6;split<;>(try split)<;>(try split)<;>omega
end Go.V
namespace Go.V
def I2(w:Wld)(i:Nat):Prop:=∀j,(h:j<Γ w.U)->j<i->(k9 w w.U[j]/\∀b∈w.B,b.id≠w.U[j].id)/\(0<j->(w.U[j-1]'Z).id<w.U[j].id)
def ss{w:Wld}(h:I2 w (Γ w.U)):Lg w:=by refine⟨λj a c=>(h j a a).2 c,λu b=>?_⟩;obtain⟨j,a,rfl⟩:=Faj b;exact(h j a a).1
def sr{w:Wld}(h:Lg w)(i:Nat):I2 w i:=λj a _=>⟨h.2 _ (Faa a),h.1 j a⟩
end Go.V
namespace Go.V
def RowsO{α:Type}(k:Nat)(f:α->List AV)(c:Store)(v:AV)(l:List α):Prop:=
 (v=.s (.slice Θ 0 0)/\l=[])\/∃b a L,v=.s (.slice (Δ ⟨b,0,Θ⟩) (Γ l) a)/\c.obj b=Δ (.cells ((rws f l).flatten++L))/\Γ l<=a/\a*k<=Γ l*k+Γ L/\a<=9223372036854775807
section
variable {α:Type} {f:α->List AV} {k:Nat}
theorem qu(c:∀x,(f x).length=k)(l:List α):(rws f l).flatten.length=Γ l*k:=by
 induction l with
 |nil=>simp[rws]
 |cons a l b=>
  show(f a++(rws f l).flatten).length=(Γ l+1)*k;rw[Fad,c,b,Fd0];omega
theorem H7(a b:List α):(rws f (a++b)).flatten=(rws f a).flatten++(rws f b).flatten:=by rw[<-Ni,Fd9]
theorem Po{l:List α}{i:Nat}(a:i<Γ l):(rws f l).flatten=(rws f (l.take i)).flatten++(f l[i]++(rws f (l.drop (i+1))).flatten):=by
 have e:l=l.take i++(l[i]::l.drop (i+1)):=by rw[<-Fcs a,Fcb]
 have b:(rws f (l[i]::l.drop (i+1))).flatten=f l[i]++(rws f (l.drop (i+1))).flatten:=rfl;rw[<-b,<-H7,<-e]
theorem yab{X a b:List AV}{j:Nat}(h:j+Γ b<=Γ X):zu (X++a) j b=zu X j b++a:=by unfold zu;rw[Fb6 Z,List.drop_append_of_le_length Z];simp only[Faq]
theorem Lm(b:∀x,(f x).length=k){l:List α}{i j:Nat}(hi:i<Γ l){x':α}{ys L:List AV}(h:j+Γ ys<=k)(c:f x'=zu (f l[i]) j ys):
  zu ((rws f l).flatten++L) (i*k+j) ys=(rws f (l.set i x')).flatten++L:=by
 have d:(rws f (l.take i)).flatten.length=i*k:=by rw[qu b,Fah,Fd8 Z]
 have a:i<(l.set i x').length:=θj;rw[Po hi,Po a,Faq,Faq,<-d,uq];have g:(l.set i x').take i=l.take i:=by rw[List.take_set_of_le (Fai i)]
 have e:(l.set i x').drop (i+1)=l.drop (i+1):=by rw[List.drop_set_of_lt Z]
 rw[g,e,Fbi,c];have n:=b l[i];rw[Faq,yab Z];simp only[Faq]
theorem RowsO.un{a g:Store}{v:AV}{l:List α}(h:RowsO k f g v l):RowsO k f (a.un g) v l:=by
 rcases h with h|⟨i,b,L,e,d,c⟩
 .exact .inl h
 .exact .inr ⟨i,b,L,e,zh d,c⟩
def RowsO.unL{a g:Store}{v:AV}{l:List α}(h:RowsO k f a v l)(c:zl a g):RowsO k f (a.un g) v l:=by
 rcases h with h|⟨j,b,L,i,e,d⟩
 .exact .inl h
 .exact .inr ⟨j,b,L,i,yf c e,d⟩
def RowsO.borrow{c:Store}{v:AV}{l:List α}(z:∀x,(f x).length=k)(t:∀x,∀y∈f x,∃u,y=AV.s u/\xq u=true)(p:RowsO k f c v l){a M:BB}{w:World}(sto:StoreOK c a M w){x:Value}(g:VRel w (λb o=>M b o\/a b o) v x):
  VRel w (λb o=>(M b o\/a b o)/\c.obj b=Θ) (lst k f l) x:=by
 rcases p with⟨rfl,rfl⟩|⟨b,B,L,rfl,h,A,D,C⟩
 .cases g;exact AV.le_nil k _ _ _ (.s _)
 .cases g
  exact zhm (sto.obj b _ h).1 (λo i=>by rw[h]at i;exact absurd i.2 φ) (zj l) A
   (λd e=>by obtain⟨n,_,rfl⟩:=Fag.1 e;exact z n) (λd e y j=>by obtain⟨n,_,rfl⟩:=Fag.1 e;exact t n y j)
def O3{P:Program}{c:Cfg}{e:TypeId}{ie:TI}(o:c.I e=Δ ie)(E:∀x,(f x).length=ie.size)(z:ie.bytes<=1000){u:Store}{v:AV}{l:List α}(G:RowsO ie.size f u v l)(x:α){n:AV}(g:vw ie.size (.av n)=Δ [f x])(D:Γ l<=1000000000){K:Ja}
  (h:∀b d L,(Fresh u b\/∃S,v=.s (.slice (Δ ⟨b,0,Θ⟩) (Γ l) S))->(l++[x]).length<=d->d*ie.size<=(l++[x]).length*ie.size+Γ L->d<=9223372036854775807->
   K (.s (.slice (Δ ⟨b,0,Θ⟩) (l++[x]).length d)) (u.sO b (.cells ((rws f (l++[x])).flatten++L)))):appendK P c u e (.av v) (.av n) K:=by
 refine⟨.inr ⟨v,_,rfl,rfl,?_⟩⟩;have w:(l++[x]).length=Γ l+1:=φ;have p:=qu E l;have hmul:(Γ l+1)*ie.bytes<=1000000001*1000:=Fc5 Z z;have happ:(rws f (l++[x])).flatten=(rws f l).flatten++f x:=by rw[H7];show _++(f x++[])=_;rw[Fbq]
 rcases G with⟨rfl,rfl⟩|⟨b,d,L,rfl,H,R,Q,M⟩
 .refine zh8 o g ⟨by simp at hmul⊢;omega,φ⟩ φ (λC a A j i=>?_);have:=h C a (List.replicate ((a-[f x].length)*ie.size) .any) (.inl A) (by simpa using j) (by
   simp only[Fbh,Fde,Fao,<-Fch];exact Fa3 _ Z) i
  exact this
 .refine Sk o (cap:=d) H (by rw[Fad,p];exact Q) R g ⟨χ,χ⟩ (λj=>?_) (λj C a A t i=>?_)
  .have j:Γ l+1<=d:=j;have y:(Γ l+1)*ie.size<=d*ie.size:=Fa3 _ j;rw[Fd0]at y;have B:zu ((rws f l).flatten++L) (Γ l*ie.size) [f x].flatten=(rws f (l++[x])).flatten++L.drop ie.size:=by
    rw[Fh p,happ];simp[E x]
   have:=h b d (L.drop ie.size) (.inr ⟨d,rfl⟩) Z (by rw[w,Fd0,Fc8];omega) M;rw[w,<-B]at this;exact this
  .have t:Γ l+1<=a:=t;have B:((rws f l).flatten++L).take (Γ l*ie.size)++[f x].flatten++List.replicate ((a-(Γ l+1))*ie.size) .any=(rws f (l++[x])).flatten++List.replicate ((a-(Γ l+1))*ie.size) .any:=by
    rw[Fb6 Z,Fbz Z,happ];simp
   have:=h C a (List.replicate ((a-(Γ l+1))*ie.size) .any) (.inl A) Z (by rw[w,Fbh,<-Fch];exact Fa3 _ Z) i;rw[w,<-B]at this;exact this
end
theorem yx(u:Unt):(zf u).length=10:=rfl
def fi(u:Unt):∀y∈zf u,∃x,y=AV.s x/\xq x=true:=by intro y a;simp[zf]at a;rcases a with rfl|rfl|rfl|rfl|rfl|rfl|rfl|rfl|rfl|rfl<;>exact⟨_,rfl,rfl⟩
def zy(w:Wld)(v:AV):List AV:=[int w.tick,int w.players,int w.next,int w.G.W,int w.G.H,yn w.G.T,lst 6 zk w.B,v]
def Gf{l:List Unt}(f:yw l){a b:Nat}(h:a<b)(g:b<Γ l):(l[a]'Z).id<l[b].id:=by
 induction b with
 |zero=>omega
 |succ b d=>
  have c:=f (b+1) g Z;simp only[Fec]at c;by_cases e:a=b
  .subst e;exact c
  .have:=d Z Z;omega
def kh{i:TI}{A:Fr}{a:Store}{b o:Nat}{v:AV}{xs l:List AV}{K:Fr->Store->Prop}(g:cellsOf v=Δ xs)(h:xs.all AV.one=true)(f:i.size=Γ xs)(c:a.obj b=Δ (.cells l))(d:o+Γ xs<=Γ l)
  (e:K A (a.sO b (.cells (zu l o xs)))):Dz i A a (.av (.s (.pointer (Δ ⟨b,o,Θ⟩)))) v K:=by
 unfold Dz;rw[g];show(bif Nat.beq (Γ xs) i.size&&(xs.all AV.one)then _ else False);rw[f];simp only[h,Fbu,Fdr,cond_true];rw[c];exact⟨d,Cz e⟩
def P0(k:Int):24576<=zw k/\zw k<=81920:=by unfold zw;split<;>(try split)<;>omega
def R3{g:Gnd}(a:zt g){l:List Bld}{c:Int}{p:Vc}{k:Int}(h:Cy g l c p (zw k)):(24576<=p.1/\p.1+24576<=g.W*65536)/\(24576<=p.2/\p.2+24576<=g.H*65536)/\(p.1<=8388608/\p.2<=8388608):=by have f:=h.1;have e:=P0 k;obtain⟨⟨_,d⟩,⟨_,b⟩,_⟩:=a;omega
def wh(g:Gnd)(p:Vc):Nat:=(p.1/65536+g.W*(p.2/65536)).toNat
def f7{g:Gnd}(b:zt g){p:Vc}(h:(0<=p.1/\p.1<g.W*65536)/\(0<=p.2/\p.2<g.H*65536)):
  ((wh g p:Nat):Int)=p.1/65536+g.W*(p.2/65536)/\wh g p<Γ g.T/\((wh g p:Nat):Int)%g.W=p.1/65536/\((wh g p:Nat):Int)/g.W=p.2/65536:=by
 have a:=Lk b (x:=p.1/65536) (y:=p.2/65536) Z Z;have c:=qg b;unfold wh;generalize p.1/65536=x at*;generalize p.2/65536=y at*;have e:((x+g.W*y).toNat:Int)=x+g.W*y:=Z;rw[e];exact⟨rfl,Z,a.2.2.1,a.2.2.2⟩
def ACalls.frozen{P:Program}{f:FuncId}{xs:List AV}{Q:Ja}{R:AV->Prop}(h:ACalls P f xs Store.empty Q)
  (K:∀r S,Q r S->∃l,R l/\∀(a M:BB) (w:World) (v:Value),StoreOK S a M w->VRel w (λb o=>M b o\/a b o) r v->VRel w (λb o=>(M b o\/a b o)/\S.obj b=Θ) l v):
  ACalls P f xs Store.empty λr _=>R r:=by
 refine⟨λa M w z sto C=>?_⟩;have c:=h.out a M w z sto C;have key:∀v j,xg Store.empty Q a M w v j->xg Store.empty (λr _=>R r) a M w v j:=by
  rintro v j ⟨r,S,A,D,p,i,d⟩;obtain⟨l,t,G⟩:=K r S D;refine⟨l,Store.empty,λb o=>A b o/\S.obj b=Θ,t,(G a A j v i p).mono λb o I=>?_,?_,?_⟩
  .rcases I with⟨c,L⟩|c
   .exact⟨.inl c,L⟩
   .refine⟨.inr c,?_⟩;cases u:S.obj b with
    |none=>rfl
    |some y=>exact absurd ((i.obj b y u).2 o) (i.dis b o c)
  .exact{obj:=λb x hx=>θc,tok:=λb x hx=>θc,mlt:=λb o k=>i.mlt b o k.1,olt:=i.olt,dis:=λb o E k=>i.dis b o E k.1}
  .exact{size:=d.size,keep:=d.keep,blk:=d.blk,shp:=d.shp,sub:=λb o k u=>d.sub b o k.1 u,tape:=d.tape,os:=d.os,output:=d.output}
 generalize(callFunc f z).run P w=res at c;cases res with
 |ok n j=>
  cases n with
  |enter g args=>exact Calls.mono c λe B ⟨v,H,p⟩=>⟨v,H,key _ _ p⟩
  |value v=>exact key _ _ c
  |_=>exact c
 |_=>exact c
def ACalls.frozenTo{P:Program}{f:FuncId}{xs:List AV}{d:Store}{Q:Ja}{R:Ja}(h:ACalls P f xs d Q)
    (W:∀r S,Q r S->∃A l,R A l/\(∀b x,l.obj b=Δ x->S.obj b=Δ x)/\(∀b x,l.tok b≠Δ x)∧
      ∀(a M:BB) (w:World) (v:Value),StoreOK S a M w->VRel w (λb o=>M b o\/a b o) r v->VRel w (λb o=>(M b o\/a b o)/\(S.obj b=Θ\/l.obj b≠Θ)) A v):
    ACalls P f xs d R:=by
  refine⟨λa M w H sto K=>?_⟩;have c:=h.out a M w H sto K;have key:∀v p,xg d Q a M w v p->xg d R a M w v p:=by
    rintro v p ⟨r,S,B,L,C,j,k⟩;obtain⟨A,l,D,i,u,U⟩:=W r S L;have G:∀b o,((B b o/\(S.obj b=Θ\/l.obj b≠Θ))\/a b o)->(B b o\/a b o):=λb o h=>h.imp (·.1) id;refine⟨A,l,λb o=>B b o/\(S.obj b=Θ\/l.obj b≠Θ),D,(U a B p v j C).mono λb o G=>?_,?_,?_⟩
    . rcases G with⟨c,X⟩|c
      . exact⟨.inl c,X⟩
      . refine⟨.inr c,?_⟩
        cases E:S.obj b with
        |none=>exact .inl rfl
        |some y=>exact absurd ((j.obj b y E).2 o) (j.dis b o c)
    . exact { obj:=λb x t=>⟨(j.obj b x (i b x t)).1.mono G,λo=>⟨(j.obj b x (i b x t)).2 o,.inr (by rw[t];simp)⟩⟩
              tok:=λb x t=>absurd t (u b x),mlt:=λb o z=>j.mlt b o z.1,olt:=j.olt,dis:=λb o T z=>j.dis b o T z.1}
    . exact{size:=k.size,keep:=k.keep,blk:=k.blk,shp:=k.shp,sub:=λb o z E=>k.sub b o z.1 E,tape:=k.tape,os:=k.os,output:=k.output}
  generalize(callFunc f H).run P w=res at c;cases res with
  | ok n p=>
    cases n with
    |enter g args=>exact Calls.mono c λe I ⟨v,V,C⟩=>⟨v,V,key _ _ C⟩
    |value v=>exact key _ _ c
    |_=>exact c
  |_=>exact c
def M9(a:Option Addr):Prop:=∀x,a=Δ x->x.spot=Θ
section
variable {P:Program} {c:Cfg} {st:Store}
def rh{e:TypeId}{ie:TI}(v:c.I e=Δ ie){a:Option Addr}{x:AV}{rows:List (List AV)}(o:vw ie.size (.av x)=Δ rows)(n:room (Γ rows) ie.bytes)(η:0<Γ rows){K:Ja}
  (h2:∀S b,Fresh st S->Γ rows<=b->b<=9223372036854775807->K (.s (.slice (Δ ⟨S,0,Θ⟩) (Γ rows) b)) (st.sO S (.cells (rows.flatten++List.replicate ((b-Γ rows)*ie.size) .any)))):
  AppX P c st e (.s (.slice a 0 0)) x K:=by
 refine⟨⟨ie,v⟩,λε j ν M w sv X d ty z t sto E B L D hu C h0 Q=>?_⟩;rw[v]at j;cases j;have E:=VRel.eq_s E;subst E;have A:AppArgs P c d z t e ie a 0 0 X:=⟨L,D,hu,C,h0,Q⟩
 obtain⟨G,ι,p,u,T,U,H⟩:=I8 (P:=P) (β:=λ_=>0) (k:=ie.size) (x:=.av x) B o;obtain⟨g,h,W,g0,g2,V⟩:=K5 (old:=#[]) ty A G (H w.drew rfl) (by cases a<;>simp[Builtin.firstCells,loadCells,loadCellsFrom]) Z (by simpa using n);have gd:Grow w w.drew:=Grow.drew w;have sto1:=sto.grow gd;obtain⟨f1,R,f3⟩:=Hl sto1 (#[]++p++h) e (l:=rows.flatten++List.replicate h.size .any) (by
  rw[Fbc,Fbc];refine((show Reads w _ rows.flatten ([]++p.toList)from u).append ⟨φ,λi x y o hy=>?_⟩).keep (gd.keeps _);rw[Fbv]at o;split at o
  .cases o;exact .any _
  .cases o)
 rw[g2]at R;simp only[Fbd]at W V R;exact⟨_,_,V,_,_,_,h2 _ g f1 W g0,.s _,R,(gd.chg M).trans f3⟩
def yup{e:TypeId}{ie:TI}(l:c.I e=Δ ie){x:AV}{rows:List (List AV)}(Q:vw ie.size (.av x)=Δ rows)(j:room (Γ rows) ie.bytes){K:Ja}
  (h1:rows=[]->∀a,M9 a->K (.s (.slice a 0 0)) st)
  (h2:0<Γ rows->∀G g,Fresh st G->Γ rows<=g->g<=9223372036854775807->K (.s (.slice (Δ ⟨G,0,Θ⟩) (Γ rows) g)) (st.sO G (.cells (rows.flatten++List.replicate ((g-Γ rows)*ie.size) .any)))):
  AppX P c st e .emp x K:=by
 refine⟨⟨ie,l⟩,λz h H M w sv L d ty i t sto X n u p R o W v=>?_⟩;cases X with
 |emp a ha=>
  by_cases S:0<Γ rows
  .exact(rh l Q j S (h2 S)).out z h H M w _ L d ty i t sto (.s _) n u p R o W v
  .rw[l]at h;cases h;have B:rows=[]:=Fa2 Z;subst B;have A:AppArgs P c d i t e ie a 0 0 L:=⟨u,p,R,o,W,v⟩
   obtain⟨D,ε,y,V,T,U,E⟩:=I8 (P:=P) (β:=λ_=>0) (k:=ie.size) (x:=.av x) n Q;have C:y.toList=[]:=θh;have hrun:=K4 (w':=w) ty A D (E w rfl) φ (λb hb=>by rw[C];simp[storeCells]) (λ_=>rfl);exact⟨_,_,hrun,_,_,M,h1 rfl a ha,.s _,sto,Chg.refl M w⟩
end
def RowsQ{α:Type}(k:Nat)(f:α->List AV)(st:Store)(v:AV)(l:List α):Prop:=
 RowsO k f st v l\/∃a,M9 a/\v=.s (.slice a 0 0)/\l=[]
section
variable {α:Type} {f:α->List AV} {k:Nat}
theorem RowsO.q{st:Store}{v:AV}{l:List α}(h:RowsO k f st v l):RowsQ k f st v l:=.inl h
theorem RowsQ.un{a g:Store}{v:AV}{l:List α}(h:RowsQ k f g v l):RowsQ k f (a.un g) v l:=h.imp (·.un) id
def RowsQ.unL{a g:Store}{v:AV}{l:List α}(h:RowsQ k f a v l)(b:zl a g):RowsQ k f (a.un g) v l:=h.imp (·.unL b) id
def RowsQ.form{st:Store}{v:AV}{l:List α}(h:RowsQ k f st v l):∃e d,v=.s (.slice e (Γ l) d)/\∀i,i<Γ l->∃b L,e=Δ ⟨b,0,Θ⟩/\st.obj b=Δ (.cells ((rws f l).flatten++L)):=by
 rcases h with(⟨rfl,rfl⟩|⟨b,d,L,rfl,g,_⟩)|⟨a,_,rfl,rfl⟩
 .simp_all
 .grind
 simp_all
def RowsQ.borrow{st:Store}{v:AV}{l:List α}(i:∀x,(f x).length=k)(h:∀x,∀y∈f x,∃u,y=AV.s u/\xq u=true)(e:RowsQ k f st v l){d M:BB}{w:World}(sto:StoreOK st d M w){x:Value}(g:VRel w (λb o=>M b o\/d b o) v x):
  VRel w (λb o=>(M b o\/d b o)/\st.obj b=Θ) (lst k f l) x:=by
 rcases e with e|⟨a,j,rfl,rfl⟩
 .exact e.borrow i h sto g
 .cases g;exact .nil k a
theorem RowsQ.sub{S d:Store}{v:AV}{l:List α}(h:RowsQ k f S v l)(g:∀b n c,v=.s (.slice (Δ ⟨b,0,Θ⟩) n c)->d.obj b=S.obj b):RowsQ k f d v l:=by
 rcases h with(h|⟨b,a,L,rfl,e,i⟩)|h
 .exact .inl (.inl h)
 .exact .inl (.inr ⟨b,a,L,rfl,by rw[g b _ _ rfl];exact e,i⟩)
 .exact .inr h
def G6{P:Program}{c:Cfg}{e:TypeId}{ie:TI}(u:c.I e=Δ ie)(R:∀x,(f x).length=ie.size)(A:ie.bytes<=1000){st:Store}{v:AV}{l:List α}(t:RowsQ ie.size f st v l)(x:α){n:AV}(j:vw ie.size (.av n)=Δ [f x])(D:Γ l<=1000000000){K:Ja}
  (h:∀b g L,(Fresh st b\/∃H,0<H/\v=.s (.slice (Δ ⟨b,0,Θ⟩) (Γ l) H))->(l++[x]).length<=g->g*ie.size<=(l++[x]).length*ie.size+Γ L->g<=9223372036854775807->
   K (.s (.slice (Δ ⟨b,0,Θ⟩) (l++[x]).length g)) (st.sO b (.cells ((rws f (l++[x])).flatten++L)))):appendK P c st e (.av v) (.av n) K:=by
 refine⟨.inr ⟨v,_,rfl,rfl,?_⟩⟩;have E:(l++[x]).length=Γ l+1:=φ;have Q:=qu R l;have hmul:(Γ l+1)*ie.bytes<=1000000001*1000:=Fc5 Z A;have happ:(rws f (l++[x])).flatten=(rws f l).flatten++f x:=by rw[H7];show _++(f x++[])=_;rw[Fbq]
 have empty:∀a:Option Addr,l=[]->v=.s (.slice a 0 0)->AppX P c st e v n K:=λa i y=>by subst i y;refine rh u j ⟨χ,φ⟩ φ (λC d B p o=>?_);have:=h C d (List.replicate ((d-[f x].length)*ie.size) .any) (.inl B) (by simpa using p) (by simp only[Fbh,Fde,Fao,<-Fch];grind) o;exact this
 rcases t with(⟨t,i⟩|⟨b,g,L,rfl,M,T,V,S⟩)|⟨a,U,t,i⟩
 .exact empty _ i t
 .refine Sk u (cap:=g) M δ T j ⟨χ,χ⟩ (λp=>?_) (λp C d B w o=>?_)
  .have p:Γ l+1<=g:=p;have z:(Γ l+1)*ie.size<=g*ie.size:=Fa3 _ p;rw[Fd0]at z;have G:zu ((rws f l).flatten++L) (Γ l*ie.size) [f x].flatten=(rws f (l++[x])).flatten++L.drop ie.size:=by grind[Fh]
   have:=h b g (L.drop ie.size) (.inr ⟨g,Z,rfl⟩) Z (by grind[Nat.succ_mul]) S;grind
  .have w:Γ l+1<=d:=w;have G:((rws f l).flatten++L).take (Γ l*ie.size)++[f x].flatten++List.replicate ((d-(Γ l+1))*ie.size) .any=(rws f (l++[x])).flatten++List.replicate ((d-(Γ l+1))*ie.size) .any:=by
    rw[Fb6 Z,Fbz Z,happ];simp
   have:=h C d (List.replicate ((d-(Γ l+1))*ie.size) .any) (.inl B) Z (by rw[E,Fbh,<-Fch];exact Fa3 _ Z) o;rw[E,<-G]at this;exact this
 .exact empty _ i t
def ri{P:Program}{c:Cfg}{e:TypeId}{ie:TI}(o:c.I e=Δ ie)(C:∀x,(f x).length=ie.size)(t:ie.bytes<=1000){st:Store}{l:List α}(w:Γ l<=1000000000){K:Ja}
  (h:∀v N,RowsQ ie.size f N v l->zl N st->K v (N.un st)):appendK P c st e (.av .emp) (.av (lst ie.size f l)) K:=by
 refine⟨.inr ⟨_,_,rfl,rfl,?_⟩⟩;have hmul:Γ l*ie.bytes<=1000000000*1000:=Fc5 Z t;refine yup o (rows:=rws f l) (by simp[vw,lst]) ⟨θg,θg⟩ (λu a B=>?_) (λu b d j y p=>?_)
 .have A:l=[]:=by
   have:=congrArg List.length u;rw[zj]at this;exact Fa2 this
  subst A;have:=h (.s (.slice a 0 0)) Store.empty (.inr ⟨a,B,rfl,rfl⟩) (λb j=>(j.elim (λh=>h rfl) (λh=>h rfl):False).elim)
  rwa [jx]at this
 .rw[zj]at y⊢;have:=h (.s (.slice (Δ ⟨b,0,Θ⟩) (Γ l) d)) (Store.empty.sO b (.cells ((rws f l).flatten++List.replicate ((d-Γ l)*ie.size) .any))) (.inl (.inr ⟨b,d,_,rfl,zd _ _ _,y,by
   simp only[Fbh,<-Fch];exact Fa3 _ Z,p⟩)) (λi g z=>by
    have:i=b:=Decidable.byContradiction λn=>by
     rcases g with g|g
     .rw[zi n]at g;exact g rfl
     .exact g rfl
    subst this;exact fresh_iff.1 j z)
  have e:(Store.empty.sO b (.cells ((rws f l).flatten++List.replicate ((d-Γ l)*ie.size) .any))).un st=st.sO b (.cells ((rws f l).flatten++List.replicate ((d-Γ l)*ie.size) .any)):=by rw[<-Bx (fresh_iff.1 j),jx]
  rw[e]at this;exact this
end
section
variable {w:Wld} {v:AV} {k p:Nat} {S:Store}
def Fe{g:Store}(h:RowsQ 10 zf g v w.U){f M:BB}{W:World}(sto:StoreOK g f M W){x:Value}(a:VRel W (λb o=>M b o\/f b o) (.agg (zy w v)) x):
  VRel W (λb o=>(M b o\/f b o)/\g.obj b=Θ) (.agg (zo w)) x:=by
 cases a with
 |agg _ c j e=>
  refine .agg _ c j λi x y a d=>?_
  match i with
  |0=>simp only[zo,Fam,Fak]at a;subst a;exact qq (e 0 _ y rfl d)
  |1=>simp only[zo,Fap,Fam,Fak]at a;subst a;exact qq (e 1 _ y rfl d)
  |2=>simp only[zo,Fap,Fam,Fak]at a;subst a;exact qq (e 2 _ y rfl d)
  |3=>simp only[zo,Fap,Fam,Fak]at a;subst a;exact qq (e 3 _ y rfl d)
  |4=>simp only[zo,Fap,Fam,Fak]at a;subst a;exact qq (e 4 _ y rfl d)
  |5=>simp only[zo,Fap,Fam,Fak]at a;subst a;exact qq (e 5 _ y rfl d)
  |6=>simp only[zo,Fap,Fam,Fak]at a;subst a;exact qq (e 6 _ y rfl d)
  |7=>simp only[zo,Fap,Fam,Fak]at a;subst a;exact h.borrow yx fi sto (e 7 _ y rfl d)
  |i+8=>simp[zo]at a
def jf(v:AV)(p:Nat):Prop:=∀b n c,v=.s (.slice (Δ ⟨b,0,Θ⟩) n c)->0<c->b≠p
def RowsQ.set{α:Type}{f:α->List AV}{l:List α}(h:RowsQ k f S v l)(d:jf v p)(x:AObj):RowsQ k f (S.sO p x) v l:=by
 rcases h with(h|⟨b,a,L,rfl,e,n,j⟩)|h
 .exact .inl (.inl h)
 .by_cases i:0<a
  .exact .inl (.inr ⟨b,a,L,rfl,by rw[zi (d b _ _ rfl i)];exact e,n,j⟩)
  .have o:a=0:=Z;subst o;have g:l=[]:=Fa2 Z;subst g;exact .inr ⟨_,λx c=>by cases c;rfl,rfl,rfl⟩
 .exact .inr h
def Dj{α:Type}{f:α->List AV}{l:List α}(h:RowsQ k f S v l)(g:S.obj p=Θ):jf v p:=by
 rcases h with(⟨rfl,rfl⟩|⟨b,j,L,rfl,d,u⟩)|⟨a,t,rfl,rfl⟩
 .intro b n c e;simp at e
 .intro y n c e _;simp only[AV.s.injEq,Value.slice.injEq,Fak,Addr.mk.injEq]at e;obtain⟨⟨rfl,_⟩,_⟩:=e;intro i;subst i;rw[g]at d;cases d
 .intro b n c e o;simp only[AV.s.injEq,Value.slice.injEq]at e;omega
def spU(w:Wld)(c:Cmd):Unt:=⟨w.next,c.P,c.N,(c.X,c.Y),-1,-1,0,0,0⟩
def spW(w:Wld)(c:Cmd):Wld:={w with U:=w.U++[spU w c],next:=w.next+1}
def Gs(w:Wld):Prop:=4096<=Γ w.U\/1099511627776<=w.next
open Classical in
noncomputable def spE(w:Wld)(c:Cmd):Int:=if Gs w then 4 else if qi w 0 c.N (c.X,c.Y)then 0 else 5
open Classical in
noncomputable def doE(E:Wld->Cmd->Int)(w:Wld)(c:Cmd):Int:=if¬yd w\/¬jh c\/w.players<c.P then 1 else E w c
open Classical in
noncomputable def doW(E:Wld->Cmd->Int)(W:Wld->Cmd->Wld)(w:Wld)(c:Cmd):Wld:=if doE E w c=0 then W w c else w
theorem Hw{E:Wld->Cmd->Int}{c:Cmd}(h:¬yd w\/¬jh c\/w.players<c.P):doE E w c=1:=by unfold doE;rw[if_pos h]
theorem Ir{E:Wld->Cmd->Int}{c:Cmd}(b:yd w)(a:jh c)(d:c.P<=w.players):doE E w c=E w c:=by
 unfold doE;rw[if_neg];rintro(h|h|h)
 .exact h b
 .exact h a
 .omega
theorem ov{E:Wld->Cmd->Int}{W:Wld->Cmd->Wld}{c:Cmd}(h:doE E w c=0):doW E W w c=W w c:=by unfold doW;rw[if_pos h]
theorem Sa{E:Wld->Cmd->Int}{W:Wld->Cmd->Wld}{c:Cmd}(h:doE E w c≠0):doW E W w c=w:=by unfold doW;rw[if_neg h]
end
end Go.V
namespace Go.V
section
variable {id P:Int} {i:Nat} {w:Wld}
def jy(f:Int->Int):List Int->Int
 |[]=>0
 |a::l=>if f a=0 then jy f l else f a
theorem Sn{f:Int->Int}:∀{l:List Int},(∀j,(h:j<Γ l)->f l[j]=0)->jy f l=0
 |[],_=>rfl
 |a::l,h=>by have b:=h 0 φ;simp only[Fdc]at b;unfold jy;rw[if_pos b];exact Sn λj c=>by have:=h (j+1) χ;simpa using this
theorem Dt{f:Int->Int}:∀{l:List Int} {i:Nat} (b:i<Γ l),(∀j,(h:j<Γ l)->j<i->f l[j]=0)->f l[i]≠0->jy f l=f l[i]
 |[],i,b,_,_=>absurd b (Fav i)
 |a::l,0,b,_,h=>by simp_all[jy]
 |a::l,i+1,b,h,c=>by have d:=h 0 φ Z;simp only[Fdc]at d;simp only[List.getElem_cons_succ]at c⊢;unfold jy;rw[if_pos d];exact Dt (by simpa using b) (λj g e=>by have:=h (j+1) χ Z;simpa using this) c
def H0{f:Int->Int}:∀{l:List Int},jy f l=0->∀a∈l,f a=0
 |[],_,a,c=>by cases c
 |b::l,h,a,c=>by
  unfold jy at h;by_cases d:f b=0
  .rw[if_pos d]at h;rcases Fa7.1 c with rfl|c
   .exact d
   .exact H0 h a c
  grind
def qc(l:List Unt)(id:Int):Option Nat:=l.findIdx? λu=>decide (u.id=id)
def Dw:Unt:=⟨0,0,0,(0,0),0,0,0,0,0⟩
theorem Iq{l:List Unt}(h:qc l id=Δ i):∃a:i<Γ l,l[i].id=id:=by unfold qc at h;rw[Fa5]at h;grind
theorem zfs{l:List Unt}(h:qc l id=Θ):∀u∈l,u.id≠id:=by grind[qc]
theorem Mg{l:List Unt}(a:yw l)(c:i<Γ l)(e:l[i].id=id):qc l id=Δ i:=by
 cases h:qc l id with
 |none=>grind[zfs]
 |some k=>
  obtain⟨b,g⟩:=Iq h;by_cases f:k<i
  .have:=Gf a f c;omega
  .by_cases d:i<k
   .have:=Gf a d b;omega
   .rw[show k=i by omega]
def uAt(w:Wld)(id:Int):Unt:=match qc w.U id with|none=>Dw|some i=>w.U.getD i Dw
def xu(w:Wld)(P id:Int):Int:=match qc w.U id with|none=>3|some i=>if(w.U.getD i Dw).owner=P then(if(w.U.getD i Dw).inn=0 then 0 else 9)else 6
def O9(h:qc w.U id=Δ i):∃a:i<Γ w.U,w.U[i].id=id/\uAt w id=w.U[i]:=by grind[Iq,uAt]
theorem dr(h:qc w.U id=Θ):xu w P id=3/\uAt w id=Dw:=by simp_all[xu,uAt]
theorem ra(h:qc w.U id=Δ i)(a:i<Γ w.U):xu w P id=if w.U[i].owner=P then(if w.U[i].inn=0 then 0 else 9)else 6:=by grind[xu]
def C8(h:xu w P id=0):∃i,∃a:i<Γ w.U,qc w.U id=Δ i/\w.U[i].id=id/\uAt w id=w.U[i]/\w.U[i].owner=P/\w.U[i].inn=0:=by
 cases b:qc w.U id with
 |none=>grind[dr]
 |some i=>
  obtain⟨a,e,c⟩:=O9 b;rw[ra b a]at h;grind
def td(b:∀u∈w.U,u.pos.ok)(id:Int):(uAt w id).pos.ok:=by
 cases a:qc w.U id with
 |none=>rw[(dr (P:=0) a).2];trivial
 |some i=>
  obtain⟨c,e,d⟩:=O9 a;grind
def kj(u:Unt):Unt:={u with goal:=-1,next:=-1,stuck:=0,state:=0}
def y9(l:List Int)(g:Unt->Unt)(U:List Unt):List Unt:=U.map λu=>if u.id∈l then g u else u
theorem Nd(g:Unt->Unt)(U:List Unt):y9 [] g U=U:=by unfold y9;simp
theorem wy(l:List Int)(g:Unt->Unt)(U:List Unt):(y9 l g U).length=Γ U:=by unfold y9;rw[Fas]
theorem Nf{l:List Int}{g:Unt->Unt}{U:List Unt}(a:i<Γ U):(y9 l g U)[i]'(by rw[wy];exact a)=if U[i].id∈l then g U[i]else U[i]:=by unfold y9;rw[Fbj]
theorem Vt{l:List Int}{g:Unt->Unt}(b:∀u,(g u).id=u.id){U:List Unt}(a:i<Γ U):((y9 l g U)[i]'(by rw[wy];exact a)).id=U[i].id:=by grind[Nf]
def gp{l:List Int}{g:Unt->Unt}(c:∀u,(g u).id=u.id){U:List Unt}(d:yw U):yw (y9 l g U):=by
 intro i b e;have a:i<Γ U:=by rw[wy]at b;exact b
 rw[Vt c a,Vt c (show i-1<Γ U by omega)];exact d i a e
theorem Vs{l:List Int}{g:Unt->Unt}{U:List Unt}(b:yw U)(f:i<Γ U):(y9 l g U).set i (g U[i])=y9 (l++[U[i].id]) g U:=by
 apply Fcz
 .rw[Faf,wy,wy]
 intro j k c;have a:j<Γ U:=by rw[wy]at c;exact c
 rw[Nf a,Fc9];by_cases e:i=j
 .grind
 .rw[if_neg e,Nf a];have d:U[j].id≠U[i].id:=by
   by_cases h:i<j
   .have:=Gf b h a;omega
   .have:=Gf b (show j<i by omega) f;omega
  grind
def stW(w:Wld)(c:Cmd):Wld:={w with U:=y9 c.U kj w.U}
def stE(w:Wld)(c:Cmd):Int:=jy (xu w c.P) c.U
theorem yg5{α:Type}{f:α->List AV}{k:Nat}(b:∀x,(f x).length=k){U:List α}(c:i<Γ U)(x:α)(a:List AV):zu ((rws f U).flatten++a) (i*k) (f x)=(rws f (U.set i x)).flatten++a:=by have:=Lm (j:=0) (ys:=f x) (L:=a) (x':=x) b c (by rw[b];omega) (by simp_all[zu]);grind
end
section
variable {P:Program} {c:Cfg} {st:Store}
structure SrcOK(P:Program)(st:Store)(k m:Nat)(x:AV)(xs:List AV):Prop where
  out:∀(Oth M:BB) (w:World) (xv:Value),StoreOK st Oth M w->VRel w (λb o=>M b o\/Oth b o) x xv->
    (Builtin.lenOf xv).run P w=.ok m w/\∃new:Array Value,Reads w (λb o=>M b o\/Oth b o) xs new.toList/\(∀v∈new.toList,xq v=true)/\new.size=m*k/\∀w',w'.heap=w.heap->(Builtin.firstCells k m xv).run P w'=.ok new w'
theorem SrcOK.obj{k m o b cp:Nat}{l:List AV}(A:st.obj b=Δ (.cells l))(G:o+m*k<=Γ l)(C:∀y∈(l.drop o).take (m*k),y.one=true):SrcOK P st k m (.s (.slice (Δ ⟨b,o,Θ⟩) m cp)) ((l.drop o).take (m*k)):=by
  refine⟨λf M w D sto a=>?_⟩;have a:=VRel.eq_s a;subst a;obtain⟨d,e,H,B,_,h,g⟩:=(sto.obj b _ A).1;have hreads:Reads w (λb o=>M b o\/f b o) ((l.drop o).take (m*k)) ((List.range' 0 (m*k)).map λi=>d.getD (o+i) undef):=by refine⟨χ,λi x y u t=>?_⟩;have j:i<m*k:=δ;rw[Fb2 j,Fct]at u;simp[j]at t;grind
  refine⟨by simp[Builtin.lenOf],((List.range' 0 (m*k)).map λi=>d.getD (o+i) undef).toArray,by simpa using hreads,by simpa using zcv hreads C,φ,λn v=>?_⟩;have:=Lo (P:=P) ⟨b,o,Θ⟩ n (λi=>d.getD (o+i) undef) (m*k) 0 #[] (λp z E=>by rw[wu,bg v];simp only[World.cell?,B];have:o+p<d.size:=Z;simp[this]);grind[Builtin.firstCells,loadCells]
def zh7{e:TypeId}{ie:TI}(R:c.I e=Δ ie){b n d:Nat}{l:List AV}{x:AV}{m:Nat}{xs:List AV}(ho:st.obj b=Δ (.cells l))(u:d*ie.size<=Γ l)(hn:n<=d)
    (D:SrcOK P st ie.size m x xs) (z:room (n+m) ie.bytes) {K:Ja}
    (h1:n+m<=d->K (.s (.slice (Δ ⟨b,0,Θ⟩) (n+m) d)) (st.sO b (.cells (zu l (n*ie.size) xs))))
    (h2:d<n+m->∀b' f,Fresh st b'->n+m<=f->f<=9223372036854775807->K (.s (.slice (Δ ⟨b',0,Θ⟩) (n+m) f)) (st.sO b' (.cells (l.take (n*ie.size)++xs++List.replicate ((f-(n+m))*ie.size) .any)))):
    AppX P c st e (.s (.slice (Δ ⟨b,0,Θ⟩) n d)) x K:=by
  refine⟨⟨ie,R⟩,λie' p υ M w sv xv g ty T t sto hs V π ι hu η h0 ς=>?_⟩;rw[R]at p;cases p;have hs:=VRel.eq_s hs;subst hs;have A:AppArgs P c g T t e ie (Δ ⟨b,0,Θ⟩) n d xv:=⟨π,ι,hu,η,h0,ς⟩
  obtain⟨Q,v,o,G,H,S⟩:=D.out υ M w xv sto V;have τ:n*ie.size<=Γ l:=Fb7 (Fa3 _ hn) u;by_cases E:n+m<=d
  . obtain⟨⟨cs,e0,fr,ο,ε,L,hrel⟩,hM⟩:=sto.obj b _ ho
    have hfit:n*ie.size+Γ v.toList<=cs.size:=by rw[Fco,H,<-Fch,<-L];exact Fb7 (Fa3 _ E) u
    obtain⟨w',X,W⟩:=Kb (P:=P) w b (n*ie.size) v.toList 0 w cs e0 fr ο (.inl ε) hfit G;have hrun:=K4 (w':=w') ty A Q (S w rfl) E (λa ha=>by cases ha;rw[wu,Fbd];exact X) (λh=>ω);obtain⟨k1,k2⟩:=Cp sto ho o W;exact⟨_,_,hrun,_,_,M,h1 E,.s _,k1,k2⟩
  . have E:d<n+m:=Z
    obtain⟨U,C,ν,B⟩:=zfn (P:=P) (cap:=d) (sto.obj b _ ho).1 τ;obtain⟨j,k,g1,g0,g2,g3⟩:=K5 ty A Q (S w.drew rfl) (B w.drew rfl) E z;have gd:Grow w w.drew:=Grow.drew w;have sto1:=sto.grow gd;obtain⟨f1,f2,f3⟩:=Hl sto1 (U++v++k) e (l:=l.take (n*ie.size)++xs++List.replicate k.size .any) (by
      rw[Fbc,Fbc];refine((C.append o).append ⟨φ,λi x y D hy=>?_⟩).keep (gd.keeps _);rw[Fbv]at D;split at D
      . cases D;exact .any _
      . cases D)
    have e1:w.drew.heap.size=w.heap.size:=rfl;rw[g2]at f2;exact⟨_,_,g3,_,_,_,h2 E _ j f1 g1 g0,.s _,f2,(gd.chg M).trans f3⟩
end
section
variable {P:Program} {c:Cfg} {st:Store}
def yum{e:TypeId}{ie:TI}(p:c.I e=Δ ie){a:Option Addr}{x:AV}{m:Nat}{xs:List AV}(k:SrcOK P st ie.size m x xs)(j:room m ie.bytes)(ε:0<m){K:Ja}
    (h2:∀Q b,Fresh st Q->m<=b->b<=9223372036854775807->K (.s (.slice (Δ ⟨Q,0,Θ⟩) m b)) (st.sO Q (.cells (xs++List.replicate ((b-m)*ie.size) .any)))):
    AppX P c st e (.s (.slice a 0 0)) x K:=by
  refine⟨⟨ie,p⟩,λX h R M w sv S d ty u t sto C v G B hu z h0 H=>?_⟩;rw[p]at h;cases h;have C:=VRel.eq_s C;subst C;have A:AppArgs P c d u t e ie a 0 0 S:=⟨G,B,hu,z,h0,H⟩
  obtain⟨D,n,o,T,U,E⟩:=k.out R M w S sto v;obtain⟨f,g,W,g0,g2,V⟩:=K5 (old:=#[]) ty A D (E w.drew rfl) (by cases a<;>simp[Builtin.firstCells,loadCells,loadCellsFrom]) Z (by simpa using j);have gd:Grow w w.drew:=Grow.drew w;have sto1:=sto.grow gd;obtain⟨f1,L,f3⟩:=Hl sto1 (#[]++n++g) e (l:=xs++List.replicate g.size .any) (by
    rw[Fbc,Fbc];refine((show Reads w _ xs ([]++n.toList)from o).append ⟨φ,λi x y k hy=>?_⟩).keep (gd.keeps _);rw[Fbv]at k;split at k
    . cases k;exact .any _
    . cases k)
  rw[g2]at L;simp only[Fbd]at W V L;exact⟨_,_,V,_,_,_,h2 _ f f1 W g0,.s _,L,(gd.chg M).trans f3⟩
def zig{o:Oper}{n:Call}{t e:TypeId}{x:Operand}(ho:o.op=.call n)(hcl:n.callee=.builtin .clear)(hargs:n.args=#[x])(E:n.argTypes[0]?=Δ t)
    {G ie:TI} (hit:c.I t=Δ G) (C:G.ty=.slice e) (a:c.I e=Δ ie) {b off m g:Nat} {l:List AV} (hm:m=1) (Q:st.obj b=Δ (.cells l)) (hn:off+ie.size<=Γ l) (f:∀v∈ie.zero,xq v=true)
    {R:Ja} (h:R (.tup []) (st.sO b (.cells (zu l off (ie.zero.map AV.s))))):AEff P c o [.s (.slice (Δ ⟨b,off,Θ⟩) m g)] st R:=by
  subst hm;refine⟨λi M w ρ S sto j=>?_⟩;have hops:o.op.operands=#[x]:=ψw;rw[hops]at j;have j:Reads w (λb o=>M b o\/i b o) [.s (.slice (Δ ⟨b,off,Θ⟩) 1 g)] [ρ x]:=by simpa using j
  obtain⟨u,L,k⟩:=Lq j;simp only[Fck,and_true]at L;rw[<-L]at k;have k:=VRel.eq_s k;have ht:=jz (S _ _ hit) C;have a:=S _ _ a;obtain⟨⟨cs,e0,fr,D,B,K,H⟩,hM⟩:=sto.obj b _ Q;obtain⟨z,y,d⟩:=Nj (P:=P) a w;have X:z.cells.size=ie.size:=by rw[<-a.zsz,<-d];simp
  have p:(Builtin.zeroCells z.cells 1).toList=ie.zero:=by
    rw[<-d];unfold Builtin.zeroCells;apply Fcz
    . simp
    grind[Nat.mod_eq_of_lt]
  obtain⟨U,A,ε⟩:=Kb (P:=P) w b off ie.zero 0 w cs e0 fr D (.inl B) δ f;have hund:=yy (P:=P) ht;have hrun:(execOp ρ o).run P w=.ok (.value (.tuple #[])) U:=by simp[execOp,ho,resolve,hcl,invoke,builtin,hargs,Builtin.clear_,E,hund,k,y,p,A]
  rw[hrun];obtain⟨W,V⟩:=Cp sto Q (Reads.map_s (w:=w) (T:=λb o=>M b o\/i b o) ie.zero) (by trivial);exact⟨_,_,M,h,Ah Reads.nil,W,V⟩
def yvb{o:Oper}{t e:TypeId}{x n p l:Operand}(A:o.op=.slice t x (Δ n) (Δ p) (Δ l)){z ie:TI}(hit:c.I t=Δ z)(u:z.ty=.slice e)(d:c.I e=Δ ie)
    {b off len f i j m:Nat} {k y g:IntKind} (H:i<=j) (G:j<=m) (E:m<=f) (T:i<m) {R:Ja} (h:R (.s (.slice (Δ ⟨b,off+i*ie.size,Θ⟩) (j-i) (m-i))) st):
    AEff P c o [.s (.slice (Δ ⟨b,off,Θ⟩) len f),.s (.int k (i:Int)),.s (.int y (j:Int)),.s (.int g (m:Int))] st R:=by
  refine⟨λv M w ρ B sto a=>?_⟩;have hops:o.op.operands=#[x,n,p,l]:=by rw[A];simp[Op.operands]
  rw[hops]at a;have a:Reads w (λb o=>M b o\/v b o) [.s (.slice (Δ ⟨b,off,Θ⟩) len f),.s (.int k (i:Int)),.s (.int y (j:Int)),.s (.int g (m:Int))] [ρ x,ρ n,ρ p,ρ l]:=by simpa using a
  have S:=VRel.eq_s (a.2 0 _ (ρ x) rfl rfl);have Q:=VRel.eq_s (a.2 1 _ (ρ n) rfl rfl);have L:=VRel.eq_s (a.2 2 _ (ρ p) rfl rfl);have K:=VRel.eq_s (a.2 3 _ (ρ l) rfl rfl);have C:=jz (B _ _ hit) u;have d:=B _ _ d;have D:¬m=i:=Z;have hund:=yy (P:=P) C;have hrun:(execOp ρ o).run P w=.ok (.value (.slice (Δ ⟨b,off+i*ie.size,Θ⟩) (j-i) (m-i))) w:=by simp[execOp,A,S,Q,L,K,Instr.sliceAt,Instr.slice,hund,Instr.sliceBounds,Instr.sliceBound,asIntOf,H,G,E,vx d,D,wu]
  rw[hrun];exact⟨_,st,M,h,.s _,sto,Chg.refl _ _⟩
end
def yoa{g:Gnd}(v:zt g){t:Nat}(n:(t:Int)<g.W*g.H){p:Vc}(u:qv p.1 p.2){r:Int}(c:0<r/\r<=81920)(h:jg g t p r):near (tx g t+32768,ty g t+32768) p 147456=true:=by
 have A:=Mx v n;obtain⟨C,B⟩:=u;rw[lx ζ ζ Z Z ψ];dsimp only;unfold jg at h;have b:0<=off p.1 (tx g t):=ψg;have a:0<=off p.2 (ty g t):=ψg;have j:-(32768+off p.1 (tx g t))<=tx g t+32768-p.1/\tx g t+32768-p.1<=32768+off p.1 (tx g t):=ψg;have i:-(32768+off p.2 (ty g t))<=ty g t+32768-p.2/\ty g t+32768-p.2<=32768+off p.2 (ty g t):=ψg;generalize off p.1 (tx g t)=ex at*;generalize off p.2 (ty g t)=ey at*;generalize tx g t+32768-p.1=dx at*;generalize ty g t+32768-p.2=dy at*;have o:r*r<=81920*81920:=Fa9 c.2 c.2 Z ψ;have ex2:=Fax b b;have ey2:=Fax a a;have bx:ex<81920:=Pj b ψ Z;have by':ey<81920:=Pj a ψ Z;have sq:∀d m:Int,0<=m->-m<=d->d<=m->d*d<=m*m:=λd m e D f=>by
  by_cases w:0<=d
  .exact Fa9 f f w e
  .have:(-d)*(-d)<=m*m:=Fa9 Z Z Z e
   rwa [Int.neg_mul_neg]at this
 have l:=sq dx (32768+ex) Z j.1 j.2;have k:=sq dy (32768+ey) Z i.1 i.2;have z:(32768+ex)*(32768+ex)=1073741824+65536*ex+ex*ex:=by rw[Int.add_mul,Fdx,Fdx,Int.mul_comm ex 32768];omega
 have y:(32768+ey)*(32768+ey)=1073741824+65536*ey+ey*ey:=by rw[Int.add_mul,Fdx,Fdx,Int.mul_comm ey 32768];omega
 rw[z]at l;rw[y]at k;refine decide_eq_true ?_;omega
instance(a b:Bld):Decidable (vy a b):=inferInstanceAs (Decidable (_/\_))
def bdB(w:Wld)(c:Cmd):Bld:=⟨w.next,c.P,c.T.tmod w.G.W,c.T.tdiv w.G.W,c.W,c.H⟩
open Classical in
noncomputable def qm(g:Gnd)(l:List Bld)(b:Bld):Int:=if¬onP g b then 3 else if∃x∈l,vy x b then 12 else if¬Fy g b then 5 else if 256<=Γ l then 4 else 0
def Hm(w:Wld)(b:Bld):Prop:=∃t:Nat,((t:Int)<w.G.W*w.G.H/\ve w.G b t)/\∃u∈w.U,u.inn=0/\jg w.G t u.pos (zw u.kind)
open Classical in
noncomputable def bdE(w:Wld)(c:Cmd):Int:=if¬(0<=c.T/\c.T<w.G.W*w.G.H)then 3 else if 1099511627776<=w.next then 4 else if qm w.G w.B (bdB w c)=0 then(if Hm w (bdB w c)then 5 else 0)else qm w.G w.B (bdB w c)
def bdW(w:Wld)(c:Cmd):Wld:={w with B:=w.B++[bdB w c],next:=w.next+1}
def yt5:Bld:=⟨0,0,0,0,0,0⟩
def Ca(l:List Bld)(id:Int):Option Nat:=l.findIdx? λb=>decide (b.id=id)
def drE(w:Wld)(c:Cmd):Int:=match Ca w.B c.N with|none=>3|some i=>if(w.B.getD i yt5).owner=c.P then 0 else 6
def drW(w:Wld)(c:Cmd):Wld:=match Ca w.B c.N with|none=>w|some i=>{w with B:=w.B.eraseIdx i}
section
variable {P:Program} {c:Cfg} {ie:TI} {st:Store} {v src:AV} {k i:Nat}
def yur{α:Type}{f:α->List AV}{e:TypeId}(u:c.I e=Δ ie)(D:∀x,(f x).length=ie.size)(w:ie.bytes<=1000){l:List α}(t:RowsQ ie.size f st v l)(o:l≠[])(n:vw ie.size (.av src)=Δ [])(p:Γ l<=1000000000){K:Ja}
  (h:∀y j,RowsQ ie.size f j y l->K y j):appendK P c st e (.av v) (.av src) K:=by
 refine⟨.inr ⟨v,_,rfl,rfl,?_⟩⟩;have C:=qu D l;have hmul:Γ l*ie.bytes<=1000000000*1000:=Fc5 p w;rcases t with(⟨t,d⟩|⟨b,g,L,rfl,B,A,G,E⟩)|⟨a,M,t,d⟩
 .exact absurd d o
 .refine Sk u (cap:=g) B δ A n ⟨χ,χ⟩ (λz=>?_) (λz=>?_)
  .have H:zu ((rws f l).flatten++L) (Γ l*ie.size) ([]:List (List AV)).flatten=(rws f l).flatten++L:=by grind[Fh]
   rw[H];exact h _ _ (.inl (.inr ⟨b,g,L,rfl,zd _ _ _,A,G,E⟩))
  .simp at z;omega
 .exact absurd d o
theorem zf4{α:Type}{f:α->List AV}(a:∀x,(f x).length=k){l:List α}(h:i<Γ l)(L:List AV):
  zu ((rws f l).flatten++L) (i*k) (rws f (l.drop (i+1))).flatten=(rws f (l.eraseIdx i)).flatten++(f l[Γ l-1]++L):=by
 have g:(rws f l).flatten++L=(rws f (l.take i)).flatten++((rws f (l.drop i)).flatten++L):=by grind[H7,List.take_append_drop]
 have d:(rws f (l.take i)).flatten.length=i*k:=by grind[qu,List.length_take]
 rw[g,Fh d,Fdv,H7];simp only[Faq]
 congr 1
 congr 1
 have n:(rws f (l.drop (i+1))).flatten.length=(Γ l-(i+1))*k:=by rw[qu a,Fc8]
 have e:l.drop i=(l.drop i).dropLast++[l[Γ l-1]]:=by have b:l.drop i≠[]:=θh;grind[List.dropLast_concat_getLast]
 have o:(rws f (l.drop i)).flatten=(rws f (l.drop i).dropLast).flatten++f l[Γ l-1]:=by
  conv=>lhs;rw[e]
  rw[H7];show _++(f _++[])=_;rw[Fbq]
 have j:(rws f (l.drop i).dropLast).flatten.length=(Γ l-(i+1))*k:=by
  rw[qu a,List.length_dropLast,Fc8]
  congr 1
 grind
def zf5{α:Type}{l:List α}(a:i<Γ l):(l.eraseIdx i).length=Γ l-1:=δ
theorem zgd{α:Type}{f:α->List AV}(a:∀x,(f x).length=k){l:List α}(b:i<=Γ l)(L:List AV):(((rws f l).flatten++L).drop (i*k)).take ((Γ l-i)*k)=(rws f (l.drop i)).flatten:=by
 have g:(rws f l).flatten++L=(rws f (l.take i)).flatten++((rws f (l.drop i)).flatten++L):=by grind[H7,List.take_append_drop]
 have e:(rws f (l.take i)).flatten.length=i*k:=by grind[qu,List.length_take]
 have d:(rws f (l.drop i)).flatten.length=(Γ l-i)*k:=by rw[qu a,Fc8]
 grind
theorem yun{e:TypeId}(g:c.I e=Δ ie){a:Option Addr}{x:AV}(R:vw ie.size (.av x)=Δ []){K:Ja}(h:K (.s (.slice a 0 0)) st):AppX P c st e (.s (.slice a 0 0)) x K:=by
 refine⟨⟨ie,g⟩,λQ f V M w sv L d ty j t sto u n C p S o U D=>?_⟩;rw[g]at f;cases f;have u:=VRel.eq_s u;subst u;have A:AppArgs P c d j t e ie a 0 0 L:=⟨C,p,S,o,U,D⟩
 obtain⟨z,T,l,H,E,G,B⟩:=I8 (P:=P) (β:=λ_=>0) (k:=ie.size) (x:=.av x) n R;have y:l.toList=[]:=θh;have hrun:=K4 (w':=w) ty A z (B w rfl) φ (λb X=>by rw[y];simp[storeCells]) (λ_=>rfl);exact⟨_,_,hrun,_,_,M,h,.s _,sto,Chg.refl M w⟩
def yuq{α:Type}{f:α->List AV}{e:TypeId}(B:c.I e=Δ ie)(S:∀x,(f x).length=ie.size)(M:ie.bytes<=1000){l:List α}(z:RowsQ ie.size f st v l)(d:List α)(p:vw ie.size (.av src)=Δ (rws f d))(A:Γ l+Γ d<=1000000000){K:Ja}
  (h:∀R y,RowsQ ie.size f y R (l++d)->K R y):appendK P c st e (.av v) (.av src) K:=by
 refine⟨.inr ⟨v,_,rfl,rfl,?_⟩⟩;have E:=qu S l;have hfl2:=qu S d;have j:(rws f d).length=Γ d:=zj _;have hmul:(Γ l+Γ d)*ie.bytes<=1000000000*1000:=Fc5 A M;have happ:(rws f (l++d)).flatten=(rws f l).flatten++(rws f d).flatten:=H7 _ _;have t:(l++d).length=Γ l+Γ d:=Fad;have empty:∀a:Option Addr,M9 a->l=[]->v=.s (.slice a 0 0)->AppX P c st e v src K:=λa T n D=>by
  subst n D;by_cases V:d=[]
  .simp_all[yun]
  .have U:0<Γ d:=List.length_pos_iff.2 V;refine rh B p ⟨δ,δ⟩ Z (λC g X w u=>?_);rw[j]at w⊢;have:=h (.s (.slice (Δ ⟨C,0,Θ⟩) (Γ d) g)) (st.sO C (.cells ((rws f d).flatten++List.replicate ((g-Γ d)*ie.size) .any))) (.inl (.inr ⟨C,g,_,φ,zd _ _ _,by simpa using w,by
    simp only[Fbh,Fde,<-Fch];grind,u⟩))
   exact this
 rcases z with(⟨z,n⟩|⟨b,o,L,rfl,W,h1,V,U⟩)|⟨a,T,z,n⟩
 .exact empty Θ (λx hx=>θc) n z
 .refine Sk B (cap:=o) W δ h1 p ⟨by rw[j];omega,by rw[j];omega⟩ (λw=>?_) (λw C g X H u=>?_)
  .rw[j]at w⊢;have G:(Γ l+Γ d)*ie.size<=o*ie.size:=Fa3 _ w;rw[Fch]at G;have Q:zu ((rws f l).flatten++L) (Γ l*ie.size) (rws f d).flatten=(rws f (l++d)).flatten++L.drop (Γ d*ie.size):=by
    rw[Fh E,happ,hfl2]
   rw[Q];exact h _ _ (.inl (.inr ⟨b,o,L.drop (Γ d*ie.size),by rw[t],zd _ _ _,Z,by grind[Nat.add_mul],U⟩))
  .rw[j]at w H⊢;have Q:((rws f l).flatten++L).take (Γ l*ie.size)++(rws f d).flatten++List.replicate ((g-(Γ l+Γ d))*ie.size) .any=(rws f (l++d)).flatten++List.replicate ((g-(Γ l+Γ d))*ie.size) .any:=by grind
   rw[Q];exact h _ _ (.inl (.inr ⟨C,g,_,by rw[t],zd _ _ _,Z,by rw[t,Fbh,<-Fch];exact Fa3 _ Z,u⟩))
 .exact empty a T n z
end
section
variable {r P N l h:Int} {w:Wld}
def Dm(m r:Int):Prop:=0<=r/\r<=9223372036854775807/\r*r<=m/\(r=9223372036854775807\/m<(r+1)*(r+1))
def yng{m:Int}(h:Dm m r){k:Int}(i:0<=k)(d:k<9223372036854775807):k<r↔(k+1)*(k+1)<=m:=by
 obtain⟨f,j,e,a⟩:=h;constructor
 .intro c;exact Int.le_trans (Fa9 (show k+1<=r by omega) (show k+1<=r by omega) Z f) e
 .intro g;refine Int.not_le.1 λb=>?_;rcases a with a|a
  .omega
  .have:=Fa9 (show r+1<=k+1 by omega) (show r+1<=k+1 by omega) Z Z;omega
def ynf{m c:Int}(h:Dm m r)(g:Dm m c):r=c:=by
 obtain⟨f,n,k,d⟩:=h;obtain⟨j,p,o,i⟩:=g;have a:¬r<c:=λe=>by
  rcases d with d|d
  .omega
  .have:=Fa9 (show r+1<=c by omega) (show r+1<=c by omega) Z j;omega
 have b:¬c<r:=λe=>by
  rcases i with d|d
  .omega
  .have:=Fa9 (show c+1<=r by omega) (show c+1<=r by omega) Z f;omega
 omega
def Fz(p q:Vc):Prop:=17180131329<=sqr (q9 p q)
instance(p q:Vc):Decidable (Fz p q):=inferInstanceAs (Decidable (_<=_))
theorem zbk{p q:Vc}(h:Dm (sqr (q9 p q)) r):131072<r↔Fz p q:=by have:=yng h (k:=131072) ψ ψ;unfold Fz;exact this
def wd(w:Wld)(P N:Int):Int:=if xu w P N=0 then(if j6 (uAt w N).kind=0 then 7 else 0)else xu w P N
def Bd(x u:Unt):Int:=if 0<j6 u.kind then 7 else if Fz u.pos x.pos then 8 else 0
def ldA(w:Wld)(P N id:Int):Int:=if xu w P id=0 then Bd (uAt w N) (uAt w id)else xu w P id
def ldE(w:Wld)(c:Cmd):Int:=if wd w c.P c.N=0 then(if jy (ldA w c.P c.N) c.U=0 then(if j6 (uAt w c.N).kind<((z6 w.U c.N).length:Int)+(Γ c.U:Int)then 4 else 0)else jy (ldA w c.P c.N) c.U)else wd w c.P c.N
def ldU(n:Int)(u:Unt):Unt:={u with pos:=(0,0),goal:=-1,next:=-1,stuck:=0,inn:=n,state:=0}
def ldW(w:Wld)(c:Cmd):Wld:={w with U:=y9 c.U (ldU c.N) w.U}
def my{id:Int}(h:ldA w P N id=0):xu w P id=0/\Bd (uAt w N) (uAt w id)=0:=by unfold ldA at h;grind
def Sg(h:wd w P N=0):xu w P N=0/\j6 (uAt w N).kind≠0:=by unfold wd at h;grind
def ynv(e:yd w){i:Nat}(p:i<Γ w.U)(y:w.U[i].id≠0):((z6 w.U w.U[i].id).length:Int)<=j6 w.U[i].kind:=by
 have d:yw w.U:=e.1.2.1;cases j:z6 w.U w.U[i].id with
 |nil=>simp_all[Mc]
 |cons a l=>
  have f:a∈z6 w.U w.U[i].id:=by rw[j];simp
  unfold z6 at f;obtain⟨u,b,_⟩:=Fag.1 f;obtain⟨b,c⟩:=Fcc.1 b;have c:u.inn=w.U[i].id:=by simpa using c
  obtain⟨x,g,A,_,z,_⟩:=e.2.2 u b (by rw[c];exact y);obtain⟨k,o,rfl⟩:=Faj g;have n:k=i:=by
   by_cases v:k<i
   .have:=Gf d v p;omega
   .by_cases t:i<k
    .have:=Gf d t o;omega
    .omega
  grind
theorem zcr{n:Int}{q m:Nat}(f:0<=n)(d:n<2^m)(c:n+q*2^m<18446744073709551616):xf .or .u64 (q*2^m) n=q*2^m+n:=by
 obtain⟨a,rfl⟩:=Fbk f;have e:((q:Int)*2^m)=((q*2^m:Nat):Int):=φ;have b:a<2^m:=by exact_mod_cast d
 rw[e]at c⊢;have g:a+q*2^m<18446744073709551616:=Z;rw[(pz (q*2^m) a Z Z).2,Nat.or_comm,ly a q m b,kx Z Z];simp;omega
theorem yax{k:Nat}(a:k<=62):IntKind.u64.wrap (1*2^(min ((k:Int)).toNat IntKind.u64.bits))=2^k:=by
 have:(min ((k:Int)).toNat IntKind.u64.bits)=k:=by show min ((k:Int)).toNat 64=k;omega
 rw[this,Int.one_mul];have h:(2:Int)^k<=2^62:=by exact_mod_cast Nat.pow_le_pow_right ψ a
 grind[kx]
def Kc(m r:Int)(k:Nat):Prop:=∃q:Nat,r=q*2^k/\r+2^k<=9223372036854775808/\r*r<=m/\(m<(r+2^k)*(r+2^k)\/r+2^k=9223372036854775808)
def yhe{m:Int}(a:0<=m):Kc m 0 63:=⟨0,φ,ψ,by simpa using a,.inr ψ⟩
def yhg{m:Int}(h:Kc m r 0):Dm m r:=by obtain⟨q,e,c,b,a⟩:=h;have d:(2:Int)^0=1:=rfl;rw[d]at c a e;exact⟨Z,Z,b,a.symm.imp (λh=>Z) id⟩
def yhh{m:Int}{k:Nat}(h:Kc m r (k+1)):xf .or .u64 r (2^k)=r+2^k/\0<=r/\(0:Int)<2^k/\r+2^k<9223372036854775808:=by obtain⟨q,e,c,b,a⟩:=h;grind[zcr]
def yhf{m:Int}{k:Nat}(h:Kc m r (k+1))(a:m<(r+2^k)*(r+2^k)):Kc m r k:=by obtain⟨q,e,c,b,f⟩:=h;have d:(2:Int)^(k+1)=2*2^k:=δ;have g:(0:Int)<2^k:=Fdw ψ;rw[d]at c;refine⟨2*q,?_,Z,b,.inl a⟩;grind
def yhd{m:Int}{k:Nat}(h:Kc m r (k+1))(b:(r+2^k)*(r+2^k)<=m):Kc m (r+2^k) k:=by obtain⟨q,e,c,g,a⟩:=h;have f:(2:Int)^(k+1)=2*2^k:=δ;have i:(0:Int)<2^k:=Fdw ψ;rw[f]at c a;have d:r+2^k+2^k=r+2*2^k:=Z;refine⟨2*q+1,?_,Z,b,by rw[d];exact a⟩;grind
def Lp(m b a:Int):Prop:=0<=b/\b<=a/\a<=9223372036854775807/\b*b<=m/\(m<(a+1)*(a+1)\/a=9223372036854775807)
def yhi{m:Int}(a:0<=m):Lp m 0 9223372036854775807:=⟨ψ,ψ,ψ,by simpa using a,.inr rfl⟩
def yhl{m:Int}(a:Lp m l h)(f:¬l<h):Dm m l:=by obtain⟨e,g,d,c,b⟩:=a;have:h=l:=Z;subst this;exact⟨e,d,c,b.symm⟩
def yhj{m:Int}(a:Lp m l h)(f:l<r)(c:r<=h)(b:r*r<=m):Lp m r h:=by obtain⟨j,i,e,g,d⟩:=a;exact⟨Z,c,e,b,d⟩
def yhk{m:Int}(a:Lp m l h)(f:l<r)(e:r<=h)(d:m<r*r):Lp m l (r-1):=by obtain⟨c,j,i,b,g⟩:=a;exact⟨c,Z,Z,b,.inl δ⟩
end
section
variable {t i:Nat} {w:Wld} {tile id:Int} {u:Unt}
def ye(g:Gnd)(t:Nat):Vc:=(tx g t+32768,ty g t+32768)
def Ky{g:Gnd}(a:zt g)(b:t<Γ g.T):(ye g t).ok:=by have c:=qg a;have:=Mx a (t:=t) Z;unfold ye Vc.ok yr;dsimp only;omega
def qj(w:Wld)(k tile:Int)(n:Nat):List Nat:=Fi w.G (zn w.G w.B (yk k) (qn k)) (qn k) tile n
def u0(g:Gnd)(f:Nat->Bool)(x y k:Int):∀d t,t∈jk g f x y k d->t<Γ g.T/\f t=true
 |0,t,h=>ω
 |d+1,t,h=>by
  rcases Faw.1 (show t∈jk g f x y k d++Cd g f x y k d from h)with h|h
  .exact u0 g f x y k d t h
  .unfold Cd Gg at h;obtain⟨b,a⟩:=Fcc.1 h;exact⟨Fbe.1 (Fcc.1 b).1,a⟩
def Vr{k:Int}{n:Nat}(h:t∈qj w k tile n):t<Γ w.G.T/\zn w.G w.B (yk k) (qn k) t=true:=u0 _ _ _ _ _ _ _ (Fcf h)
def uz(w:Wld)(k tile:Int)(n:Nat):(qj w k tile n).length<=n:=by grind[qj,Fi]
open Classical in
noncomputable def Di(w:Wld)(u:Unt)(tile:Int):Option Nat:=(qj w u.kind tile 64).find? λt=>decide (qi w u.id u.kind (ye w.G t))
open Classical in
def zcm{j:Nat}(c:j<(qj w u.kind tile 64).length)(a:∀i,(h:i<(qj w u.kind tile 64).length)->i<j->¬qi w u.id u.kind (ye w.G (qj w u.kind tile 64)[i]))(b:qi w u.id u.kind (ye w.G (qj w u.kind tile 64)[j])):Di w u tile=Δ (qj w u.kind tile 64)[j]:=by unfold Di;rw[List.find?_eq_some_iff_getElem];grind
open Classical in
def zcn(b:∀i,(h:i<(qj w u.kind tile 64).length)->¬qi w u.id u.kind (ye w.G (qj w u.kind tile 64)[i])):Di w u tile=Θ:=by unfold Di;rw[List.find?_eq_none];intro t a;obtain⟨i,c,rfl⟩:=Faj a;grind
open Classical in
def zco(h:Di w u tile=Δ t):t∈qj w u.kind tile 64/\qi w u.id u.kind (ye w.G t):=by unfold Di at h;grind
def Ax(u:Unt)(p:Vc):Unt:={u with pos:=p,inn:=0}
noncomputable def unl(tile:Int):List Int->Wld->Option Wld
 |[],w=>Δ w
 |id::l,w=>match qc w.U id with
  |none=>Θ
  |some i=>match Di w (w.U.getD i Dw) tile with
   |none=>Θ
   |some t=>unl tile l {w with U:=w.U.set i (Ax (w.U.getD i Dw) (ye w.G t))}
theorem Va{l:List Int}(b:i<Γ w.U)(c:qc w.U id=Δ i)(a:Di w w.U[i] tile=Θ):unl tile (id::l) w=Θ:=by show(match qc w.U id with|none=>Θ|some i=>_)=_;grind
theorem S9{l:List Int}(b:i<Γ w.U)(c:qc w.U id=Δ i)(a:Di w w.U[i] tile=Δ t):unl tile (id::l) w=unl tile l {w with U:=w.U.set i (Ax w.U[i] (ye w.G t))}:=by show(match qc w.U id with|none=>Θ|some i=>_)=_;grind
open Classical in
noncomputable def ulE(w:Wld)(c:Cmd):Int:=
 if wd w c.P c.N=0 then
  (if 0<=c.T/\c.T<w.G.W*w.G.H then
   (if Fz (ye w.G c.T.toNat) (uAt w c.N).pos then 8 else(match unl c.T (z6 w.U c.N) w with|none=>5|some _=>0))
  else 3)
 else wd w c.P c.N
noncomputable def ulW(w:Wld)(c:Cmd):Wld:=(unl c.T (z6 w.U c.N) w).getD w
def F0(L:List Ent)(u:Unt):List Ent:=if u.inn=0 then qz L u.id++[(u.id,u.pos)]else qz L u.id
def yrf(L:List Ent)(u:Unt):(F0 L u).length<=Γ L+1:=by grind[qz,F0]
def yre{L:List Ent}(a:∀e∈L,e.2.ok)(b:u.pos.ok):∀e∈F0 L u,e.2.ok:=λe c=>by grind[F0,mem_dropId]
def zcz{L:List Ent}(p:Fp w L)(f:yw w.U)(g:i<Γ w.U)(o:w.U[i].id=u.id):Fp {w with U:=w.U.set i u} (F0 L u):=by
 have old:∀e,e∈qz L u.id↔∃j,∃a:j<Γ w.U,j≠i/\w.U[j].inn=0/\e=(w.U[j].id,w.U[j].pos):=λe=>by
  rw[mem_dropId,p e];constructor
  .rintro⟨⟨x,k,b,rfl⟩,l⟩;obtain⟨j,a,rfl⟩:=Faj k;grind
  .rintro⟨j,a,c,b,rfl⟩;refine⟨⟨w.U[j],Faa a,b,rfl⟩,λe=>c ?_⟩;have e:w.U[j].id=u.id:=e;by_cases z:j<i
   .have:=Hd f z g;omega
   .by_cases v:i<j
    .have:=Hd f v a;omega
    .omega
 intro e;have key:(∃y∈w.U.set i u,y.inn=0/\e=(y.id,y.pos))↔(u.inn=0/\e=(u.id,u.pos))\/∃j,∃a:j<Γ w.U,j≠i/\w.U[j].inn=0/\e=(w.U[j].id,w.U[j].pos):=by
  constructor
  .rintro⟨y,h,b,d⟩;obtain⟨j,a,rfl⟩:=Faj h;grind
  .rintro(⟨b,d⟩|⟨j,a,c,b,d⟩)
   .exact⟨u,List.mem_set g u,b,d⟩
   .refine⟨w.U[j],?_,b,d⟩;have n:j<(w.U.set i u).length:=by grind
    have:(w.U.set i u)[j]=w.U[j]:=δ;grind
 grind[F0]
def zc0{L:List Ent}(b:(L.map (·.1)).Nodup)(d:Fp w L):Γ L<=Γ w.U:=by have:=Fbs (l₂:=w.U.map (·.id)) b (λid a=>by obtain⟨e,c,rfl⟩:=Fag.1 a;obtain⟨u,f,_,rfl⟩:=(d e).1 c;grind);grind
theorem V3{U:List Unt}(b:yw U)(e:i<Γ U)(c:U[i].id=u.id):yw (U.set i u):=by intro j a d;rw[Faf]at a;have:=b j a d;grind
theorem zfr{U:List Unt}(c:yw U)(d:i<Γ U)(b:U[i].id=u.id)(id:Int):qc (U.set i u) id=qc U id:=by
 have id':∀k,(a:k<Γ U)->((U.set i u)[k]'δ).id=U[k].id:=λk a=>δ;cases h:qc U id with
 |some k=>
  grind[Iq,Mg,V3]
 |none=>
  grind[qc]
end
section
variable {w:Wld} {k:Nat} {a b:Unt} {kd:Int}
def mvG(g:Int)(u:Unt):Unt:={u with goal:=g,next:=-1,stuck:=0,state:=1}
def Ao(w:Wld)(c:Cmd)(k:Nat)(kd:Int):Int:=match(qj w kd c.T (Γ c.U))[k]? with|some t=>(t:Int)|none=>c.T
def mvL(w:Wld)(c:Cmd):Nat->List Unt
 |0=>w.U
 |k+1=>match qc w.U (c.U.getD k 0)with
  |some i=>(mvL w c k).set i (mvG (Ao w c k (w.U.getD i Dw).kind) (w.U.getD i Dw))
  |none=>mvL w c k
def mvE(w:Wld)(c:Cmd):Int:=if 0<=c.T/\c.T<w.G.W*w.G.H then jy (xu w c.P) c.U else 3
def mvW(w:Wld)(c:Cmd):Wld:={w with U:=mvL w c (Γ c.U)}
theorem l5{c:Cmd}{i:Nat}(d:k<Γ c.U)(f:qc w.U c.U[k]=Δ i)(e:i<Γ w.U):mvL w c (k+1)=(mvL w c k).set i (mvG (Ao w c k w.U[i].kind) w.U[i]):=by show(match qc w.U (c.U.getD k 0)with|some i=>_|none=>_)=_;rw[show c.U.getD k 0=c.U[k] by simp[Fbo,d],f];dsimp only;rw[show w.U.getD i Dw=w.U[i] by simp[Fbo,e]]
theorem Bc(w:Wld)(c:Cmd):∀k,(mvL w c k).length=Γ w.U
 |0=>rfl
 |k+1=>by
  show(match qc w.U (c.U.getD k 0)with|some i=>_|none=>_:List Unt).length=_;cases qc w.U (c.U.getD k 0)with
  |none=>exact Bc w c k
  |some i=>dsimp only;rw[Faf];exact Bc w c k
def Rm(w:Wld)(c:Cmd):∀k j,(d:j<Γ w.U)->mvG 0 ((mvL w c k)[j]'(by rw[Bc];exact d))=mvG 0 w.U[j]
 |0,j,d=>rfl
 |k+1,j,d=>by
  have g:=Rm w c k j d;have key:∀L:List Unt,(l:j<Γ L)->L=mvL w c (k+1)->mvG 0 L[j]=mvG 0 w.U[j]:=λL l e=>by
   have o:mvL w c (k+1)=(match qc w.U (c.U.getD k 0)with
    |some i=>(mvL w c k).set i (mvG (Ao w c k (w.U.getD i Dw).kind) (w.U.getD i Dw))
    |none=>mvL w c k):=rfl
   rw[o]at e;cases f:qc w.U (c.U.getD k 0)with
   |none=>rw[f]at e;subst e;exact g
   |some i=>
    rw[f]at e;obtain⟨h,_⟩:=Iq f;subst e;rw[Fc9];split
    .rename_i n;subst n;rw[show w.U.getD i Dw=w.U[i] by simp[Fbo,h]];rfl
    .exact g
  exact key _ (by rw[Bc];exact d) rfl
theorem ylx(h:mvG 0 a=mvG 0 b)(g:Int):mvG g a=mvG g b:=by have:∀u,mvG g u={mvG 0 u with goal:=g}:=λu=>rfl;rw[this a,this b,h]
def Kh(h:mvG 0 a=mvG 0 b):a.id=b.id/\a.owner=b.owner/\a.kind=b.kind/\a.pos=b.pos/\a.inn=b.inn:=by
 refine⟨?_,?_,?_,?_,?_⟩
 .have:=congrArg Unt.id h;exact this
 .have:=congrArg Unt.owner h;exact this
 .have:=congrArg Unt.kind h;exact this
 .have:=congrArg Unt.pos h;exact this
 .have:=congrArg Unt.inn h;exact this
theorem Rn(w:Wld)(c:Cmd)(k j:Nat)(d:j<Γ w.U):((mvL w c k)[j]'(by rw[Bc];exact d)).id=w.U[j].id:=(Kh (Rm w c k j d)).1
def Ws(e:yw w.U)(c:Cmd)(k:Nat):yw (mvL w c k):=by intro j d f;rw[Bc]at d;have:=e j d f;rw[Rn w c k _ Z,Rn w c k _ d];exact this
theorem ylv(f:yw w.U)(c:Cmd)(k:Nat)(id:Int):qc (mvL w c k) id=qc w.U id:=by
 cases h:qc w.U id with
 |some i=>
  obtain⟨d,e⟩:=Iq h;exact Mg (Ws f c k) (by rw[Bc];exact d) (by rw[Rn w c k i d];exact e)
 |none=>
  cases g:qc (mvL w c k) id with
  |none=>rfl
  |some i=>
   obtain⟨d,e⟩:=Iq g;rw[Bc]at d;rw[Rn w c k i d]at e;exact absurd e (zfs h _ (Faa d))
def zdh{c:Cmd}{u:Unt}(h:u∈mvL w c k):∃x∈w.U,u.id=x.id/\u.owner=x.owner/\u.kind=x.kind/\u.pos=x.pos/\u.inn=x.inn:=by obtain⟨j,e,rfl⟩:=Faj h;have d:=e;rw[Bc]at d;exact⟨w.U[j],Faa d,Kh (Rm w c k j d)⟩
theorem l9{c:Cmd}(h:¬(0<=c.T/\c.T<w.G.W*w.G.H)):mvE w c=3:=by unfold mvE;rw[if_neg h]
theorem l8{c:Cmd}(h:0<=c.T/\c.T<w.G.W*w.G.H):mvE w c=jy (xu w c.P) c.U:=by unfold mvE;rw[if_pos h]
theorem l6{c:Cmd}(h:k<(qj w kd c.T (Γ c.U)).length):Ao w c k kd=((qj w kd c.T (Γ c.U))[k]:Nat):=by unfold Ao;rw[Fac h]
theorem l7{c:Cmd}(h:¬k<(qj w kd c.T (Γ c.U)).length):Ao w c k kd=c.T:=by unfold Ao;rw[Fb4 Z]
theorem ymu{α:Type}(f:α->AV)(c:List (Int×α))(k:Int)(z:AV):Gl true z ((c.map (qa f)).find? (qA k))=match qe c k with|some v=>.tup [f v,.s (.bool true)]|none=>.tup [z,.s (.bool false)]:=by
 rw[oh];unfold qe;cases c.find? λe=>k==e.1 with
 |none=>rfl
 |some e=>rfl
end
section
variable {w:Wld}
noncomputable def aE(w:Wld)(c:Cmd):Int:=if c.K=1 then spE w c else if c.K=2 then mvE w c else if c.K=3 then stE w c else if c.K=4 then bdE w c else if c.K=5 then drE w c else if c.K=6 then ldE w c else ulE w c
noncomputable def aW(w:Wld)(c:Cmd):Wld:=if c.K=1 then spW w c else if c.K=2 then mvW w c else if c.K=3 then stW w c else if c.K=4 then bdW w c else if c.K=5 then drW w c else if c.K=6 then ldW w c else ulW w c
theorem a1{c:Cmd}(h:c.K=1):aE w c=spE w c/\aW w c=spW w c:=θs
theorem a2{c:Cmd}(h:c.K=2):aE w c=mvE w c/\aW w c=mvW w c:=θs
theorem a3{c:Cmd}(h:c.K=3):aE w c=stE w c/\aW w c=stW w c:=θs
theorem a4{c:Cmd}(h:c.K=4):aE w c=bdE w c/\aW w c=bdW w c:=θs
theorem a5{c:Cmd}(h:c.K=5):aE w c=drE w c/\aW w c=drW w c:=θs
theorem a6{c:Cmd}(h:c.K=6):aE w c=ldE w c/\aW w c=ldW w c:=θs
theorem a7{c:Cmd}(h:c.K=7):aE w c=ulE w c/\aW w c=ulW w c:=θs
def W3{c:Cmd}(h:jh c):c.K=1\/c.K=2\/c.K=3\/c.K=4\/c.K=5\/c.K=6\/c.K=7:=Classical.byContradiction λa=>by have a:c.K≠1/\c.K≠2/\c.K≠3/\c.K≠4/\c.K≠5/\c.K≠6/\c.K≠7:=Z;exact Cmd.ok0 a.1 a.2.1 a.2.2.1 a.2.2.2.1 a.2.2.2.2.1 a.2.2.2.2.2.1 a.2.2.2.2.2.2 h.1
def Mk{E a:Wld->Cmd->Int}{W b:Wld->Cmd->Wld}{c:Cmd}(h:E w c=a w c/\W w c=b w c):doE E w c=doE a w c/\doW E W w c=doW a b w c:=by grind[doE,doW]
def zgi{E:Wld->Cmd->Int}{c:Cmd}(h:doE E w c=0):yd w/\jh c/\c.P<=w.players/\E w c=0:=by
 have a:¬(¬yd w\/¬jh c\/w.players<c.P):=λa=>by rw[Hw a]at h;cases h
 have e:yd w:=Classical.byContradiction λb=>a (.inl b);have d:jh c:=Classical.byContradiction λb=>a (.inr (.inl b));grind[Ir]
theorem sw{a:Int}:∀(l:List Int) (w x:Wld),yw w.U->unl a l w=Δ x->x.tick=w.tick/\x.players=w.players/\x.next=w.next/\x.G=w.G/\x.B=w.B/\∃h:Γ x.U=Γ w.U,∀j,(g:j<Γ w.U)->x.U[j].id=w.U[j].id/\x.U[j].owner=w.U[j].owner/\x.U[j].kind=w.U[j].kind/\(x.U[j]=w.U[j]\/∃t,t<Γ w.G.T/\x.U[j].pos=ye w.G t)
 |[],w,x,e,h=>by have:w=x:=Option.some.inj h;grind
 |id::l,w,x,e,h=>by
  cases d:qc w.U id with
  |none=>
   grind[unl]
  |some i=>
   obtain⟨c,_⟩:=Iq d;cases b:Di w w.U[i] a with
   |none=>rw[Va c d b]at h;cases h
   |some t=>
    rw[S9 c d b]at h;have f:=(Vr (zco b).1).1;obtain⟨z,y,v,p,o,n,k⟩:=sw l _ x (V3 e c (u:=Ax w.U[i] (ye w.G t)) rfl) h;grind[Ax]
def s7{c:Cmd}(d:yw w.U):(ulW w c).tick=w.tick/\(ulW w c).players=w.players/\(ulW w c).next=w.next/\(ulW w c).G=w.G/\(ulW w c).B=w.B/\∃h:(ulW w c).U.length=Γ w.U,∀j,(b:j<Γ w.U)->(ulW w c).U[j].id=w.U[j].id/\(ulW w c).U[j].owner=w.U[j].owner/\(ulW w c).U[j].kind=w.U[j].kind/\((ulW w c).U[j]=w.U[j]\/∃t,t<Γ w.G.T/\(ulW w c).U[j].pos=ye w.G t):=by
 have key:∀x:Wld,ulW w c=x->x.tick=w.tick/\x.players=w.players/\x.next=w.next/\x.G=w.G/\x.B=w.B/\∃h:Γ x.U=Γ w.U,∀j,(b:j<Γ w.U)->x.U[j].id=w.U[j].id/\x.U[j].owner=w.U[j].owner/\x.U[j].kind=w.U[j].kind/\(x.U[j]=w.U[j]\/∃t,t<Γ w.G.T/\x.U[j].pos=ye w.G t):=λx a=>by
  unfold ulW at a;cases h:unl c.T (z6 w.U c.N) w with
  |none=>
   grind
  |some y=>
   grind[sw]
 exact key _ rfl
def zah{l:List Int}{g:Unt->Unt}{U:List Unt}{u:Unt}(h:u∈y9 l g U):∃x∈U,u=x\/u=g x:=by unfold y9 at h;grind
def yvp{c:Cmd}(f:∀u∈w.U,u.pos.ok)(h:doE aE w c=0):∀u∈(aW w c).U,u.pos.ok:=by
 obtain⟨g,i,p,z⟩:=zgi h;have l:Vc.ok (0,0):=by unfold Vc.ok yr;decide
 intro u b;rcases W3 i with k|k|k|k|k|k|k
 .rw[(a1 k).2]at b;rcases Faw.1 (show u∈w.U++[spU w c]from b)with b|b
  .exact f u b
  .rw[Fci]at b;subst b;have:=(Cmd.ok1 k).1 i.1;have:=this.2;show Vc.ok (c.X,c.Y);grind[qv,Vc.ok,yr]
 .rw[(a2 k).2]at b;obtain⟨x,d,_,_,_,e,_⟩:=zdh (show u∈mvL w c (Γ c.U) from b);rw[e];exact f x d
 .rw[(a3 k).2]at b;obtain⟨x,d,rfl|rfl⟩:=zah (show u∈y9 c.U kj w.U from b)
  .exact f _ d
  .exact f x d
 .rw[(a4 k).2]at b;exact f u b
 .grind[a5,drW]
 .rw[(a6 k).2]at b;obtain⟨x,d,rfl|rfl⟩:=zah (show u∈y9 c.U (ldU c.N) w.U from b)
  .exact f _ d
  .exact l
 .rw[(a7 k).2]at b;obtain⟨_,_,_,_,_,v,o⟩:=s7 (c:=c) g.1.2.1;obtain⟨j,y,rfl⟩:=Faj b;obtain⟨_,_,_,e|⟨t,n,e⟩⟩:=o j Z
  .grind
  .rw[e];exact Ky g.1.1.2.1.1 n
def yrn(w:Wld)(c:Cmd):(drW w c).tick=w.tick/\(drW w c).players=w.players/\(drW w c).next=w.next/\(drW w c).G=w.G/\(drW w c).U=w.U/\(drW w c).B.length<=Γ w.B:=by unfold drW;grind
end
instance(g:Gnd)(t:Nat)(p:Vc)(r:Int):Decidable (jg g t p r):=by unfold jg;infer_instance
instance(g:Gnd)(b:Bld):Decidable (Fy g b):=by unfold Fy;infer_instance
instance(g:Gnd)(b:Bld):Decidable (onP g b):=by unfold onP;infer_instance
instance(b:Bld):Decidable (yh b):=by unfold yh;infer_instance
instance(a b:Bld):Decidable (vy a b):=by unfold vy;infer_instance
instance(l:List Bld):Decidable (Pv l):=by unfold Pv;infer_instance
instance(l:List Bld):Decidable (dz l):=by unfold dz;infer_instance
instance(g:Gnd):Decidable (zt g):=by unfold zt;infer_instance
instance(g:Gnd)(l:List Bld):Decidable (Iw g l):=by unfold Iw;infer_instance
instance(g:Gnd)(l:List Bld)(c:Int)(p:Vc)(r:Int):Decidable (Cy g l c p r):=by unfold Cy;infer_instance
instance(w:Wld)(id k:Int)(p:Vc):Decidable (qi w id k p):=by unfold qi;infer_instance
instance(k:Int):Decidable (vd k):=by unfold vd;infer_instance
instance(g:Gnd)(t:Int):Decidable (Ak g t):=by unfold Ak;infer_instance
instance(w:Wld)(u:Unt):Decidable (k9 w u):=by unfold k9;infer_instance
instance(w:Wld):Decidable (Kp w):=by unfold Kp;infer_instance
instance(l:List Unt):Decidable (yw l):=by unfold yw;infer_instance
instance(w:Wld):Decidable (Lg w):=by unfold Lg;infer_instance
instance(w:Wld)(u:Unt):Decidable (Ce w u):=by unfold Ce;infer_instance
instance(w:Wld):Decidable (yd w):=by unfold yd;infer_instance
instance(x y:Int):Decidable (qv x y):=by unfold qv;infer_instance
instance(t:Int):Decidable (vh t):=by unfold vh;infer_instance
instance(t:Int):Decidable (idP t):=by unfold idP;infer_instance
instance(l:List Int):Decidable (Cr l):=by unfold Cr;infer_instance
instance(w:Wld):Decidable (Gs w):=by unfold Gs;infer_instance
def xp(a b:Vc):Vc:=(qs a.1 b.1,qs a.2 b.2)
def qy(v:Vc):Vc:=(nrm v.1,nrm v.2)
def vn(v:Vc)(k:Nat):Vc:=(v.1.tdiv (2^k:Nat),v.2.tdiv (2^k:Nat))
def V1(m:Int):Nat->Int->Int
 |0,r=>r
 |b+1,r=>V1 m b (if(r+(2^b:Nat))*(r+(2^b:Nat))<=m then r+(2^b:Nat)else r)
def j1(m:Int):Int:=V1 m 63 0
def yhm{m:Int}(k:0<=m):∀(b:Nat) (r:Int),0<=r->r*r<=m->(r+(2^b:Nat)=9223372036854775808\/m<(r+(2^b:Nat))*(r+(2^b:Nat)))->r+(2^b:Nat)<=9223372036854775808->Dm m (V1 m b r):=by
 intro b;induction b with
 |zero=>
  intro r f e a d;refine⟨f,?_,e,?_⟩
  .simp only[Nat.pow_zero]at d;show r<=_;omega
  .show r=_\/_;simp only[Nat.pow_zero]at a;rcases a with a|a
   .exact .inl Z
   .exact .inr a
 |succ b g=>
  intro r f e a d;have h:(2^(b+1):Nat)=2^b+2^b:=by rw[Nat.pow_succ];omega
  have j:0<2^b:=Nat.pow_pos ψ;rw[h]at a d;generalize i:2^b=B at*;show Dm m (V1 m b (if _ then _ else _));rw[i];split
  .rename_i c;refine g (r+(B:Nat)) Z c ?_ Z;rw[Int.add_assoc,show((B:Nat):Int)+(B:Nat)=((B+B:Nat):Int) by omega];exact a
  .rename_i c;exact g r f e (.inr Z) Z
def H9{m:Int}(a:0<=m):Dm m (j1 m):=yhm a 63 0 ψ (by simpa using a) (.inl ψ) ψ
def Pt{m r:Int}(a:0<=m)(h:Dm m r):r=j1 m:=ynf h (H9 a)
def Gw(c a b:Int):Int:=if c<0 then -((-c)*a/b)else c*a/b
def je(v:Vc)(a:Int):Vc:=
 if j1 (sqr v)<=max a 0 then qy v else(Gw (nrm v.1) (max a 0) (j1 (sqr v)),Gw (nrm v.2) (max a 0) (j1 (sqr v)))
def Cc(p q:Vc)(a:Int):Vc:=je (q9 q p) a
def vj(p:Vc)(r:Int)(q:Vc):Vc:=
 if near p q r then je (if q9 p q=(0,0)then(65536,0)else q9 p q) (r-j1 (sqr (q9 p q)))else(0,0)
instance(w:Wld)(id k:Int)(p:Vc):Decidable (qi w id k p):=by unfold qi Cy;infer_instance
def qo(w:Wld)(u:Unt)(v:Vc):Nat->Nat->Option (Nat×Vc)
 |0,_=>Θ
 |n+1,k=>if vn v k=(0,0)then Θ else if qi w u.id u.kind (xp u.pos (vn v k))then Δ (k,xp u.pos (vn v k))else qo w u v n (k+1)
def yj(w:Wld)(u:Unt):Wld:={w with U:=w.U.map λx=>if x.id=u.id then u else x}
def Bj(w:Wld)(u:Unt)(v:Vc):Int:=match qo w u (qy v) 5 0 with|none=>5|some (k,_)=>(k:Int)
def xj(w:Wld)(u:Unt)(v:Vc):Wld:=match qo w u (qy v) 5 0 with|none=>w|some (_,p)=>yj w {u with pos:=p}
def Bz(w:Wld)(u:Unt):Vc:=w.U.foldl (λv x=>if x.inn=0/\x.id≠u.id then xp v (vj u.pos (zw u.kind+zw x.kind+16384) x.pos)else v) (0,0)
def Gr(w:Wld)(u:Unt):Wld:=xj w u (je (Bz w u) ((xa u.kind).tdiv 4))
def j7(s:Int)(u:Unt):Unt:={u with goal:=-1,next:=-1,stuck:=0,state:=s}
def okU(w:Wld)(u:Unt)(t:Nat):Bool:=zn w.G w.B (yk u.kind) (qn u.kind) t
def Bs(w:Wld)(u:Unt)(own:Nat):Bool:=
 decide (u.next=-1)||decide (u.pos=ye w.G u.next.toNat)|| !okU w u u.next.toNat||(decide (u.next≠own)&& !(j4 w.G own).contains u.next)
noncomputable def Bb(w:Wld)(u:Unt)(own:Nat):Int:=
 if u.pos≠ye w.G own then own else
  (let way:=xe w.G (okU w u) (yk u.kind) (jc w.G (okU w u) (yk u.kind) u.goal.toNat) own
   if way<0 then -1 else yi w.G own way.toNat)
def Ay(w:Wld)(u:Unt):Wld:=
 if Bj (yj w {u with stuck:=0}) {u with stuck:=0} (Cc u.pos (ye w.G u.next.toNat) (xa u.kind))<5 then xj (yj w {u with stuck:=0}) {u with stuck:=0} (Cc u.pos (ye w.G u.next.toNat) (xa u.kind))
 else if u.stuck+1=8 then yj w (j7 4 u)else yj w {u with stuck:=u.stuck+1,next:=-1}
noncomputable def Cx(w:Wld)(u:Unt):Wld:=
 if u.pos=ye w.G u.goal.toNat then yj w (j7 2 u)
 else if Bs w u (wh w.G u.pos)then
  (if Bb w u (wh w.G u.pos)<0 then yj w (j7 3 u)else Ay w {u with next:=Bb w u (wh w.G u.pos)})
 else Ay w u
noncomputable def vr(w:Wld)(u:Unt):Wld:=if u.goal=-1 then Gr w u else Cx w u
theorem zia{g:Gnd}(b:zt g){l:List Bld}{c f:Int}{p q:Vc}{k a:Int}(e:Cy g l c p (zw k))(d:Cy g l f q (zw a)):wt p (zw k) q (zw a)=wt q (zw a) p (zw k):=by have i:=R3 b e;have h:=R3 b d;grind[wt,lx,zw]
def ph{w a:Wld}{id k:Int}{p:Vc}(f:a.G=w.G)(g:a.B=w.B)(h:∀v∈a.U,v.inn=0->v.id≠id->∃x∈w.U,x.inn=0/\x.id≠id/\x.pos=v.pos/\x.kind=v.kind)(c:qi w id k p):qi a id k p:=by refine⟨by rw[f,g];exact c.1,λv e i b=>?_⟩;obtain⟨x,d,o,n,l,j⟩:=h v e i b;rw[<-l,<-j];exact c.2 x d o n
theorem ynw(l:List Unt)(id:Int):z6 l id=((l.map λu=>(u.inn,u.id)).filter λx=>x.1==id).map (·.2):=by unfold z6;rw[List.filter_map,List.map_map];rfl
def yny{U a:List Unt}(b:Γ a=Γ U)(h:∀j,(c:j<Γ U)->(a[j]'Z).inn=U[j].inn/\(a[j]'Z).id=U[j].id)(id:Int):z6 a id=z6 U id:=by grind[ynw,List.ext_getElem,List.length_map]
def zbn{U b:List Unt}(d:Γ b=Γ U)(h:∀j,(a:j<Γ U)->(b[j]'Z).id=U[j].id)(c:yw U):yw b:=by intro j a e;rw[d]at a;have:=c j a e;grind
def ynx{l:List Unt}{u:Unt}(a:u∈l):u.id∈z6 l u.inn:=by unfold z6;grind
def ml{w:Wld}(p:yd w){U:List Unt}(f:Γ U=Γ w.U)(C:∀j,(a:j<Γ w.U)->mvG 0 (U[j]'Z)=mvG 0 w.U[j])(B:∀j,(a:j<Γ w.U)->w.U[j].inn≠0->U[j]'Z=w.U[j])(A:∀j,(a:j<Γ w.U)->k9 w (U[j]'Z)):yd {w with U:=U}:=by
 obtain⟨⟨d,o,P⟩,z,y⟩:=p;have same:=λj a=>Kh (C j a);have back:∀v∈U,∃j,∃a:j<Γ w.U,v=U[j]'Z:=λv c=>by obtain⟨j,a,rfl⟩:=Faj c;exact⟨j,Z,rfl⟩
 have u:=yny f (λj a=>⟨(same j a).2.2.2.2,(same j a).1⟩);refine⟨⟨⟨d.1,⟨d.2.1.1,d.2.1.2.1,by show Γ U<=_;rw[f];exact d.2.1.2.2⟩,d.2.2⟩,zbn f (λj a=>(same j a).1) o,λv c=>?_⟩,λv c e=>?_,λv c e=>?_⟩
 .obtain⟨j,a,rfl⟩:=back v c;refine⟨A j a,λb Q=>?_⟩;grind
 .obtain⟨j,a,rfl⟩:=back v c;obtain⟨M,_,L,K,g⟩:=same j a;rw[M,L,K];refine ph (w:=w) rfl rfl (λx h n l=>?_) (z _ (Faa a) (by rw[<-g];exact e));grind
 .obtain⟨j,a,rfl⟩:=back v c;have g:=(same j a).2.2.2.2;rw[g]at e;rw[B j a e];obtain⟨x,h,E,i,R,D⟩:=y _ (Faa a) e;obtain⟨k,t,rfl⟩:=Faj h;obtain⟨I,H,T,S,G⟩:=same k t;refine⟨U[k]'Z,Faa _,by rw[I];exact E,⟨by rw[G];exact i.1,by rw[H];exact i.2⟩,?_,D⟩;grind
theorem zfw{q:Unt->Bool}{x:Unt}(b:q x=false):∀(U:List Unt) (i:Nat),((U.set i x).filter q).length<=(U.filter q).length
 |[],_=>Fai _
 |a::l,0=>δ
 |a::l,i+1=>by
  rw[List.set_cons_succ,Fdm,Fdm];have:=zfw b l i;split
  .simp only[Fbb];omega
  .exact this
def zds{w:Wld}(H:yd w){i:Nat}(o:i<Γ w.U){p:Vc}(A:qi w w.U[i].id w.U[i].kind p):yd {w with U:=w.U.set i {w.U[i]with pos:=p,inn:=0}}:=by
 obtain⟨⟨g,z,y⟩,M,L⟩:=H;have K:=g.2.1.1;have I:(w.U.set i {w.U[i]with pos:=p,inn:=0}).length=Γ w.U:=Faf;have get:∀j,(a:j<Γ w.U)->(w.U.set i {w.U[i]with pos:=p,inn:=0})[j]'Z=if i=j then{w.U[i]with pos:=p,inn:=0}else w.U[j]:=λj a=>Fc9 ..
 have back:∀v∈w.U.set i {w.U[i]with pos:=p,inn:=0},v={w.U[i]with pos:=p,inn:=0}\/∃j,∃a:j<Γ w.U,j≠i/\v=w.U[j]:=λv d=>by obtain⟨j,a,rfl⟩:=Faj d;grind
 have idne:∀j,(a:j<Γ w.U)->j≠i->w.U[j].id≠w.U[i].id:=λj a c e=>by
  rcases Nat.lt_trichotomy j i with q|q|q
  .have:=Hd z q o;omega
  .exact c q
  .have:=Hd z q a;omega
 have hself:k9 w {w.U[i]with pos:=p,inn:=0}/\∀b∈w.B,b.id≠w.U[i].id:=⟨(y _ (Faa o)).1,(y _ (Faa o)).2⟩
 refine⟨⟨⟨g.1,⟨g.2.1.1,g.2.1.2.1,by show(w.U.set i _).length<=_;rw[I];exact g.2.1.2.2⟩,g.2.2⟩,V3 z o rfl,λv d=>?_⟩,λv d t=>?_,λv d t=>?_⟩
 .rcases back v d with rfl|⟨j,a,_,rfl⟩
  .exact hself
  .exact y _ (Faa a)
 .rcases back v d with rfl|⟨j,a,c,rfl⟩
  .refine ph (w:=w) rfl rfl (λx u l h=>?_) A;grind
  .have f:=M _ (Faa a) t;refine⟨f.1,λx u l h=>?_⟩;rcases back x u with rfl|⟨k,C,_,rfl⟩
   .have:=A.2 _ (Faa a) t (idne j a c);rw[zia K A.1 f.1]at this;exact this
   .exact f.2 _ (Faa C) l h
 .rcases back v d with rfl|⟨j,a,c,rfl⟩
  .exact absurd rfl t
  obtain⟨x,u,G,E,P,D⟩:=L _ (Faa a) t;obtain⟨k,C,rfl⟩:=Faj u;have n:((z6 (w.U.set i {w.U[i]with pos:=p,inn:=0}) w.U[j].inn).length:Int)<=j6 w.U[k].kind:=by grind[zfw,z6]
  by_cases e:k=i
  .subst e;exact⟨{w.U[k]with pos:=p,inn:=0},List.mem_set o _,G,⟨rfl,E.2⟩,n,D⟩
  .refine⟨w.U[k],?_,G,E,n,D⟩;grind
def zdp{a:Int}:∀(l:List Int) (w x:Wld),yd w->unl a l w=Δ x->yd x
 |[],w,x,c,h=>by have:w=x:=Option.some.inj h;subst this;exact c
 |id::l,w,x,c,h=>by
  cases e:qc w.U id with
  |none=>
   grind[unl]
  |some i=>
   obtain⟨d,_⟩:=Iq e;cases b:Di w w.U[i] a with
   |none=>rw[Va d e b]at h;cases h
   |some t=>
    rw[S9 d e b]at h;exact zdp l _ x (zds c d (zco b).2) h
section
variable {w:Wld} {i:Nat} {u:Unt} {s:Int}
theorem Cf(b:yw w.U)(d:i<Γ w.U)(a:u.id=w.U[i].id):yj w u={w with U:=w.U.set i u}:=by
 unfold yj
 congr 1
 refine Fcz φ λj h1 g=>?_;have c:j<Γ w.U:=θe;rw[Fbj,Fc9];by_cases e:i=j
 .subst e;rw[if_pos a.symm,if_pos rfl]
 .rw[if_neg e,if_neg];intro f;rcases Nat.lt_or_gt_of_ne e with h|h
  .have:=Gf b h c;omega
  .have:=Gf b h d;omega
def Wf(c:yw w.U)(b:i<Γ w.U)(a:u.id=w.U[i].id):∃d:i<(yj w u).U.length,(yj w u).U[i]=u:=by rw[Cf c b a];exact⟨by simpa using b,φ⟩
theorem Wd(w:Wld)(u:Unt):(yj w u).U.length=Γ w.U:=by simp[yj]
theorem zca(c:yw w.U)(e:i<Γ w.U)(b:u.id=w.U[i].id){j:Nat}(d:j<Γ w.U)(a:j≠i):(yj w u).U[j]'(by rw[Wd];exact d)=w.U[j]:=by
 have h:=Cf c e b;have:(yj w u).U=w.U.set i u:=by rw[h]
 simp only[this];rw[Fc9,if_neg (Ne.symm a)]
def Rp(b:yd w)(g:i<Γ w.U)(k:w.U[i].inn=0)(d:mvG 0 u=mvG 0 w.U[i])(h:k9 w u):yd (yj w u):=by
 have c:u.id=w.U[i].id:=(Kh d).1;rw[Cf b.1.2.1 g c];have get:∀j,(a:j<Γ w.U)->(w.U.set i u)[j]'(by simpa using a)=if i=j then u else w.U[j]:=λj a=>Fc9 ..
 refine ml b φ (λj a=>?_) (λj a f=>?_) (λj a=>?_)
 .rw[get j a];split
  .rename_i e;subst e;exact d
  .rfl
 .rw[get j a];split
  .rename_i e;subst e;exact absurd k f
  .rfl
 .rw[get j a];split
  .exact h
  .exact(b.1.2.2 _ (Faa a)).1
def Ve{v:Vc}:∀(n k:Nat) {r:Nat×Vc},qo w u v n k=Δ r->qi w u.id u.kind r.2/\(k<=r.1/\r.1<k+n)/\r.2=xp u.pos (vn v r.1)
 |0,k,r,h=>ω
 |n+1,k,r,h=>by
  unfold qo at h;split at h
  .cases h
  .split at h
   .cases h;exact⟨‹_›,Z,rfl⟩
   .obtain⟨b,c,a⟩:=Ve n (k+1) h;exact⟨b,Z,a⟩
def zdq(a:yd w)(b:i<Γ w.U)(d:w.U[i].inn=0)(v:Vc):yd (xj w w.U[i] v):=by
 unfold xj;cases h:qo w w.U[i] (qy v) 5 0 with
 |none=>exact a
 |some r=>
  obtain⟨k,p⟩:=r;dsimp only;obtain⟨c,_,_⟩:=Ve 5 0 h;rw[Cf (u:={w.U[i]with pos:=p}) a.1.2.1 b rfl];have:=zds a b c;have e:({w.U[i]with pos:=p,inn:=0}:Unt)={w.U[i]with pos:=p}:=by rw[<-d]
  rw[e]at this;exact this
def Sz(a:yd w)(b:i<Γ w.U):k9 w w.U[i]:=(a.1.2.2 _ (Faa b)).1
def zj0(h:k9 w u)(a:s=2\/s=3\/s=4):k9 w (j7 s u):=by obtain⟨⟨a1,a2,a3⟩,_,_,_⟩:=h;refine⟨⟨a1,a2,a3⟩,⟨.inl rfl,.inl rfl,by show(0:Int)<=0/\(0:Int)<8;omega⟩,⟨by show 0<=s/\s<=4;omega,?_⟩,λ_=>⟨rfl,rfl⟩⟩;show s=1↔(-1:Int)≠-1;omega
def O7(h:k9 w u)(j:u.goal≠-1){b a:Int}(g:Ak w.G b)(f:0<=a/\a<8):k9 w {u with next:=b,stuck:=a}:=by obtain⟨⟨a1,a2,a3⟩,⟨k,n,l⟩,c,d⟩:=h;exact⟨⟨a1,a2,a3⟩,⟨k,g,f⟩,c,λe=>absurd e j⟩
def mm(d:yd w)(e:i<Γ w.U)(f:w.U[i].inn=0)(c:s=2\/s=3\/s=4)(b:mvG 0 u=mvG 0 w.U[i])(a:k9 w u):yd (yj w (j7 s u)):=
 Rp d e f (by rw[<-b];rfl) (zj0 a c)
def zdr(c:yd w)(d:i<Γ w.U)(f:w.U[i].inn=0)(b:mvG 0 u=mvG 0 w.U[i])(a:k9 w u)(k:u.goal≠-1):yd (Ay w u):=by
 have j:u.id=w.U[i].id:=(Kh b).1;have h:u.inn=w.U[i].inn:=(Kh b).2.2.2.2;unfold Ay;split
 .have l:k9 w {u with stuck:=0}:=O7 a k a.2.1.2.1 Z;have g:yd (yj w {u with stuck:=0}):=Rp c d f (by rw[<-b];rfl) l;obtain⟨n,e⟩:=Wf (u:={u with stuck:=0}) c.1.2.1 d j;have:=zdq g n (by rw[e];exact h.trans f) (Cc u.pos (ye w.G u.next.toNat) (xa u.kind));rw[e]at this;exact this
 .split
  .exact mm c d f (.inr (.inr rfl)) b a
  .rename_i o;have:=a.2.1.2.2;exact Rp c d f (by rw[<-b];rfl) (O7 a k (.inl rfl) Z)
def lm(a:yd w)(b:i<Γ w.U)(c:w.U[i].inn=0):(0<=w.U[i].pos.1/\w.U[i].pos.1<w.G.W*65536)/\(0<=w.U[i].pos.2/\w.U[i].pos.2<w.G.H*65536):=by have:=R3 a.1.1.2.1.1 (a.2.1 _ (Faa b) c).1;have:=this.1;have:=this.2;omega
def Wj(a:yd w)(b:i<Γ w.U)(c:w.U[i].inn=0):wh w.G w.U[i].pos<Γ w.G.T:=(f7 a.1.1.2.1.1 (lm a b c)).2.1
def Vi{g:Gnd}(a:zt g){t:Nat}(h:t<Γ g.T):Ak g (t:Int):=.inr (by have:=a.2.2.1;omega)
def rx(g:Gnd)(ok:Nat->Bool)(c:Int)(d:Nat->Int)(t:Nat):xe g ok c d t=-1\/∃way:Nat,way<8/\xe g ok c d t=way/\0<qk g ok c t way:=by
 unfold xe;split
 .exact .inl rfl
 .cases h:(List.range 8).find? λway=>decide (0<qk g ok c t way/\0<=d (yi g t way).toNat/\qk g ok c t way+d (yi g t way).toNat=d t)with
  |none=>exact .inl rfl
  |some way=>
   have h1:=Fee h;have a:=List.find?_some h;exact .inr ⟨way,θe,rfl,(of_decide_eq_true a).1⟩
def lu(a:zt w.G){own:Nat}(c:own<Γ w.G.T):Ak w.G (Bb w u own):=by
 unfold Bb;split
 .exact Vi a c
 .dsimp only;rcases rx w.G (okU w u) (yk u.kind) (jc w.G (okU w u) (yk u.kind) u.goal.toNat) own with h|⟨way,f,e,_⟩
  .rw[h,if_pos ψ];exact .inl rfl
  .rw[e,if_neg Z];rcases dp a (t:=own) (way:=way) f with b|⟨x,b,d⟩
   .rw[Faz,b];exact .inl rfl
   .rw[Faz,b];exact Vi a d
def ymh(a:yd w)(b:i<Γ w.U)(d:w.U[i].inn=0)(e:w.U[i].goal≠-1):yd (Cx w w.U[i]):=by
 have c:=Sz a b;unfold Cx;split
 .exact mm a b d (.inl rfl) rfl c
 .split
  .split
   .exact mm a b d (.inr (.inl rfl)) rfl c
   .exact zdr a b d (u:={w.U[i]with next:=Bb w w.U[i] (wh w.G w.U[i].pos)}) rfl (O7 c e (lu a.1.1.2.1.1 (Wj a b d)) c.2.1.2.2) e
  .exact zdr a b d rfl c e
def yl9(a:yd w)(b:i<Γ w.U)(c:w.U[i].inn=0):yd (vr w w.U[i]):=by
 unfold vr;split
 .exact zdq a b c _
 .exact ymh a b c ‹_›
end
section
variable {a b m L c:Int}
def zz6(e:0<=b)(h:a*a<b*b):a<b:=by refine Int.not_le.1 λd=>?_;have:=Fa9 d d e Z;omega
def Pi(d:0<=a)(h:a<=b):a*a<=b*b:=Fa9 h h d Z
def zz5{p q:Int}(d:0<=p)(h:p<q):p*p<q*q:=
 Int.lt_of_le_of_lt (Fda (Int.le_of_lt h) d) (Int.mul_lt_mul_of_pos_right h Z)
def zdi(a b c d:Int):a*b*(c*d)=a*c*(b*d):=by ac_rfl
def ysg{x y s:Int}(k:0<=x)(j:0<=y)(d:0<=m)(l:m<L)(u:x*x+y*y<(L+1)*(L+1))(g:a=x*m/L)(f:b=y*m/L):a*a+b*b<(m+1)*(m+1):=by
 have v:0<L:=Z;have a1:a*L<=x*m:=by rw[g];exact Int.ediv_mul_le _ Z
 have o:b*L<=y*m:=by rw[f];exact Int.ediv_mul_le _ Z
 have t:0<=a:=by rw[g];exact Fb3 (Fax k d) Z
 have p:0<=b:=by rw[f];exact Fb3 (Fax j d) Z
 have a2:=Pi (Fax t (by omega:(0:Int)<=L)) a1;have G:=Pi (Fax p (by omega:(0:Int)<=L)) o;have E:(a*a+b*b)*(L*L)=a*L*(a*L)+b*L*(b*L):=δ;have D:x*m*(x*m)+y*m*(y*m)=(x*x+y*y)*(m*m):=δ;have n:(a*a+b*b)*(L*L)<=(x*x+y*y)*(m*m):=δ;refine Int.not_le.1 λe=>?_;have A:(m+1)*(m+1)*(L*L)<=(x*x+y*y)*(m*m):=Int.le_trans (Fd1 e (Fax Z Z)) n;have z:(x*x+y*y)*(m*m)<=((L+1)*(L+1))*(m*m):=Fd1 Z (Fax d d);have C:(m+1)*(m+1)*(L*L)=((m+1)*L)*((m+1)*L):=zdi ..;have B:((L+1)*(L+1))*(m*m)=((L+1)*m)*((L+1)*m):=zdi ..;have w:((L+1)*m)*((L+1)*m)<((m+1)*L)*((m+1)*L):=by have h:(L+1)*m<(m+1)*L:=δ;have i:0<=(L+1)*m:=Fax Z d;exact zz5 i h
 omega
def wx(v:Vc):Prop:=(-1125899906842624<=v.1/\v.1<=1125899906842624)/\(-1125899906842624<=v.2/\v.2<=1125899906842624)
def Ha{v:Vc}(h:wx v):sqr v=v.1*v.1+v.2*v.2/\qy v=v/\0<=sqr v/\sqr v<(j1 (sqr v)+1)*(j1 (sqr v)+1):=by
 obtain⟨i,g⟩:=h;have e:sqr v=v.1*v.1+v.2*v.2:=by grind[sqr,p8]
 have p:0<=v.1*v.1:=by rcases Int.le_total 0 v.1 with h|h;exact Fax h h;rw[<-Int.neg_mul_neg];exact Fax Z Z
 have o:0<=v.2*v.2:=by rcases Int.le_total 0 v.2 with h|h;exact Fax h h;rw[<-Int.neg_mul_neg];exact Fax Z Z
 have b:∀x:Int,-1125899906842624<=x/\x<=1125899906842624->x*x<=1125899906842624*1125899906842624:=λx f=>by
  rcases Int.le_total 0 x with h|h
  .exact Pi h f.2
  .rw[<-Int.neg_mul_neg];exact Pi Z Z
 have u:=b _ i;have t:=b _ g;have d:0<=sqr v:=Z;refine⟨e,?_,d,?_⟩
 .grind[qy,Gi]
 .obtain⟨n,l,k,j⟩:=H9 d;grind
theorem K7(x:Int):x*x=(x.natAbs:Int)*x.natAbs:=δ
def yhc{v:Vc}(d:wx v)(j:0<=m)(h:v.1*v.1+v.2*v.2<(m+1)*(m+1)):j1 (sqr v)<=m:=by obtain⟨e,_,f,_⟩:=Ha d;obtain⟨i,_,g,_⟩:=H9 f;have:j1 (sqr v)<m+1:=zz6 Z Z;omega
def o8(e:0<=m)(f:0<L):((Gw c m L).natAbs:Int)=(c.natAbs:Int)*m/L:=by
 have q:∀z:Int,0<=z->0<=z*m/L:=λz d=>Fb3 (Fax d e) Z;unfold Gw;split
 .have:=q (-c) Z;rw[show(c.natAbs:Int)=-c by omega];omega
 .have:=q c Z;rw[show(c.natAbs:Int)=c by omega];omega
def co(e:0<=m)(d:m<L):(Gw c m L).natAbs<=c.natAbs:=by
 have g:=o8 (c:=c) e (show 0<L by omega);have f:(c.natAbs:Int)*m/L<=c.natAbs:=by have:(c.natAbs:Int)*m<=c.natAbs*L:=Fda Z Z;exact Int.le_trans (Int.ediv_le_ediv Z this) (by rw[Int.mul_ediv_cancel _ Z];exact Fcw _)
 omega
def df{v:Vc}(g:wx v)(f:0<=m):wx (je v m)/\(je v m).1*(je v m).1+(je v m).2*(je v m).2<(m+1)*(m+1):=by
 obtain⟨e,i,o,t⟩:=Ha g;have h:max m 0=m:=Z;have k:nrm v.1=v.1:=congrArg Prod.fst i;have j:nrm v.2=v.2:=congrArg Prod.snd i;have p:=(H9 o).1;unfold je;rw[h];split
 .rename_i l;rw[i];refine⟨g,?_⟩;have:=Pi (show 0<=j1 (sqr v)+1 by omega) (show j1 (sqr v)+1<=m+1 by omega);omega
 .rename_i n;rw[k,j];have d:m<j1 (sqr v):=Z;have w:=co (c:=v.1) f d;have u:=co (c:=v.2) f d;refine⟨?_,?_⟩
  .unfold wx at g⊢;dsimp only;omega
  .dsimp only;rw[K7 (Gw v.1 _ _),K7 (Gw v.2 _ _)];refine ysg (s:=0) (x:=v.1.natAbs) (y:=v.2.natAbs) Z Z f d ?_ (o8 f Z) (o8 f Z);rw[<-K7,<-K7];omega
def zew(x:Int)(k:Nat):(x.tdiv (2^k:Nat)).natAbs<=x.natAbs:=by rw[Int.natAbs_tdiv];exact Nat.div_le_self _ _
def xt(p:Vc):Prop:=(0<=p.1/\p.1<=8388608)/\(0<=p.2/\p.2<=8388608)
theorem Mh(e:-2251799813685248<=a/\a<=2251799813685248)(d:-2251799813685248<=b/\b<=2251799813685248):qs a b=a+b:=by unfold qs wo;rw[Gi Z,Gi Z,if_neg Z,if_neg Z]
theorem el{p q:Vc}(f:xt p)(d:xt q):q9 q p=(q.1-p.1,q.2-p.2)/\wx (q9 q p):=by obtain⟨j,i⟩:=f;obtain⟨h,g⟩:=d;have e:=sb (a:=q) (b:=p) Z Z Z Z;refine⟨e,?_⟩;rw[e];unfold wx;dsimp only;omega
def Wh{p q:Vc}(h:xt p)(g:xt q){r:Int}(y:0<r):-16777216<=(vj p r q).1/\(vj p r q).1<=16777216/\-16777216<=(vj p r q).2/\(vj p r q).2<=16777216:=by
 obtain⟨e,l⟩:=el g h;unfold vj;split
 .rename_i z;generalize A:r-j1 (sqr (q9 p q))=m;have f:∀w:Vc,wx w->(w.1.natAbs<=16777216/\w.2.natAbs<=16777216)->-16777216<=(je w m).1/\(je w m).1<=16777216/\-16777216<=(je w m).2/\(je w m).2<=16777216:=by
   intro w k B;obtain⟨_,d,_,_⟩:=Ha k;have j:nrm w.1=w.1:=congrArg Prod.fst d;have i:nrm w.2=w.2:=congrArg Prod.snd d;unfold je;split
   .rw[d];omega
   .rename_i n;rw[j,i];have D:=co (c:=w.1) (m:=max m 0) (L:=j1 (sqr w)) Z Z;have C:=co (c:=w.2) (m:=max m 0) (L:=j1 (sqr w)) Z Z;dsimp only;omega
  obtain⟨v,u⟩:=h;obtain⟨t,o⟩:=g;split
  .exact f _ (by unfold wx;decide) ψ
  .refine f _ l ?_;rw[e];dsimp only;omega
 .decide
def yn5{w:Wld}{u:Unt}(k:xt u.pos)(h:∀x∈w.U,x.inn=0->xt x.pos)(t:Γ w.U<=4096):wx (Bz w u):=by
 have key:∀(l:List Unt) (v:Vc) (B:Nat),(∀x∈l,x.inn=0->xt x.pos)->B+Γ l<=4096->(v.1.natAbs<=B*16777216/\v.2.natAbs<=B*16777216)->
   wx (l.foldl (λv x=>if x.inn=0/\x.id≠u.id then xp v (vj u.pos (zw u.kind+zw x.kind+16384) x.pos)else v) v):=by
  intro l;induction l with
  |nil=>
   intro v B _ f d;unfold wx;simp only[Fcj]at f;simp only[List.foldl_nil];omega
  |cons x l i=>
   intro v B g f d;simp only[Fbb]at f;rw[Fc6];refine i _ (B+1) (λy j=>g y (Fba _ j)) Z ?_;split
   .rename_i n;have p:=P0 u.kind;have o:=P0 x.kind;have:=Wh k (g x Fbn n.1) (r:=zw u.kind+zw x.kind+16384) Z;generalize vj u.pos (zw u.kind+zw x.kind+16384) x.pos=z at*;have e:xp v z=(v.1+z.1,v.2+z.2):=by
     unfold xp;rw[Mh Z Z,Mh Z Z]
    rw[e];dsimp only;omega
   .exact⟨Fb7 d.1 (Fa3 _ (Fdd B)),Fb7 d.2 (Fa3 _ (Fdd B))⟩
 unfold Bz;refine key w.U (0,0) 0 h Z ⟨?_,?_⟩
 .show(0:Int).natAbs<=_;simp
 .show(0:Int).natAbs<=_;simp
end
section
variable {w:Wld} {i:Nat} {u:Unt}
theorem Wc(w:Wld){a b:Unt}(h:a.id=b.id):yj (yj w a) b=yj w b:=by
 unfold yj;simp only[List.map_map]
 congr 1
 refine Fbw λx _=>?_;simp only[Function.comp];by_cases e:x.id=a.id
 .rw[if_pos e,if_pos h,if_pos (e.trans h)]
 .rw[if_neg e]
def ykb(b:yw w.U)(a:i<Γ w.U):yj w w.U[i]=w:=by
 rw[Cf b a rfl]
 congr 1
 exact List.set_getElem_self a
def yhu(b:yw w.U)(c:i<Γ w.U)(a:u.id=w.U[i].id):yw (yj w u).U:=by
 refine zbn (Wd w u) (λj d=>?_) b;by_cases e:j=i
 .subst e;obtain⟨_,h⟩:=Wf b c a;rw[h];exact a
 .rw[zca b c a d e]
def Mt(u a:Unt):Prop:=a.id=u.id/\a.kind=u.kind/\(a.pos=u.pos\/∃(v:Vc) (m:Int) (k:Nat),wx v/\0<=m/\m<=xa u.kind/\a.pos=xp u.pos (vn (qy (je v m)) k))
def Na(k:Int):8192<=xa k/\xa k<=24576:=by unfold xa;split<;>(try split)<;>(try split)<;>omega
def tf(d:yw w.U)(f:i<Γ w.U){v:Vc}{m:Int}(c:wx v)(e:0<=m)(a:m<=xa w.U[i].kind):∃b,xj w w.U[i] (je v m)=yj w b/\Mt w.U[i] b:=by
 unfold xj;cases h:qo w w.U[i] (qy (je v m)) 5 0 with
 |none=>exact⟨w.U[i],(ykb d f).symm,rfl,rfl,.inl rfl⟩
 |some r=>
  obtain⟨k,p⟩:=r;obtain⟨_,_,g⟩:=Ve 5 0 h;exact⟨_,rfl,rfl,rfl,.inr ⟨v,m,k,c,e,a,g⟩⟩
def Hn(a:yd w)(b:u∈w.U)(c:u.inn=0):xt u.pos:=by have:=R3 a.1.1.2.1.1 (a.2.1 u b c).1;unfold xt;omega
def pm{g:Gnd}(e:zt g){t:Nat}(f:t<Γ g.T):xt (ye g t):=by obtain⟨⟨n,l⟩,⟨k,j⟩,h,_⟩:=e;have a:=Fcl (t:Int) (show g.W≠0 by omega);have b:=Fc2 (t:Int) (show 0<g.W by omega);have c:0<=(t:Int)/g.W:=Fb3 Z Z;have d:(t:Int)/g.W<g.H:=Fd2 Z (by rw[Int.mul_comm];omega);unfold xt ye tx ty;dsimp only;omega
def uf(g:yd w)(n:i<Γ w.U)(I:w.U[i].inn=0)(B:mvG 0 u=mvG 0 w.U[i])(C:u.next.toNat<Γ w.G.T):∃d,Ay w u=yj w d/\Mt w.U[i] d:=by
 obtain⟨h,L,t,o,K⟩:=Kh B;have l:=Hn g (Faa n) I;have same:∀d:Unt,d.id=u.id->d.kind=u.kind->d.pos=u.pos->∃f,yj w d=yj w f/\Mt w.U[i] f:=λd a b c=>⟨d,rfl,a.trans h,b.trans t,.inl (c.trans o)⟩
 unfold Ay;split
 .obtain⟨H,e⟩:=Wf (u:={u with stuck:=0}) g.1.2.1 n h;have k:=yhu (u:={u with stuck:=0}) g.1.2.1 n h;have E:=(el (p:=u.pos) (q:=ye w.G u.next.toNat) (by rw[o];exact l) (pm g.1.1.2.1.1 C)).2;have D:=Na u.kind;obtain⟨f,A,j,z,y⟩:=tf k H (v:=q9 (ye w.G u.next.toNat) u.pos) (m:=xa u.kind) E Z (by rw[e];exact Fcw _);rw[e]at A j z y;refine⟨f,?_,j.trans h,z.trans t,?_⟩
  .unfold Cc;rw[A];exact Wc w j.symm
  .rw[<-o,<-t];exact y
 .split
  .exact same _ rfl rfl rfl
  .exact same _ rfl rfl rfl
def yll(a:zt w.G){own:Nat}(b:own<Γ w.G.T)(h:¬Bb w u own<0):(Bb w u own).toNat<Γ w.G.T:=by have:=lu a (u:=u) b;have:=a.2.2.1;unfold Ak at*;omega
def ypf(a:yd w)(c:i<Γ w.U)(d:w.U[i].inn=0)(l:w.U[i].goal≠-1):∃f,Cx w w.U[i]=yj w f/\Mt w.U[i] f:=by
 have g:=Sz a c;have b:=a.1.1.2.1.1;unfold Cx;split
 .exact⟨_,rfl,rfl,rfl,.inl rfl⟩
 .split
  .split
   .exact⟨_,rfl,rfl,rfl,.inl rfl⟩
   .rename_i j;exact uf a c d (u:={w.U[i]with next:=Bb w w.U[i] (wh w.G w.U[i].pos)}) rfl (yll b (Wj a c d) j)
  .rename_i k;refine uf a c d rfl ?_;have h:w.U[i].next≠-1:=λe=>k (by unfold Bs;simp[e]);have:=g.2.1.2.1;have:=b.2.2.1;unfold Ak at*;omega
def zj2(a:yd w)(b:i<Γ w.U)(d:w.U[i].inn=0):∃c,vr w w.U[i]=yj w c/\Mt w.U[i] c:=by
 unfold vr;split
 .have g:=Na w.U[i].kind;have e:(xa w.U[i].kind).tdiv 4=xa w.U[i].kind/4:=Fat Z;unfold Gr;rw[e];exact tf a.1.2.1 b (yn5 (Hn a (Faa b) d) (λx f h=>Hn a f h) a.1.1.2.1.2.2) Z Z
 .exact ypf a b d ‹_›
end
structure MayF(w:Wld):Prop where
 hg:zt w.G
 hB:Γ w.B<=256
 hU:Γ w.U<=4096
 hT:Γ w.G.T<=16384
 hb:∀b∈w.B,yh b/\onP w.G b
 hk:∀u∈w.U,vd u.kind
 hr:yw w.U
 hn1:1<=w.next
 hn2:w.next<=1099511627776
def xr{w:Wld}(h:yd w):MayF w:=by obtain⟨⟨c,d⟩,_⟩:=h;have a:=c.2.1.2.1;have g:=qg c.2.1.1;exact⟨c.2.1.1,a.1,c.2.1.2.2,Z,λb e=>⟨(a.2.2.1 b e).1,(a.2.2.1 b e).2.1⟩,λu f=>(d.2 u f).1.1.2.2,d.1,c.1.2.2.1,c.1.2.2.2⟩
theorem MayF.fits{w:Wld}(h:MayF w):w.fits:=⟨by unfold Gnd.fits;have:=h.hT;omega,by have:=h.hB;omega,by have:=h.hU;omega⟩
def Kl(k:Int):0<=qn k/\qn k<=3:=by unfold qn;split<;>decide
def fe(a b:Vc):(xp a b).ok:=by have d:=dg (nrm a.1+nrm b.1);have c:=dg (nrm a.2+nrm b.2);exact⟨⟨by show _<=wo _;omega,by show wo _<=_;omega⟩,⟨by show _<=wo _;omega,by show wo _<=_;omega⟩⟩
def playW(w:Wld):Prop:=yd w/\∀u∈w.U,u.pos.ok
def playW.sizes{w:Wld}(h:playW w):Γ w.G.T<=1000000/\Γ w.B<=1000000/\Γ w.U<=1000000:=by have f:=xr h.1;have:=f.hB;have:=f.hU;have:=f.hT;omega
def zja{u a:Unt}(h:Mt u a)(b:u.pos.ok):a.pos.ok:=by
 rcases h.2.2 with e|⟨v,m,k,_,_,_,e⟩
 .rw[e];exact b
 .rw[e];exact fe _ _
def yj8{w:Wld}{u:Unt}(c:∀x∈w.U,x.pos.ok)(d:u.pos.ok):∀x∈(yj w u).U,x.pos.ok:=by
 intro x a;unfold yj at a;obtain⟨y,b,rfl⟩:=Fag.1 a;split
 .exact d
 .exact c y b
section
variable {w:Wld} {i:Nat}
open Classical in
noncomputable def goN(w:Wld):Nat->Wld
 |0=>w
 |i+1=>if h:i<(goN w i).U.length then(if(goN w i).U[i].inn=0 then vr (goN w i) (goN w i).U[i]else goN w i)else goN w i
noncomputable def ku(w:Wld):Wld:=goN w (Γ w.U)
def ykk(h:playW w)(b:i<Γ w.U)(c:w.U[i].inn=0):playW (vr w w.U[i])/\(vr w w.U[i]).U.length=Γ w.U/\(vr w w.U[i]).G=w.G/\(vr w w.U[i]).B=w.B:=by
 obtain⟨e,a,d⟩:=zj2 h.1 b c;refine⟨⟨yl9 h.1 b c,?_⟩,?_,?_,?_⟩
 .rw[a];exact yj8 h.2 (zja d (h.2 _ (Faa b)))
 .rw[a,Wd]
 .rw[a];rfl
 .rw[a];rfl
def Rz(h:playW w):∀i,playW (goN w i)/\(goN w i).U.length=Γ w.U/\(goN w i).G=w.G/\(goN w i).B=w.B
 |0=>⟨h,rfl,rfl,rfl⟩
 |i+1=>by
  obtain⟨e,d,c,b⟩:=Rz h i;unfold goN;by_cases a:i<(goN w i).U.length
  .rw[dif_pos a];by_cases f:(goN w i).U[i].inn=0
   .rw[if_pos f];obtain⟨l,k,j,g⟩:=ykk e a f;exact⟨l,k.trans d,j.trans c,g.trans b⟩
   .rw[if_neg f];exact⟨e,d,c,b⟩
  .rw[dif_neg a];exact⟨e,d,c,b⟩
def ze5(a:i<(goN w i).U.length)(b:(goN w i).U[i].inn=0):goN w (i+1)=vr (goN w i) (goN w i).U[i]:=by rw[goN,dif_pos a,if_pos b]
def ze4(a:i<(goN w i).U.length)(b:(goN w i).U[i].inn≠0):goN w (i+1)=goN w i:=by rw[goN,dif_pos a,if_neg b]
def yu6(h:playW w):playW (ku w)/\(ku w).U.length=Γ w.U:=⟨(Rz h _).1,(Rz h _).2.1⟩
end
section
variable {x:Unt} {w:Wld}
def R0{U:List Unt}{v:Unt}(h:v∈U++[x]):v∈U\/v=x:=δ
def yhv{U:List Unt}(a:yw U)(d:∀u∈U,u.id<x.id):yw (U++[x]):=by
 intro j f c;have b:j<Γ U+1:=δ;by_cases e:j<Γ U
 .rw[Fb1 Z,Fb1 e];exact a j e c
 grind
theorem ymc{c:Cmd}(L:yd w)(C:jh c)(E:c.P<=w.players)(M:c.K=1)(h:spE w c=0):yd (spW w c):=by
 have I:¬Gs w:=λhf=>by simp_all[spE]
 have i:qi w 0 c.N (c.X,c.Y):=Classical.byContradiction λg=>by simp_all[spE]
 unfold Gs at I;have H:Γ w.U<4096:=Z;have G:w.next<1099511627776:=Z;obtain⟨⟨g,D,o⟩,A,R⟩:=L;have B:=g.2.1.1;have S:=((Cmd.ok1 M).1 C.1).1;have hl:(w.U++[spU w c]).length=Γ w.U+1:=by rw[Fad];rfl
 have y:=g.1.2.2.1;have upu:∀v,k9 w v->k9 (spW w c) v:=λv d=>⟨⟨⟨d.1.1.1,by show v.id<w.next+1;have:=d.1.1.2;omega⟩,d.1.2⟩,d.2⟩
 have z:∀id,id≠0->z6 (w.U++[spU w c]) id=z6 w.U id:=λid Q=>by grind[z6,spU]
 refine⟨⟨⟨⟨g.1.1,g.1.2.1,by show 1<=w.next+1/\w.next+1<=_;omega⟩,⟨B,g.2.1.2.1,by show(w.U++[spU w c]).length<=_;omega⟩,λb p=>⟨(g.2.2 b p).1,by show b.id<w.next+1;have:=(g.2.2 b p).2;omega⟩⟩,?_,λv d=>?_⟩,λv d n=>?_,λv d n=>?_⟩
 .exact yhv D λu t=>(o u t).1.1.1.2
 .rcases R0 d with d|rfl
  .exact⟨upu v (o v d).1,(o v d).2⟩
  .refine⟨⟨⟨⟨y,by show w.next<w.next+1;omega⟩,⟨C.2.1.1,E⟩,S⟩,⟨.inl rfl,.inl rfl,ψh⟩,⟨ψx,⟨λe=>absurd (show(0:Int)=1 from e) ψ,λe=>absurd rfl e⟩⟩,λ_=>⟨rfl,rfl⟩⟩,λb p=>?_⟩;have:=(g.2.2 b p).2;show b.id≠w.next;omega
 .rcases R0 d with d|rfl
  .have l:=A v d n;refine⟨l.1,λx f k j=>?_⟩;rcases R0 f with f|rfl
   .exact l.2 x f k j
   .have:=i.2 v d n (by have:=(o v d).1.1.1.1;omega);rw[zia B i.1 l.1]at this;exact this
  .refine⟨i.1,λx f k j=>?_⟩;rcases R0 f with f|rfl
   .exact i.2 x f k (by have:=(o x f).1.1.1.1;omega)
   .exact absurd rfl j
 .rcases R0 d with d|rfl
  .obtain⟨x,f,g1,W,V,T⟩:=R v d n;exact⟨x,Fdl _ f,g1,W,by show((z6 (w.U++[spU w c]) _).length:Int)<=_;rw[z _ n];exact V,T⟩
  .exact absurd rfl n
def zfd{g:Gnd}{l a:List Bld}{c:Int}{p:Vc}{r:Int}(f:Cy g l c p r)(h:∀t,t<Γ g.T->yp g a c t=false->yp g l c t=false\/¬jg g t p r):Cy g a c p r:=
 ⟨f.1,λt b i d=>by
  rcases h t b i with e|e
  .exact f.2 t b e d
  .exact e d⟩
def zdu(o:yd w){B:List Bld}{next:Int}(l:w.next<=next/\next<=1099511627776)(h:Iw w.G B)(g:∀b∈B,b.owner<=w.players/\b.id<next)(f:∀b∈B,∀u∈w.U,b.id≠u.id)
  (p:∀u∈w.U,u.inn=0->Cy w.G B (yk u.kind) u.pos (zw u.kind)):yd {w with B:=B,next:=next}:=by
 obtain⟨⟨d,k,j⟩,e,t⟩:=o;have n:=d.1.2.2.1;refine⟨⟨⟨⟨d.1.1,d.1.2.1,δ⟩,⟨d.2.1.1,h,d.2.1.2.2⟩,g⟩,k,λv c=>⟨?_,λb h=>f b h v c⟩⟩,λv c i=>⟨p v c i,(e v c i).2⟩,t⟩;have a:=(j v c).1;exact⟨⟨⟨a.1.1.1,by show v.id<next;have:=a.1.1.2;omega⟩,a.1.2⟩,a.2⟩
theorem ymk{c:Cmd}(g:yd w)(z:jh c)(E:c.P<=w.players)(I:c.K=4)(h:bdE w c=0):yd (bdW w c):=by
 unfold bdE at h;have R:0<=c.T/\c.T<w.G.W*w.G.H:=Classical.byContradiction λhh=>ψi;rw[if_neg (not_not_intro R)]at h;have Q:¬1099511627776<=w.next:=λhh=>ψi;rw[if_neg Q]at h;have k:qm w.G w.B (bdB w c)=0:=Classical.byContradiction λhh=>δ;rw[if_pos k]at h;have M:¬Hm w (bdB w c):=λhh=>ψi;unfold qm at k;have D:onP w.G (bdB w c):=Classical.byContradiction λhh=>δ;rw[if_neg (not_not_intro D)]at k;have L:¬∃x∈w.B,vy x (bdB w c):=λhh=>δ;rw[if_neg L]at k;have C:Fy w.G (bdB w c):=Classical.byContradiction λhh=>δ;rw[if_neg (not_not_intro C)]at k;have X:¬256<=Γ w.B:=λhh=>δ;have n:=((Cmd.ok4 I).1 z.1).2;have hh:=g.1.1;have o:=hh.1.2.2.1;have d:=hh.2.1.2.1;have V:=qg hh.2.1.1;have mem:∀b∈w.B++[bdB w c],b∈w.B\/b=bdB w c:=λb a=>δ;have A:(w.B++[bdB w c]).length=Γ w.B+1:=by rw[Fad];rfl
 refine zdu g (B:=w.B++[bdB w c]) (next:=w.next+1) ⟨Z,Z⟩ ⟨Z,?_,λb a=>?_,?_⟩ (λb a=>?_) (λb a u f=>?_) (λu f l=>?_)
 .intro j v l;have p:j<Γ w.B+1:=by rw[<-A];exact v
  by_cases e:j<Γ w.B
  .rw[Fb1 Z,Fb1 e];exact d.2.1 j e l
  .have ej:j=Γ w.B:=Z;subst ej;rw[Fb1 Z,Fef (Fai _)];simp only[Nat.sub_self,Fdc];exact(hh.2.2 _ (Faa Z)).2
 .rcases mem b a with a|rfl
  .exact d.2.2.1 b a
  .exact⟨⟨⟨o,by show w.next<=_;omega⟩,⟨z.2.1.1,z.2.1.2⟩,n⟩,D,C⟩
 .intro j v i y;have p:j<Γ w.B+1:=by rw[<-A];exact v
  by_cases e:j<Γ w.B
  .rw[Fb1 e,Fb1 Z];exact d.2.2.2 j e i y
  .have ej:j=Γ w.B:=Z;subst ej;rw[Fef (Fai _),Fb1 Z];simp only[Nat.sub_self,Fdc];grind[List.getElem_mem,vy]
 .rcases mem b a with a|rfl
  .have:=hh.2.2 b a;exact⟨this.1,Z⟩
  .exact⟨E,by show w.next<w.next+1;omega⟩
 .rcases mem b a with a|rfl
  .exact(g.1.2.2 u f).2 b a
  .have:=(g.1.2.2 u f).1.1.1.2;show w.next≠u.id;omega
 .refine zfd (g.2.1 u f l).1 (λt S U=>?_);by_cases a:ve w.G (bdB w c) t
  .exact .inr λhit=>M ⟨t,⟨Z,a⟩,u,f,l,hit⟩
  grind[yp,xn]
def ymi{c:Cmd}(f:yd w):yd (drW w c):=by
 unfold drW;cases E:Ca w.B c.N with
 |none=>exact f
 |some i=>
  have o:=f.1.1;have d:=o.2.1.2.1;have n:i<Γ w.B:=by grind[Ca,List.findIdx?_eq_some_iff_getElem]
  have hlen:(w.B.eraseIdx i).length=Γ w.B-1:=List.length_eraseIdx_of_lt n;have sub:∀b∈w.B.eraseIdx i,b∈w.B:=λb e=>List.mem_of_mem_eraseIdx e;have get:∀j,(g:j<(w.B.eraseIdx i).length)->(w.B.eraseIdx i)[j]=if h:j<i then w.B[j]'Z else w.B[j+1]'Z:=λj g=>List.getElem_eraseIdx ..
  have up:∀a b,(G:a<b)->(e:b<Γ w.B)->(w.B[a]'Z).id<w.B[b].id:=λa b z=>by
   induction b with
   |zero=>omega
   |succ b A=>
    intro e;have H:=d.2.1 (b+1) e Z;grind
  have v:=o.1.2.2;refine zdu f (B:=w.B.eraseIdx i) (next:=w.next) ⟨Z,Z⟩ ⟨by have:=d.1;omega,?_,λb e=>d.2.2.1 b (sub b e),?_⟩ (λb e=>o.2.2 b (sub b e)) (λb e u l=>(f.1.2.2 u l).2 b (sub b e)) (λu l p=>?_)
  .intro j g p;rw[get _ Z,get _ g];split
   .split
    .exact up _ _ Z _
    .exact up _ _ Z _
   .rw[dif_neg Z];exact up _ _ Z _
  .intro j g k y;rw[get _ g,get _ Z];split
   .rw[dif_pos Z];exact d.2.2.2 _ _ _ Z
   .split
    .exact d.2.2.2 _ _ _ Z
    .exact d.2.2.2 _ _ _ Z
  .refine zfd (f.2.1 u l p).1 (λt C D=>.inl ?_);grind[yp,xn]
end
end Go.V
