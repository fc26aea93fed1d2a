/- Lemmas of thronglaw29; no conditions. -/
import Derived.Test.YtphhbmaalpdnoaaGreatKE
set_option linter.unusedSimpArgs false
set_option linter.unusedVariables false
set_option linter.defProp false
open List renaming length→Γ
open Option renaming some→Δ,none→Θ
namespace Go.V
def ACalls.frozenLe{P:Program}{f:FuncId}{xs:List AV}{i:Store}{Q:Ja}{R:Ja}(h:ACalls P f xs i Q)
  (hQ:∀r S,Q r S->∃z c,R z c/\(∀b x,c.obj b=Δ x->S.obj b≠Θ)/\(∀b x,c.tok b≠Δ x)∧
   ∀(a M:BB) (w:World),StoreOK S a M w->(∀b x,c.obj b=Δ x->ObjRel w (λb o=>(M b o\/a b o)/\(S.obj b=Θ\/c.obj b≠Θ)) x b)∧
    ∀v,VRel w (λb o=>M b o\/a b o) r v->VRel w (λb o=>(M b o\/a b o)/\(S.obj b=Θ\/c.obj b≠Θ)) z v):
  ACalls P f xs i R:=by
 refine⟨λa M w H sto T=>?_⟩;have d:=h.out a M w H sto T;have key:∀v l,xg i Q a M w v l->xg i R a M w v l:=by
  rintro v l ⟨r,S,B,U,C,k,j⟩;obtain⟨z,c,D,I,p,W⟩:=hQ r S U;obtain⟨G,E⟩:=W a B l k;have K:∀b o,((B b o/\(S.obj b=Θ\/c.obj b≠Θ))\/a b o)->((B b o\/a b o)/\(S.obj b=Θ\/c.obj b≠Θ)):=λb o h=>by
   rcases h with⟨d,h2⟩|d
   .exact⟨.inl d,h2⟩
   .refine⟨.inr d,?_⟩;cases u:S.obj b with
    |none=>exact .inl rfl
    |some y=>exact absurd ((k.obj b y u).2 o) (k.dis b o d)
  refine⟨z,c,λb o=>B b o/\(S.obj b=Θ\/c.obj b≠Θ),D,(E v C).mono K,?_,?_⟩
  .refine{obj:=λb x A=>⟨(G b x A).mono K,λo=>⟨?_,.inr (by rw[A];simp)⟩⟩,tok:=λb x A=>absurd A (p b x),mlt:=λb o t=>k.mlt b o t.1,olt:=k.olt,dis:=λb o V t=>k.dis b o V t.1};cases u:S.obj b with
   |none=>grind
   |some y=>exact(k.obj b y u).2 o
  .exact{size:=j.size,keep:=j.keep,blk:=j.blk,shp:=j.shp,sub:=λb o t u=>j.sub b o t.1 u,tape:=j.tape,os:=j.os,output:=j.output}
 generalize(callFunc f H).run P w=res at d;cases res with
 |ok n l=>
  cases n with
  |enter g args=>exact Calls.mono d λe L ⟨v,X,C⟩=>⟨v,X,key _ _ C⟩
  |value v=>exact key _ _ d
  |_=>exact d
 |_=>exact d
def ya0{a:Store}{p b:Nat}{x y:AObj}(h:(a.sO p x).obj b=Δ y):(b=p/\y=x)\/(b≠p/\a.obj b=Δ y):=by
 by_cases e:b=p
 .simp_all[zd]
 grind[zi]
def VRel.tup2{w:World}{T d:BB}{a b f e:AV}{v:Value}(h:VRel w T (.tup [a,b]) v)(o:∀x,VRel w T a x->VRel w d f x)(n:∀x,VRel w T b x->VRel w d e x):VRel w d (.tup [f,e]) v:=by
 cases h with
 |tup _ c g l=>
  refine .tup _ c g λi x y k j=>?_;grind
def ytp{W:World}{T n:BB}{l f r:List AV}{b:Nat}(t:Γ l=Γ f)(h:∀x,VRel W T (.agg l) x->VRel W n (.agg f) x)(o:∀y∈r,flat y)(u:CellsRel W T (l++r) b):CellsRel W n (f++r) b:=by
 obtain⟨c,e,A,z,w,v,k⟩:=u;rw[Fad]at v;have a:=h (.agg (c.extract 0 (Γ l))) (.agg _ _ χ λi x y a d=>by
  have g:=(Fa1.1 a).1;refine k i x y (by rw[Far g];exact a) ?_;rw[Array.getElem?_extract]at d;split at d
  .simpa using d
  .cases d)
 cases a with
 |agg _ _ p j=>
  refine⟨c,e,A,z,w,by rw[Fad];omega,λi x y a d=>?_⟩;by_cases g:i<Γ f
  .rw[Far g]at a;refine j i x y a ?_;rw[Array.getElem?_extract,if_pos Z];simpa using d
  .rw[Fa0 Z]at a;refine o x (Fa4 a) _ _ _ _ _ (k i x y ?_ d);rw[Fa0 Z,t];exact a
theorem RowsQ.has{α:Type}{k:Nat}{f:α->List AV}{S:Store}{v:AV}{l:List α}(h:RowsQ k f S v l){b n c:Nat}(d:v=.s (.slice (Δ ⟨b,0,Θ⟩) n c))(i:0<c):S.has b:=by
 rcases h with(⟨rfl,_⟩|⟨j,g,L,rfl,e,_⟩)|⟨a,_,rfl,_⟩
 .cases d
 .cases d;exact xk e
 .cases d;omega
def Store.objs0(S:Store):Store:=⟨S.obj,λ_=>Θ⟩
def ACalls.frozenEng{P:Program}{f:FuncId}{xs:List AV}{j:Store}{Q:Ja}{R:Ja}(h:ACalls P f xs j Q)
  (T:∀r S,Q r S->(∃t:Store,R r t/\(∀b x,t.obj b=Δ x->S.obj b=Δ x)/\∀b,t.tok b=Θ)\/∃u X N g raw a p,zl X N/\¬X.has g/\¬N.has g/\S=(X.un N).sO g (.cells (raw++[.s p]))/\Γ raw=Γ a/\R u (N.objs0.sO g (.cells (a++[.s p])))∧
   ∀(c M:BB) (W:World),StoreOK X c M W->(∀x,VRel W (λb o=>M b o\/c b o) (.agg raw) x->VRel W (λb o=>(M b o\/c b o)/\X.obj b=Θ) (.agg a) x)∧
    ∀x,VRel W (λb o=>M b o\/c b o) r x->VRel W (λb o=>(M b o\/c b o)/\X.obj b=Θ) u x):ACalls P f xs j R:=by
 refine h.frozenLe ?_;intro r S H;rcases T r S H with⟨t,C,d,U⟩|⟨u,X,N,g,raw,a,p,z,hx,V,rfl,K,C,L⟩
 .exact⟨r,t,C,λb x hx=>(by rw[d b x hx];simp),λb x hx=>(by rw[U b]at hx;cases hx),λc M w sto=>⟨λb x hx=>(sto.obj b x (d b x hx)).1.mono λb o h=>h.1,λv B=>B.mono λb o h=>h.1⟩⟩
 have l:∀b x,(N.objs0.sO g (.cells (a++[.s p]))).obj b=Δ x->(b=g/\x=.cells (a++[.s p]))\/(b≠g/\N.obj b=Δ x):=λb x hx=>ya0 hx;refine⟨u,_,C,λb x hx=>?_,λb x hx=>θc,λc M w sto=>?_⟩
 .rcases l b x hx with⟨rfl,rfl⟩|⟨n,d⟩
  .rw[zd];simp
  .rw[zi n,zh d];simp
 have sX:StoreOK X c M w:=sto.weaken ⟨λb y i=>by have e:b≠g:=λe=>hx (by rw[<-e];exact xk i);rw[zi e];exact yf z i,λb y i=>Lh z i⟩;obtain⟨G,E⟩:=L c M w sX;have D:∀b o,((M b o\/c b o)/\(((X.un N).sO g (.cells (raw++[.s p]))).obj b=Θ\/(N.objs0.sO g (.cells (a++[.s p]))).obj b≠Θ))->(M b o\/c b o)/\X.obj b=Θ:=λb o ⟨n,d⟩=>by
  refine⟨n,?_⟩;by_cases e:b=g
  .subst e;exact(jt hx).1
  .rw[zi e,zi e]at d;cases k:X.obj b with
   |none=>rfl
   |some y=>
    rcases d with d|d
    .rw[yf z k]at d;cases d
    .exact absurd (jt (z b (xk k))).1 d
 refine⟨λb x A=>?_,λv B=>(E v B).mono D⟩;rcases l b x A with⟨rfl,rfl⟩|⟨n,d⟩
 .have I:=(sto.obj b _ (zd _ _ _)).1;have:=ytp K G (λy i=>by rw[Fci.1 i];exact Ht p) I;exact ObjRel.mono D (show ObjRel w (λb o=>(M b o\/c b o)/\X.obj b=Θ) (.cells (a++[.s p])) b from this)
 .exact(sto.obj b x (by rw[zi n];exact zh d)).1.mono λb o h=>h.1
section
variable {P:Program} {c:Cfg} {w:World} {st:Store} {Oth M:BB}
def yvf{o:Oper}{t:TypeId}{x:Operand}(e:o.op=.makeInterface t x){d:TypeDesc}(j:qf P c.I->P.underlying t=Δ d)(i:∀m,d≠.interface m){y:AV}{u:Value}
    (g:∀(w:World) (T:BB) (v:Value),VRel w T y v->v=u) {R:Ja} (h:R (.s (.iface t u)) st):AEff P c o [y] st R:=by
  refine⟨λOth M w ρ k sto hr=>?_⟩;rw[e]at hr;have hr:Reads w (λb o=>M b o\/Oth b o) [y] [ρ x]:=θ1;obtain⟨v,f,a⟩:=Lq hr;simp only[Fck,and_true]at f;rw[<-f]at a;have a:=g _ _ _ a;have hund:=yy (j k);have hrun:(execOp ρ o).run P w=.ok (.value (.iface t u)) w:=by simp only[execOp,e,Instr.makeInterface,Sem.run_bind,hund,Result.andThen_ok,a];cases d<;>simp at i⊢
  rw[hrun];exact⟨_,_,_,h,.s _,sto,Chg.refl M w⟩
def yve{o:Oper}{t:TypeId}{x:Operand}(d:o.op=.makeInterface t x){it:TI}{e:TypeId}(hit:c.I t=Δ it)(a:it.ty=.ptr e){u:Value}{R:Ja}(h:R (.s (.iface t u)) st):AEff P c o [.s u] st R:=
  yvf d (λf=>Vd (f _ _ hit) a) (λm h=>ω) (λw T v b=>VRel.eq_s b) h
end
section
variable {P:Program} {v:Value} {x:AV}
theorem ygl{t:TypeId}{a:TypeInfo}(h:P.info? t=Δ a)(w:World):(typeInfo t).run P w=.ok a w:=by simp[typeInfo,run_program,h]
theorem Meets.ptr{t:TypeId}{m:String}{g:FuncId}{b:TypeInfo}{a:Method}{e:TypeId}(i:P.info? t=Δ b)(j:b.methods.find? (·.name==m)=Δ a)(h:a.path=#[])
    (f:a.func=Δ (g,true)) (d:P.underlying t=Δ (.pointer e)) (c:∀w T,VRel w T x v):Meets P t v m g x:=by
  refine⟨v,λw=>?_,c⟩;have hdep:P.types.size+Made.depth=(P.types.size+99)+1:=rfl;rw[hdep];generalize P.types.size+99=n;have e:a.path.toList=[]:=by rw[h]
  unfold method;rw[Sem.run_bind,ygl i,Result.andThen_ok,j];dsimp only;rw[e];unfold follow;rw[Sem.run_bind,Sem.run_pure,Result.andThen_ok];dsimp only;rw[f];dsimp only;unfold receiverAt;simp[yy d,Place.get]
def Ro(P:Program)(t:TypeId)(m:String)(g:FuncId)(ptr:Bool):Bool:=
  match P.info? t,P.underlying t with
  | some inf,Δ d=>(match inf.methods.find? (·.name==m)with
    |some a=>a.path.isEmpty&&(match a.func with|some (f,b)=>Nat.beq f g&&(b==ptr)|none=>false)
    |none=>false)&&(match d with|.pointer _=>ptr|_=> !ptr)
  |_,_=>false
def yl8{t:TypeId}{m:String}{g:FuncId}{ptr:Bool}(h:Ro P t m g ptr=true):∃c a d,P.info? t=Δ c/\c.methods.find? (·.name==m)=Δ a/\a.path=#[]/\a.func=Δ (g,ptr)/\P.underlying t=Δ d/\(match d with|.pointer _=>ptr|_=> !ptr)=true:=by
  unfold Ro at h;split at h
  . rename_i c d w u
    rw[Fay]at h;obtain⟨i,p⟩:=h;split at i
    . rename_i a o
      rw[Fay]at i;obtain⟨n,e⟩:=i;split at e
      . rename_i f b l
        rw[Fay]at e;obtain⟨k,j⟩:=e;have z:f=g:=Nat.eq_of_beq_eq_true k;have y:b=ptr:=eq_of_beq j;subst z y;exact⟨c,a,d,w,o,Array.isEmpty_iff.1 n,l,u,p⟩
      . cases e
    . cases i
  . cases h
def Meets.ptrB{t:TypeId}{m:String}{g:FuncId}(h:Ro P t m g true=true)(c:∀w T,VRel w T x v):Meets P t v m g x:=by
  obtain⟨b,a,d,n,l,k,j,i,f⟩:=yl8 h;cases d with
  |pointer e=>exact Meets.ptr n l k j i c
  |_=>cases f
end
def Aj(v:Vc):Prop:=(-1099511627776<=v.1/\v.1<=1099511627776)/\(-1099511627776<=v.2/\v.2<=1099511627776)
def Fg{v:Vc}(h:Aj v):wx v:=by unfold Aj at h;unfold wx;omega
def fw{v:Vc}(h:Aj v):v.ok:=by unfold Aj at h;exact⟨⟨Z,Z⟩,⟨Z,Z⟩⟩
def La{p q:Vc}(b:xt p)(a:xt q):Aj (q9 q p):=by rw[(el b a).1];unfold xt at b a;unfold Aj;dsimp only;omega
def zep{w:Wld}{u:Unt}(g:xt u.pos)(h:∀x∈w.U,x.inn=0->xt x.pos)(n:Γ w.U<=4096):Aj (Bz w u):=by
 have key:∀(l:List Unt) (v:Vc) (B:Nat),(∀x∈l,x.inn=0->xt x.pos)->B+Γ l<=4096->(v.1.natAbs<=B*16777216/\v.2.natAbs<=B*16777216)->
   Aj (l.foldl (λv x=>if x.inn=0/\x.id≠u.id then xp v (vj u.pos (zw u.kind+zw x.kind+16384) x.pos)else v) v):=by
  intro l;induction l with
  |nil=>
   intro v B _ b a;unfold Aj;simp only[Fcj]at b;simp only[List.foldl_nil];omega
  |cons x l d=>
   intro v B c b a;simp only[Fbb]at b;rw[Fc6];refine d _ (B+1) (λy f=>c y (Fba _ f)) Z ?_;split
   .rename_i i;have k:=P0 u.kind;have j:=P0 x.kind;have:=Wh g (c x Fbn i.1) (r:=zw u.kind+zw x.kind+16384) Z;generalize vj u.pos (zw u.kind+zw x.kind+16384) x.pos=z at*;have e:xp v z=(v.1+z.1,v.2+z.2):=by
     unfold xp;rw[Mh Z Z,Mh Z Z]
    rw[e];dsimp only;omega
   .exact⟨Fb7 a.1 (Fa3 _ (Fdd B)),Fb7 a.2 (Fa3 _ (Fdd B))⟩
 unfold Bz;refine key w.U (0,0) 0 h Z ⟨?_,?_⟩
 .show(0:Int).natAbs<=_;simp
 .show(0:Int).natAbs<=_;simp
def yr0{A b t:Int}(c:0<b)(f:0<=t)(h:2*(A%b)+t<b):(2*A+t)/b=2*(A/b)/\(2*A+t)%b=2*(A%b)+t:=by
 have d:=Fcl A (show b≠0 by omega);have e:2*A+t=(2*(A%b)+t)+b*(2*(A/b)):=by
  have:=Int.mul_ediv_add_emod A b;have a:b*(2*(A/b))=2*(b*(A/b)):=by rw[Int.mul_left_comm]
  rw[a];omega
 rw[e,Fd3 _ _ Z,Fea];rw[Fb9 Z h,Fc7 Z h];omega
def yr1{A b t:Int}(a:0<b)(i:0<=t)(d:t<=1)(h:b<=2*(A%b)+t):(2*A+t)/b=2*(A/b)+1/\(2*A+t)%b=2*(A%b)+t-b:=by
 have g:=Fcl A (show b≠0 by omega);have f:=Fc2 A a;have e:2*A+t=(2*(A%b)+t-b)+b*(2*(A/b)+1):=by
  have:=Int.mul_ediv_add_emod A b;have c:b*(2*(A/b)+1)=2*(b*(A/b))+b:=by rw[Fdx,Int.mul_left_comm,Int.mul_one]
  rw[c];omega
 rw[e,Fd3 _ _ Z,Fea];rw[Fb9 Z Z,Fc7 Z Z];omega
def yu4{x:Int}(a:0<=x)(d:x<18446744073709551616):xf .and .u64 x 1=x%2:=by
 obtain⟨n,rfl⟩:=Fbk a;have key:(BitVec.ofInt 64 (n:Int) &&& BitVec.ofInt 64 1).toNat=n%2:=by have c:BitVec.ofInt 64 (n:Int)=BitVec.ofNat 64 n:=φ;have b:BitVec.ofInt 64 1=BitVec.ofNat 64 1:=rfl;rw[c,b,BitVec.toNat_and,BitVec.toNat_ofNat,BitVec.toNat_ofNat,Nat.mod_eq_of_lt Z];show n &&& 1=_;exact Nat.and_one_is_mod n
 show IntKind.u64.wrap ((BitVec.ofInt 64 (n:Int) &&& BitVec.ofInt 64 1).toNat:Int)=_;rw[key,kx Z Z];omega
section
variable {u:Unt} {w:Wld} {n k:Nat}
def zf8:∀{a b:List Unt},(a.map (·.id)).Pairwise (·<·)->(b.map (·.id)).Pairwise (·<·)->(∀u,u∈a↔u∈b)->a=b
 |[],[],_,_,_=>rfl
 |[],y::b,_,_,h=>absurd ((h y).2 Fbn) φ
 |x::a,[],_,_,h=>absurd ((h x).1 Fbn) φ
 |x::a,y::b,ha,hb,h=>by
  rw[Fb5,Fc1]at ha hb;have hx:=(h x).1 Fbn;have hy:=(h y).2 Fbn;have e:x=y:=by
   rcases Fa7.1 hx with e|hx
   .exact e
   .rcases Fa7.1 hy with e|hy
    .exact e.symm
    .have h1:=hb.1 _ (Fag.2 ⟨x,hx,rfl⟩);have h2:=ha.1 _ (Fag.2 ⟨y,hy,rfl⟩);omega
  subst e;refine congrArg _ (zf8 ha.2 hb.2 λu=>⟨λhu=>?_,λhu=>?_⟩)
  .rcases Fa7.1 ((h u).1 (Fba _ hu))with e|e
   .have:=ha.1 _ (Fag.2 ⟨u,hu,rfl⟩);rw[e]at this;omega
   .exact e
  .rcases Fa7.1 ((h u).2 (Fba _ hu))with e|e
   .have:=hb.1 _ (Fag.2 ⟨u,hu,rfl⟩);rw[e]at this;omega
   .exact e
def nV(v:Vc):Prop:=(-9223372036854775807<=v.1/\v.1<=9223372036854775807)/\(-9223372036854775807<=v.2/\v.2<=9223372036854775807)
def zdf(a b:Vc):nV (xp a b):=⟨om _ _,om _ _⟩
def Wr{v:Vc}(h:nV v):v.ok:=by unfold nV at h;exact⟨⟨Z,Z⟩,⟨Z,Z⟩⟩
theorem zf3{a:Int}(h:-9223372036854775807<=a/\a<=9223372036854775807):qs a 0=a:=by
 unfold qs;rw[Gi Z,Gi Z];unfold wo;split
 .omega
 .split<;>omega
theorem zjv{v:Vc}(h:nV v):xp v (0,0)=v:=by unfold xp;rw[zf3 h.1,zf3 h.2]
def Bn(u:Unt)(v:Vc)(x:Unt):Vc:=if x.id≠u.id then xp v (vj u.pos (zw u.kind+zw x.kind+16384) x.pos)else v
def zde{x:Unt}{v:Vc}(h:nV v):nV (Bn u v x):=by
 unfold Bn;split
 .exact zdf _ _
 .exact h
def zdd:∀(l:List Unt) {v:Vc},nV v->nV (l.foldl (Bn u) v)
 |[],_,h=>h
 |x::l,_,h=>zdd l (zde h)
theorem ykh{p q:Vc}{r:Int}(h:near p q r=false):vj p r q=(0,0):=by unfold vj;rw[h];simp
theorem bc(u:Unt)(r:Int)(a:∀k,zw u.kind+zw k+16384<=r):∀(l:List Unt) (v:Vc),nV v->
  l.foldl (λv x=>if x.inn=0/\x.id≠u.id then xp v (vj u.pos (zw u.kind+zw x.kind+16384) x.pos)else v) v=(l.filter λx=>decide (x.inn=0)&&near u.pos x.pos r).foldl (Bn u) v
 |[],v,_=>rfl
 |x::l,v,h=>by
  rw[Fc6,Fdm];by_cases b:x.inn=0
  .cases c:near u.pos x.pos r with
   |true=>
    simp only[b,decide_true,Fdr,if_true,Fc6,true_and];exact bc u r a l _ (zde h)
   |false=>
    have d:near u.pos x.pos (zw u.kind+zw x.kind+16384)=false:=by
     cases e:near u.pos x.pos (zw u.kind+zw x.kind+16384)with
     |false=>rfl
     |true=>rw[zc8 (a x.kind) e]at c;cases c
    simp only[b,decide_true,Feg,Fan,if_false,true_and];rw[ykh d,zjv h,ite_self];exact bc u r a l _ h
  .simp only[b,decide_false,Fdz,Fan,if_false,false_and];exact bc u r a l _ h
def yn3(f:yw w.U){a:List Unt}(g:L5 w u.pos (zw u.kind+16384+81920) a)(e:(a.map (·.id)).Pairwise (·<·)):Bz w u=a.foldl (Bn u) (0,0):=by
 unfold Bz;rw[bc u (zw u.kind+16384+81920) (λk=>by have:=(Cg k).2;omega) w.U (0,0) ⟨⟨ψ,ψ⟩,⟨ψ,ψ⟩⟩]
 congr 1
 refine zf8 ?_ e λx=>?_
 .have:(w.U.map (·.id)).Pairwise (·<·):=by
   rw[Fcq];intro i j h d b;rw[Fas]at h d;simp only[Fbj];exact Gf f b d
  exact this.sublist (List.filter_sublist.map _)
 .rw[Fcc,g x,Fay,decide_eq_true_iff];constructor
  .rintro⟨h1,h2,c⟩;exact⟨⟨h1,h2⟩,c⟩
  .rintro⟨⟨h1,h2⟩,c⟩;exact⟨h1,h2,c⟩
def zex{v:Vc}(h:nV v)(k:Nat):nV (vn v k):=by obtain⟨b,a⟩:=h;have d:=zew v.1 k;have c:=zew v.2 k;unfold nV vn;dsimp only;omega
def sf{v:Vc}(h:v.ok):nV (qy v):=by obtain⟨b,a⟩:=h;have d:=Ba b;have c:=Ba a;unfold nV qy;dsimp only;omega
def zkk{v:Vc}(b:vn v k≠(0,0))(a:¬qi w u.id u.kind (xp u.pos (vn v k))):qo w u v (n+1) k=qo w u v n (k+1):=by show(if _ then _ else if _ then _ else _)=_;rw[if_neg b,if_neg a]
def zki{v:Vc}(a:vn v k=(0,0)):qo w u v (n+1) k=Θ:=by show(if _ then _ else if _ then _ else _)=_;rw[if_pos a]
def zkj{v:Vc}(b:vn v k≠(0,0))(a:qi w u.id u.kind (xp u.pos (vn v k))):qo w u v (n+1) k=Δ (k,xp u.pos (vn v k)):=by show(if _ then _ else if _ then _ else _)=_;rw[if_neg b,if_pos a]
def zaf(a:k<5):IntKind.i64.wrap (1*2^(min ((k:Int)).toNat IntKind.i64.bits))=((2^k:Nat):Int):=by have:k=0\/k=1\/k=2\/k=3\/k=4:=Z;rcases this with rfl|rfl|rfl|rfl|rfl<;>decide
end
section
variable {u n t:Nat} {x c:Int}
def Am:Nat->(Nat->Nat)->Nat
 |0,_=>0
 |n+1,f=>Am n f+f n
theorem gb{f g:Nat->Nat}:∀n,(∀t,t<n->f t=g t)->Am n f=Am n g
 |0,_=>rfl
 |n+1,h=>by show Am n f+f n=Am n g+g n;rw[gb n (λt a=>h t Z),h n Z]
def Vm{f g:Nat->Nat}:∀n,(∀t,t<n->f t<=g t)->Am n f<=Am n g
 |0,_=>Fai _
 |n+1,h=>by show Am n f+f n<=Am n g+g n;have:=Vm n (λt a=>h t Z);have:=h n Z;omega
theorem Vn(c:Nat):∀n,Am n (λ_=>c)=n*c
 |0=>by simp[Am]
 |n+1=>by show Am n (λ_=>c)+c=_;rw[Vn c n,Fd0]
def M6{f g:Nat->Nat}:∀n,u<n->(∀t,t<n->t≠u->f t=g t)->Am n f+g u=Am n g+f u
 |0,b,_=>Z
 |n+1,b,h=>by
  show Am n f+f n+g u=Am n g+g n+f u;by_cases e:u=n
  .subst e;rw[gb u (λt d=>h t Z Z)];omega
  .have:=M6 (f:=f) (g:=g) n Z (λt d a=>h t Z a);have:=h n Z (Ne.symm e);omega
def Gc(n:Nat)(d:Nat->Int):Nat:=Am n λt=>if 0<=d t then 1 else 0
def zkt(n:Nat)(d:Nat->Int):Gc n d<=n:=by have:=Vm (f:=λt=>if 0<=d t then 1 else 0) (g:=λ_=>1) n (λt _=>by split<;>omega);rw[Vn]at this;unfold Gc;omega
def zks{d:Nat->Int}(e:u<n)(h:d u<0)(b:0<=x):Gc n (zz d u x)=Gc n d+1:=by have:=M6 (f:=λt=>if 0<=zz d u x t then 1 else 0) (g:=λt=>if 0<=d t then 1 else 0) n e (λt _ a=>by simp only[js a]);simp only[wg,if_pos b,if_neg (show¬0<=d u by omega)]at this;unfold Gc;omega
def zkr{d:Nat->Int}(h:0<=d u)(a:0<=x):Gc n (zz d u x)=Gc n d:=by
 unfold Gc;refine gb n λt _=>?_;by_cases e:t=u
 .subst e;rw[wg,if_pos a,if_pos h]
 .rw[js e]
def Gy(n:Nat)(d:Nat->Int):Prop:=∀t,d t<=84*(Gc n d:Int)-84\/d t<0
def zgs{a:Nat}(h:a<n){d:Nat->Int}(e:∀u,d u=if u=a then 0 else -1):Gy n d:=by
 intro t;have j:1<=Gc n d:=by
  have:=M6 (f:=λt=>if 0<=d t then 1 else 0) (g:=λt=>if t=a then 0 else if 0<=d t then 1 else 0) n h (λt _ b=>by rw[if_neg b]);have i:(if 0<=d a then 1 else 0)=1:=by rw[e,if_pos rfl];rfl
  simp only[if_true,i]at this;unfold Gc;omega
 rw[e];split
 .left;omega
 .right;omega
def ct{d:Nat->Int}(h:Gy n d)(a:u<n)(g:0<=d t)(j:0<c/\c<=84)(i:d u<0\/d t+c<d u):Gy n (zz d u (d t+c)):=by
 have f:=h t;by_cases b:d u<0
 .have e:=zks (n:=n) a b (show 0<=d t+c by omega);intro v;rw[e];by_cases ev:v=u
  .subst ev;rw[wg];omega
  .rw[js ev];have:=h v;omega
 .have e:=zkr (n:=n) (d:=d) (u:=u) Z (show 0<=d t+c by omega);intro v;rw[e];by_cases ev:v=u
  .subst ev;rw[wg];have:=h v;omega
  .rw[js ev];exact h v
def Ou{d:Nat->Int}(h:Gy n d)(t:Nat):d t<=84*(n:Int):=by have:=h t;have:=zkt n d;omega
def Kk(n:Nat)(d:Nat->Int):Nat:=Am n λt=>if 0<=d t then(d t).toNat else 84*n+1
def ym1{d:Nat->Int}(h:Gy n d)(b:u<n)(e:0<=d t)(j:0<c/\c<=84)(i:d u<0\/d t+c<d u):Kk n (zz d u (d t+c))<Kk n d:=by have k:=Ou (ct h b e j i) u;rw[wg]at k;have:=M6 (f:=λv=>if 0<=zz d u (d t+c) v then(zz d u (d t+c) v).toNat else 84*n+1) (g:=λv=>if 0<=d v then(d v).toNat else 84*n+1) n b (λv _ a=>by simp only[js a]);simp only[wg,if_pos (show 0<=d t+c by omega)]at this;unfold Kk;split at this<;>omega
def Gh(n:Nat)(a:Nat->Bool):Nat:=Am n λt=>if a t then 0 else 1
def yk5{a:Nat->Bool}(d:t<n)(h:a t=false):Gh n (zz a t true)+1=Gh n a:=by have:=M6 (f:=λv=>if zz a t true v=true then 0 else 1) (g:=λv=>if a v=true then 0 else 1) n d (λv _ b=>by simp only[js b]);simp only[wg,h,if_true,Fan,if_false]at this;unfold Gh;omega
end
section
variable {i n k:Nat}
def yjv{l:List (Int×Int)}(h:Au l)(x:Int×Int):UpF (qat (l++[x])) (l++[x]).length (Γ l):=by
 have c:Mp (qat (l++[x])) (Γ l):=λj b a=>by rw[zb7 l x j a,zb7 l x (par j) (by have:=D3 b;omega)];exact h j b a
 have:=zjy c;simpa using this
def yjs{l:List (Int×Int)}(h:UpF (qat l) (Γ l) i)(b:0<i)(a:i<Γ l)(c:qlt (qat l i) (qat l (par i))):
  UpF (qat (Al l i (par i))) (Al l i (par i)).length (par i)/\(Al l i (par i)).Perm l:=by
 have d:=D3 b;rw[zb6 a Z,M5];exact⟨zjx h b a c,ud a Z⟩
def zb4{l:List (Int×Int)}(h:UpF (qat l) (Γ l) i)(a:i=0\/¬qlt (qat l i) (qat l (par i))):Au l:=zjz h a
def yju(l:List (Int×Int))(x:Int×Int):(l++[x]).Perm (x::l):=List.perm_append_singleton x l
def yjx{l:List (Int×Int)}(b:Γ l=n+1):l.Perm (qat l 0::(l.set 0 (qat l n)).take n):=by
 obtain⟨a,t,rfl⟩:∃a t,l=a::t:=by
  cases l with
  |nil=>simp at b
  |cons a t=>exact⟨a,t,rfl⟩
 simp only[Fbb,Nat.add_right_cancel_iff]at b;have g:qat (a::t) 0=a:=rfl;rw[g];refine List.Perm.cons a ?_;cases n with
 |zero=>
  have:t=[]:=Fa2 b;subst this;simp
 |succ n=>
  have f:qat (a::t) (n+1)=t[n]'Z:=by rw[Wa χ];rfl
  rw[f];show t.Perm ((t[n]'Z::t).take (n+1));rw[List.take_succ_cons];have e:t=t.take n++[t[n]'Z]:=by
   have c:=Fcb n t;have d:t.drop n=[t[n]'Z]:=by rw[Fcs Z,List.drop_eq_nil_of_le Z]
   rw[d]at c;exact c.symm
  exact(List.Perm.of_eq e).trans (List.perm_append_singleton _ _)
def yjz{l:List (Int×Int)}(d:Γ l=n+1)(h:Au l):Iz (qat ((l.set 0 (qat l n)).take n)) ((l.set 0 (qat l n)).take n).length 0:=by
 have hlen:((l.set 0 (qat l n)).take n).length=n:=χ;rw[hlen];have e:Mp (qat l) (n+1):=by rw[<-d];exact h
 have key:∀j,0<j->j<n->qat ((l.set 0 (qat l n)).take n) j=qat l j:=λj a b=>by unfold qat;simp only[List.getD,Fb2 b];rw[List.getElem?_set_ne Z]
 refine⟨λj a b c=>?_,λj a b c f=>Z⟩;rw[key j a b,key (par j) Z (by have:=D3 a;omega)];exact e j a Z
theorem yjy{l:List (Int×Int)}(h:Au l):∀e∈l,¬qlt e (qat l 0):=λe b=>by obtain⟨j,a,rfl⟩:=Faj b;rw[<-Wa a];exact yod h j a
def yj0{l:List (Int×Int)}(h:Iz (qat l) (Γ l) i)(d:Γ l<=2*i+1):Au l:=
 zgh h λj b c a=>by rcases(Rf b).1 a with e|e<;>omega
def i6{l:List (Int×Int)}(h:Iz (qat l) (Γ l) i)(c:∀j,0<j->j<Γ l->par j=i->¬qlt (qat l j) (qat l k))(a:¬qlt (qat l k) (qat l i)):Au l:=
 zgh h λj e d b=>V8 a (c j e d b)
def i7{l:List (Int×Int)}(h:Iz (qat l) (Γ l) i)(b:0<k)(d:k<Γ l)(c:par k=i)(a:∀j,0<j->j<Γ l->par j=i->¬qlt (qat l j) (qat l k))(e:qlt (qat l k) (qat l i)):
  Iz (qat (Al l i k)) (Al l i k).length k/\(Al l i k).Perm l:=by
 have f:=D3 b;rw[zb6 Z d,M5];exact⟨yro h b d c a e,ud Z d⟩
def pi{f:Nat->Int×Int}(a:k=2*i+1/\(2*i+2<n->¬qlt (f (2*i+2)) (f (2*i+1)))\/k=2*i+2/\qlt (f (2*i+2)) (f (2*i+1))):∀j,0<j->j<n->par j=i->¬qlt (f j) (f k):=by
 intro j h d c;rcases(Rf h).1 c with e|e
 .subst e;rcases a with⟨rfl,_⟩|⟨rfl,b⟩
  .exact i9 _
  .exact V9 b
 .subst e;rcases a with⟨rfl,g⟩|⟨rfl,b⟩
  .exact g d
  .exact i9 _
end
section
variable {F:Store} {p i b cap:Nat}
def itC(x:Int×Int):List AV:=[int x.1,int x.2]
theorem Md(x:Int×Int):(itC x).length=2:=rfl
structure QAt(F:Store)(p b cap:Nat)(l:List (Int×Int))(L:List AV):Prop where
 hp:F.obj p=Δ (.cells [.s (.slice (Δ ⟨b,0,Θ⟩) (Γ l) cap)])
 hb:F.obj b=Δ (.cells ((rws itC l).flatten++L))
 ne:b≠p
 h1:Γ l<=cap
 h2:cap*2<=Γ l*2+Γ L
 h3:cap<=9223372036854775807
def QOf(F:Store)(p:Nat)(l:List (Int×Int)):Prop:=(F.obj p=Δ (.cells [.s (.slice Θ 0 0)])/\l=[])\/∃b cap L,QAt F p b cap l L
theorem QOf.rows{l:List (Int×Int)}(h:QOf F p l):∃v,F.obj p=Δ (.cells [v])/\RowsO 2 itC F v l/\∀b a,v=.s (.slice (Δ ⟨b,0,Θ⟩) (Γ l) a)->b≠p:=by
 rcases h with⟨h,rfl⟩|⟨b,cap,L,h⟩
 .exact⟨_,h,.inl ⟨rfl,rfl⟩,λb a e=>by simp at e⟩
 .refine⟨_,h.hp,.inr ⟨b,cap,L,rfl,h.hb,h.h1,h.h2,h.h3⟩,λc a e=>?_⟩;simp only[AV.s.injEq,Value.slice.injEq,Fak,Addr.mk.injEq]at e;exact e.1.1▸h.ne
theorem QOf.pos{l:List (Int×Int)}(h:QOf F p l)(a:0<Γ l):∃b cap L,QAt F p b cap l L:=by
 rcases h with⟨h,rfl⟩|h
 .exact absurd a (Fdo 0)
 .exact h
theorem ync{l:List (Int×Int)}(a:i<Γ l)(x:Int×Int)(L:List AV):zu ((rws itC l).flatten++L) (0+i*2) (itC x)=(rws itC (l.set i x)).flatten++L:=by have:=Lm (f:=itC) (k:=2) Md a (j:=0) (x':=x) (ys:=itC x) (L:=L) (by show 0+2<=2;omega) (by unfold zu;rw[Md];rfl);rw[Nat.add_zero]at this;rw[Fbd];exact this
def Aq{l:List (Int×Int)}{L:List AV}(a:i<Γ l):List.drop (0+i*2) ((rws itC l).flatten++L)=itC (qat l i)++((rws itC (l.drop (i+1))).flatten++L):=by
 have c:(rws itC (l.take i)).flatten.length=i*2:=by rw[qu Md,Fah,Fd8 Z]
 rw[Fbd,Po a,Faq,<-c,List.drop_left,Faq,Wa a]
def Ih{l:List (Int×Int)}{L:List AV}(a:i<Γ l)(x:Int×Int):0+i*2+(itC x).length<=((rws itC l).flatten++L).length:=by rw[Fad,qu Md,Md];omega
def QAt.set{l:List (Int×Int)}{L:List AV}(h:QAt F p b cap l L)(a:i<Γ l)(x:Int×Int):QAt (F.sO b (.cells (zu ((rws itC l).flatten++L) (0+i*2) (itC x)))) p b cap (l.set i x) L:=by rw[ync a];exact⟨by rw[zi (Ne.symm h.ne),Faf];exact h.hp,zd _ _ _,h.ne,by rw[Faf];exact h.h1,by rw[Faf];exact h.h2,h.h3⟩
theorem QAt.cut{l:List (Int×Int)}{L:List AV}(h:QAt F p b cap l L){n:Nat}(c:n<=Γ l):QAt (F.sO p (.cells [.s (.slice (Δ ⟨b,0,Θ⟩) n cap)])) p b cap (l.take n) ((rws itC (l.drop n)).flatten++L):=by
 have e:(rws itC (l.take n)).flatten++((rws itC (l.drop n)).flatten++L)=(rws itC l).flatten++L:=by rw[<-Faq,<-H7,Fcb]
 have a:(l.take n).length=n:=θd;refine⟨by rw[zd,a],by rw[zi h.ne,e];exact h.hb,h.ne,by rw[a];have:=h.h1;omega,?_,h.h3⟩;have:=h.h2;rw[a,Fad,qu Md,Fc8];omega
end
section
variable {i:Nat}
def ww(v:Int)(k:Nat)(t:Nat):Int:=if t<k then v else 0
def yii{n k m:Nat}{v:Int}(f:m<=k)(d:k+m<=n):zu (il n (ww v k)) (0+k*1) ((List.drop (0+0*1) (il n (ww v k))).take (m*1))=il n (ww v (k+m)):=by
 have e:(List.drop (0+0*1) (il n (ww v k))).take (m*1)=List.replicate m (int v):=by
  rw[show 0+0*1=0 from rfl,Fcr,Fem];apply Fcz
  .rw[Fah,xi,Fbh];omega
  .intro i b a;rw[Fbh]at a;rw[Fdt,List.getElem_replicate];simp only[il,Fbj,List.getElem_range];rw[ww,if_pos Z]
 rw[e];unfold zu;rw[Fbh,show 0+k*1=k by omega];apply Fcd;intro i;by_cases b:i<k
 .rw[Faq,Far (by rw[Fah,xi];omega),Fb2 b,Gp Z,Gp Z,ww,ww,if_pos b,if_pos Z]
 .by_cases a:i<k+m
  .rw[Faq,Fa0 (by rw[Fah,xi];omega),Fah,xi,Far (by rw[Fbh];omega),Fbv,if_pos Z,Gp Z,ww,if_pos a]
  .rw[Fa0 (by rw[Fad,Fah,xi,Fbh];omega),Fad,Fah,xi,Fbh,Fct,show k+m+(i-(min k n+m))=i by omega];by_cases c:i<n
   .rw[Gp c,Gp c,ww,ww,if_neg b,if_neg a]
   .rw[Fb4 θa,Fb4 θa]
theorem zen(n:Nat)(v:Int):il n (ww v n)=il n λ_=>v:=Ik λt a=>if_pos a
def Oz(g:Gnd)(t:Nat):AV:=.agg (il 8 (yi g t))
def G5(g:Gnd)(t i:Nat)(j:Nat):Int:=if j<i then yi g t j else 0
def yuc(g:Gnd)(t:Nat):il 8 (G5 g t 8)=il 8 (yi g t):=Ik λj a=>if_pos a
def yud(g:Gnd)(t:Nat)(a:i<8):yi g t i=w9 g ((t:Int)%g.W) ((t:Int)/g.W) (dirL.getD i (0,0)):=by unfold yi j4;rw[Fbo,Fau,Fbo,Fac (show i<Γ dirL from a)];rfl
def yub(g:Gnd)(t:Nat)(v:Int)(b:v=yi g t i):setI (G5 g t i) i v=G5 g t (i+1):=funext λj=>by
 unfold setI G5;by_cases h:j=i
 .subst h;rw[if_pos rfl,if_pos Z,b]
 .rw[if_neg h];by_cases a:j<i
  .rw[if_pos a,if_pos Z]
  .rw[if_neg a,if_neg Z]
def dirC:List AV:=(dirL.map Lb).flatten
def ysa(a:i<8):dirC.drop (i*2)=Lb (dirL.getD i (0,0))++dirC.drop (i*2+2):=by have h:i=0\/i=1\/i=2\/i=3\/i=4\/i=5\/i=6\/i=7:=Z;rcases h with rfl|rfl|rfl|rfl|rfl|rfl|rfl|rfl<;>rfl
def yr9(a:i<8):(-1<=(dirL.getD i (0,0)).1/\(dirL.getD i (0,0)).1<=1)/\-1<=(dirL.getD i (0,0)).2/\(dirL.getD i (0,0)).2<=1:=by have h:i=0\/i=1\/i=2\/i=3\/i=4\/i=5\/i=6\/i=7:=Z;rcases h with rfl|rfl|rfl|rfl|rfl|rfl|rfl|rfl<;>decide
end
def C9(g:Gnd)(ok:Nat->Bool)(c:Int)(t i:Nat):Nat->Nat->Int->Prop:=λa u k=>a=t/\∃w,i<=w/\w<8/\yi g t w=(u:Int)/\k=qk g ok c t w
def ow{E:Nat->Nat->Int->Prop}{n goal:Nat}{d:Nat->Int}{dn:Nat->Bool}{q f:List (Int×Int)}{cur:Int}{a:Nat->Nat->Int->Prop}(h:DJ E n goal d dn q cur a)(i:q.Perm f):DJ E n goal d dn f cur a:=
 ⟨h.lab,h.gl,h.pre,h.rel,h.mono,λe l=>h.ent e (i.mem_iff.2 l),λu j k=>i.mem_iff.1 (h.wait u j k)⟩
section
variable {g:Gnd} {ok:Nat->Bool} {c:Int} {n goal:Nat} {d:Nat->Int} {dn:Nat->Bool} {q:List (Int×Int)} {cur:Int}
def zjm{t:Nat}(h:DJ (jo g ok c) n goal d dn q cur (λa _ _=>a=t)):DJ (jo g ok c) n goal d dn q cur (C9 g ok c t 0):=
 oz h λa u k ha hn hE=>ψ4
def zjn{t:Nat}(h:DJ (jo g ok c) n goal d dn q cur (C9 g ok c t 8)):DJ (jo g ok c) n goal d dn q cur Fq:=
 oz h λa u k e f i=>by obtain⟨_,w,l,j,_⟩:=e;omega
def eo{t i:Nat}(h:DJ (jo g ok c) n goal d dn q cur (C9 g ok c t i))(j:∀u:Nat,yi g t i=u->0<qk g ok c t i->0<=d u/\d u<=d t+qk g ok c t i):DJ (jo g ok c) n goal d dn q cur (C9 g ok c t (i+1)):=
 oz h λa u k o l p=>by
  obtain⟨rfl,w,y,v,e,rfl⟩:=o;by_cases f:w=i
  .subst f;exact j u e (Oo _ _ _ p)
  .exact absurd ⟨rfl,w,Z,v,e,rfl⟩ l
def yrx{a:Nat->Nat->Int->Prop}(h:DJ (jo g ok c) n goal d dn q cur a)(f:ok goal=true){u:Nat}(i:0<=d u):ok u=true:=by
 by_cases e:u=goal
 .rw[e];exact f
 .obtain⟨t,k,_,_,j,_⟩:=h.pre u e i;obtain⟨_,_,_,_,_,l,_⟩:=j;exact l
end
def mz:Option (Int×Int)->Int
 |none=>0
 |some x=>x.1
def Sy:Option (Int×Int)->Int
 |none=>0
 |some x=>x.2
def xm(S:Store)(b b2 n:Nat)(d:Nat->Int)(dn:Nat->Bool):Store:=(S.sO b (.cells (il n d))).sO b2 (.cells (bl n dn))
section
variable {S:Store} {b b2 n:Nat}
def zfl(a:b≠b2)(d:Nat->Int)(dn:Nat->Bool):(xm S b b2 n d dn).obj b=Δ (.cells (il n d)):=by unfold xm;rw[zi a,zd]
def yqd(d:Nat->Int)(dn:Nat->Bool):(xm S b b2 n d dn).obj b2=Δ (.cells (bl n dn)):=zd _ _ _
def yqc{i:Nat}{x:AObj}(j:Fresh S b)(a:Fresh (S.sO b x) b2){y:AObj}(h:S.obj i=Δ y)(d:Nat->Int)(dn:Nat->Bool):(xm S b b2 n d dn).obj i=Δ y:=by
 have f:i≠b:=λe=>by rw[e,j.1]at h;cases h
 have k:i≠b2:=λe=>by have:=a.1;rw[<-e,zi f,h]at this;cases this
 unfold xm;rw[zi k,zi f];exact h
theorem zfk(e:b≠b2)(d a:Nat->Int)(dn:Nat->Bool):(xm S b b2 n d dn).sO b (.cells (il n a))=xm S b b2 n a dn:=by unfold xm;rw[Fj e,ym]
def yqb(d:Nat->Int)(dn a:Nat->Bool):(xm S b b2 n d dn).sO b2 (.cells (bl n a))=xm S b b2 n d a:=ym _ _ _ _
def fld_has{d:Nat->Int}{dn:Nat->Bool}{i:Nat}:(xm S b b2 n d dn).has i↔i=b2\/i=b\/S.has i:=by unfold xm;rw[has_setObj_iff,has_setObj_iff]
def yqe{F:Store}{d d':Nat->Int}{dn dn':Nat->Bool}(h:zl F (xm S b b2 n d dn)):zl F (xm S b b2 n d' dn'):=λi e a=>h i e (fld_has.2 (fld_has.1 a))
def yqf(j:Fresh S b){x:AObj}(e:Fresh (S.sO b x) b2){F:Store}(h:b≠b2){d:Nat->Int}{dn:Nat->Bool}:(F.un (xm S b b2 n d dn)).Has (S.sO b (.cells (il n d))):=by
 have f:(S.sO b (.cells (il n d))).obj b2=Θ:=by have:=e.1;rw[zi (Ne.symm h)]at this⊢;exact this
 exact⟨λi y a=>zh ((Cw f).obj i y a),λi y a=>H2 a⟩
end
theorem Ii(n:Nat)(d:Nat->Int)(u:Nat)(v:Int)(a:u<n):zu (il n d) (0+u*1) [int v]=il n (zz d u v):=by rw[show 0+u*1=u by omega,Ij a];rfl
theorem pw(n:Nat)(d:Nat->Bool)(u:Nat)(v:Bool)(a:u<n):zu (bl n d) (0+u*1) [bool v]=bl n (zz d u v):=by rw[show 0+u*1=u by omega];have:=G4 (f:=d) a (zz d u v) (λs e=>js e);rw[wg]at this;exact this
def ba{n:Nat}{f:Nat->Int}{t:Nat}(h:t<n):((il n f).drop (t*1)).head?=Δ (int (f t)):=by
 have:=vk (f:=f) h
 rwa [Fbd]at this
def yk6(n:Nat)(dn:Nat->Bool):Gh n dn<=n:=by have:=Vm (f:=λt=>if dn t=true then 0 else 1) (g:=λ_=>1) n (λt _=>by split<;>omega);rw[Vn]at this;unfold Gh;omega
def Ad(g:Gnd)(ok:Nat->Bool)(c:Int)(d:Nat->Int)(t w:Nat):Prop:=0<qk g ok c t w/\0<=d (yi g t w).toNat/\qk g ok c t w+d (yi g t w).toNat=d t
theorem yqq{p:Nat->Bool}{n j:Nat}(h:j<n)(e:p j=true)(f:∀w,w<j->p w=false):(List.range n).find? p=Δ j:=by rw[List.find?_range_eq_some];exact⟨e,Fbe.2 h,λw a=>by rw[f w a];rfl⟩
theorem yqp{p:Nat->Bool}{n:Nat}(e:∀w,w<n->p w=false):(List.range n).find? p=Θ:=by rw[List.find?_eq_none];intro w a;rw[e w (Fbe.1 a)];decide
section
variable {g:Gnd} {ok:Nat->Bool} {c:Int} {d:Nat->Int} {t:Nat}
theorem rv(h:d t<=0):xe g ok c d t=-1:=by unfold xe;rw[if_pos h]
theorem rt(h:¬d t<=0){j:Nat}(i:j<8)(e:Ad g ok c d t j)(f:∀w,w<j->¬Ad g ok c d t w):xe g ok c d t=(j:Int):=by unfold xe;rw[if_neg h,yqq i (by exact decide_eq_true e) (λw a=>by exact decide_eq_false (f w a))]
theorem ru(h:¬d t<=0)(e:∀w,w<8->¬Ad g ok c d t w):xe g ok c d t=-1:=by unfold xe;rw[if_neg h,yqp (λw a=>by exact decide_eq_false (e w a))]
end
def zjo(g:Gnd)(ok:Nat->Bool)(c:Int)(d:Nat->Int)(t:Nat):xe g ok c d t=-1\/∃j:Nat,j<8/\xe g ok c d t=(j:Int)/\Ad g ok c d t j:=by
 unfold xe;split
 .exact .inl rfl
 .cases h:(List.range 8).find? λa=>decide (0<qk g ok c t a/\0<=d (yi g t a).toNat/\qk g ok c t a+d (yi g t a).toNat=d t)with
  |none=>exact .inl rfl
  |some j=>
   have f:=Fee h;have e:=List.find?_some h;exact .inr ⟨j,Fbe.1 f,rfl,by simp only[decide_eq_true_eq]at e;exact e⟩
noncomputable def Cb(g:Gnd)(ok:Nat->Bool)(c:Int)(d:Nat->Int)(i t:Nat):Int:=if t<i then xe g ok c d t else -1
theorem rq{g:Gnd}{ok:Nat->Bool}{c:Int}{d:Nat->Int}{i:Nat}:Cb g ok c d (i+1)=zz (Cb g ok c d i) i (xe g ok c d i):=funext λt=>by
 unfold Cb zz;dsimp only;by_cases h:t=i
 .subst h;rw[if_pos Z,if_pos rfl]
 .rw[if_neg h];by_cases a:t<i
  .rw[if_pos a,if_pos Z]
  .rw[if_neg a,if_neg Z]
def rp{g:Gnd}{ok:Nat->Bool}{c:Int}{d:Nat->Int}{i:Nat}(h:xe g ok c d i=-1):Cb g ok c d (i+1)=Cb g ok c d i:=by
 rw[rq,h]
 funext t
 unfold zz Cb;by_cases h:t=i
 .subst h;rw[if_pos rfl,if_neg Z]
 .rw[if_neg h]
theorem zji(g:Gnd)(ok:Nat->Bool)(c:Int)(d:Nat->Int):Cb g ok c d 0=λ_=>-1:=funext λt=>if_neg (Fav t)
theorem zjj(g:Gnd)(ok:Nat->Bool)(c:Int)(d:Nat->Int)(n:Nat):il n (Cb g ok c d n)=il n (xe g ok c d):=Ik λt a=>if_pos a
def Ai(S:Store)(b b2 n:Nat)(d f:Nat->Int):Store:=(S.sO b (.cells (il n d))).sO b2 (.cells (il n f))
section
variable {S:Store} {b b2 n:Nat}
def zkd(a:b≠b2)(d f:Nat->Int):(Ai S b b2 n d f).obj b=Δ (.cells (il n d)):=by unfold Ai;rw[zi a,zd]
def zkc(d f:Nat->Int):(Ai S b b2 n d f).obj b2=Δ (.cells (il n f)):=zd _ _ _
def zka{i:Nat}{x:AObj}(k:Fresh S b)(a:Fresh (S.sO b x) b2){y:AObj}(h:S.obj i=Δ y)(d f:Nat->Int):(Ai S b b2 n d f).obj i=Δ y:=by
 have j:i≠b:=λe=>by rw[e,k.1]at h;cases h
 have l:i≠b2:=λe=>by have:=a.1;rw[<-e,zi j,h]at this;cases this
 unfold Ai;rw[zi l,zi j];exact h
def zj9(d f a:Nat->Int):(Ai S b b2 n d f).sO b2 (.cells (il n a))=Ai S b b2 n d a:=ym _ _ _ _
def zkb{x:AObj}(e:b≠b2)(a:Fresh (S.sO b x) b2):Fresh S b2:=by have:=a;unfold Fresh at this⊢;rw[zi (Ne.symm e)]at this;exact this
def zke(e:Fresh S b)(a:b≠b2)(d f:Nat->Int):(Ai S b b2 n d f).Has (S.sO b2 (.cells (il n f))):=by unfold Ai;rw[Fj (Ne.symm a)];refine Cw ?_;rw[zi a];exact e.1
end
theorem yls(g:Gnd)(t:Nat):j4 g t=(List.range 8).map (yi g t):=by
 apply Fcz
 .rw[L6,Fas,Fds]
 .intro i a b;rw[L6]at a;simp only[Fbj,List.getElem_range];unfold yi;rw[Fbo,Fac (by rw[L6];exact a)];rfl
theorem ylu(g:Gnd)(t:Nat)(x:Int):(j4 g t).contains x=(List.range 8).any λj=>yi g t j==x:=by
 rw[yls,List.contains_eq_any_beq,List.any_map]
 congr 1
 funext j
 show(x==yi g t j)=_;rw[Fbm,beq_iff_eq,beq_iff_eq];exact eq_comm
theorem yu3{p:Nat->Bool}{n k:Nat}(b:k<n)(a:p k=true):(List.range n).any p=true:=Feo.2 ⟨k,Fbe.2 b,a⟩
theorem yu2{p:Nat->Bool}{n:Nat}(a:∀k,k<n->p k=false):(List.range n).any p=false:=by rw[Fdi];intro k b;rw[a k (Fbe.1 b)];decide
end Go.V
