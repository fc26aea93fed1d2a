/- Ground of laws of thronglaw30: contracts and plain lemmas; no condition beyond the row's own. -/
import Derived.Test.YtkahacegdhllcaaGreatKO
set_option linter.unusedSimpArgs false
set_option linter.unusedVariables false
set_option linter.defProp false
namespace Go.V
def ACalls.frozenLe{P:Program}{f:FuncId}{xs:List AV}{st0:Store}{Q:Ja}{R:Ja}(h:ACalls P f xs st0 Q)
  (hQ:∀r S,Q r S->∃r2 S2,R r2 S2/\(∀b x,S2.obj b=some x->S.obj b≠none)/\(∀b x,S2.tok b≠some x)∧
   ∀(Oth M:BB) (w:World),StoreOK S Oth M w->(∀b x,S2.obj b=some x->ObjRel w (λb o=>(M b o\/Oth b o)/\(S.obj b=none\/S2.obj b≠none)) x b)∧
    ∀v,VRel w (λb o=>M b o\/Oth b o) r v->VRel w (λb o=>(M b o\/Oth b o)/\(S.obj b=none\/S2.obj b≠none)) r2 v):
  ACalls P f xs st0 R:=by
 refine⟨λOth M w vs sto hr=>?_⟩;have h1:=h.out Oth M w vs sto hr;have key:∀v w',xf st0 Q Oth M w v w'->xf st0 R Oth M w v w':=by
  rintro v w' ⟨r,S,M',hq,hv,hs,hc⟩;obtain⟨r2,S2,hr2,hsub,htok,hk⟩:=hQ r S hq;obtain⟨hk1,hk2⟩:=hk Oth M' w' hs;have hT:∀b o,((M' b o/\(S.obj b=none\/S2.obj b≠none))\/Oth b o)->((M' b o\/Oth b o)/\(S.obj b=none\/S2.obj b≠none)):=λb o h=>by
   rcases h with⟨h1,h2⟩|h1
   ·exact⟨.inl h1,h2⟩
   ·refine⟨.inr h1,?_⟩;cases hb:S.obj b with
    |none=>exact .inl rfl
    |some y=>exact absurd ((hs.obj b y hb).2 o) (hs.dis b o h1)
  refine⟨r2,S2,λb o=>M' b o/\(S.obj b=none\/S2.obj b≠none),hr2,(hk2 v hv).mono hT,?_,?_⟩
  ·refine{obj:=λb x hx=>⟨(hk1 b x hx).mono hT,λo=>⟨?_,.inr (by rw[hx];simp)⟩⟩,tok:=λb x hx=>absurd hx (htok b x),mlt:=λb o hm=>hs.mlt b o hm.1,olt:=hs.olt,dis:=λb o ho hm=>hs.dis b o ho hm.1};cases hb:S.obj b with
   |none=>grind
   |some y=>exact(hs.obj b y hb).2 o
  ·exact{size:=hc.size,keep:=hc.keep,blk:=hc.blk,shp:=hc.shp,sub:=λb o hm hb=>hc.sub b o hm.1 hb,tape:=hc.tape,os:=hc.os,output:=hc.output}
 generalize(callFunc f vs).run P w=res at h1;cases res with
 |ok n w'=>
  cases n with
  |enter g args=>exact Calls.mono h1 λe w'' ⟨v,he,hv⟩=>⟨v,he,key _ _ hv⟩
  |value v=>exact key _ _ h1
  |_=>exact h1
 |_=>exact h1
def zw6{st:Store}{p b:Nat}{x y:AObj}(h:(st.sO p x).obj b=some y):(b=p/\y=x)\/(b≠p/\st.obj b=some y):=by
 by_cases e:b=p
 ·simp_all[zd]
 grind[zg]
def VRel.tup2{w:World}{T T':BB}{a b a' b':AV}{v:Value}(h:VRel w T (.tup [a,b]) v)(ha:∀x,VRel w T a x->VRel w T' a' x)(hb:∀x,VRel w T b x->VRel w T' b' x):VRel w T' (.tup [a',b']) v:=by
 cases h with
 |tup _ c hl hc=>
  refine .tup _ c hl λi x y hx hy=>?_;grind
def ynh{W:World}{T T':BB}{l l' r:List AV}{b:Nat}(hl:l.length=l'.length)(h:∀x,VRel W T (.agg l) x->VRel W T' (.agg l') x)(hr:∀y∈r,flat y)(hc:CellsRel W T (l++r) b):CellsRel W T' (l'++r) b:=by
 obtain⟨c,e,fr,h1,h2,h3,h4⟩:=hc;rw[Fab]at h3;have hx:=h (.agg (c.extract 0 l.length)) (.agg _ _ χ λi x y hx hy=>by
  have hi:=(Faw.1 hx).1;refine h4 i x y (by rw[Fa3 hi];exact hx) ?_;rw[Array.getElem?_extract]at hy;split at hy
  ·simpa using hy
  ·cases hy)
 cases hx with
 |agg _ _ hl2 hc2=>
  refine⟨c,e,fr,h1,h2,by rw[Fab];omega,λi x y hx hy=>?_⟩;by_cases hi:i<l'.length
  ·rw[Fa3 hi]at hx;refine hc2 i x y hx ?_;rw[Array.getElem?_extract,if_pos θ];simpa using hy
  ·rw[Fa6 θ]at hx;refine hr x (Fa5 hx) _ _ _ _ _ (h4 i x y ?_ hy);rw[Fa6 θ,hl];exact hx
theorem RowsQ.has{α:Type}{k:Nat}{f:α->List AV}{S:Store}{v:AV}{l:List α}(h:RowsQ k f S v l){b n c:Nat}(hv:v=.s (.slice (some ⟨b,0,none⟩) n c))(hc:0<c):S.has b:=by
 rcases h with(⟨rfl,_⟩|⟨b',cap,L,rfl,ho,_⟩)|⟨a,_,rfl,_⟩
 ·cases hv
 ·cases hv;exact jz ho
 ·cases hv;omega
def Store.objs0(S:Store):Store:=⟨S.obj,λ_=>none⟩
def ACalls.frozenEng{P:Program}{f:FuncId}{xs:List AV}{st0:Store}{Q:Ja}{R:Ja}(h:ACalls P f xs st0 Q)
  (hQ:∀r S,Q r S->(∃S2:Store,R r S2/\(∀b x,S2.obj b=some x->S.obj b=some x)/\∀b,S2.tok b=none)\/∃r2 X N eb raw plain p,zi X N/\¬X.has eb/\¬N.has eb/\S=(X.un N).sO eb (.cells (raw++[.s p]))/\raw.length=plain.length/\R r2 (N.objs0.sO eb (.cells (plain++[.s p])))∧
   ∀(Oth M:BB) (W:World),StoreOK X Oth M W->(∀x,VRel W (λb o=>M b o\/Oth b o) (.agg raw) x->VRel W (λb o=>(M b o\/Oth b o)/\X.obj b=none) (.agg plain) x)∧
    ∀x,VRel W (λb o=>M b o\/Oth b o) r x->VRel W (λb o=>(M b o\/Oth b o)/\X.obj b=none) r2 x):ACalls P f xs st0 R:=by
 refine h.frozenLe ?_;intro r S hq;rcases hQ r S hq with⟨S2,hR,h2,h3⟩|⟨r2,X,N,eb,raw,plain,p,hd,hx,hn,rfl,hl,hR,hb⟩
 ·exact⟨r,S2,hR,λb x hx=>(by rw[h2 b x hx];simp),λb x hx=>(by rw[h3 b]at hx;cases hx),λOth M w sto=>⟨λb x hx=>(sto.obj b x (h2 b x hx)).1.mono λb o h=>h.1,λv hv=>hv.mono λb o h=>h.1⟩⟩
 have hS2:∀b x,(N.objs0.sO eb (.cells (plain++[.s p]))).obj b=some x->(b=eb/\x=.cells (plain++[.s p]))\/(b≠eb/\N.obj b=some x):=λb x hx=>zw6 hx;refine⟨r2,_,hR,λb x hx=>?_,λb x hx=>γ,λOth M w sto=>?_⟩
 ·rcases hS2 b x hx with⟨rfl,rfl⟩|⟨h1,h2⟩
  ·rw[zd];simp
  ·rw[zg h1,zf h2];simp
 have sX:StoreOK X Oth M w:=sto.weaken ⟨λb y hy=>by have e:b≠eb:=λe=>hx (by rw[<-e];exact jz hy);rw[zg e];exact yf hd hy,λb y hy=>I9 hd hy⟩;obtain⟨k1,k2⟩:=hb Oth M w sX;have hT:∀b o,((M b o\/Oth b o)/\(((X.un N).sO eb (.cells (raw++[.s p]))).obj b=none\/(N.objs0.sO eb (.cells (plain++[.s p]))).obj b≠none))->(M b o\/Oth b o)/\X.obj b=none:=λb o ⟨h1,h2⟩=>by
  refine⟨h1,?_⟩;by_cases e:b=eb
  ·subst e;exact(ke hx).1
  ·rw[zg e,zg e]at h2;cases hxb:X.obj b with
   |none=>rfl
   |some y=>
    rcases h2 with h2|h2
    ·rw[yf hd hxb]at h2;cases h2
    ·exact absurd (ke (hd b (jz hxb))).1 h2
 refine⟨λb x hx2=>?_,λv hv=>(k2 v hv).mono hT⟩;rcases hS2 b x hx2 with⟨rfl,rfl⟩|⟨h1,h2⟩
 ·have ho:=(sto.obj b _ (zd _ _ _)).1;have:=ynh hl k1 (λy hy=>by rw[Fbo.1 hy];exact zec p) ho;exact ObjRel.mono hT (show ObjRel w (λb o=>(M b o\/Oth b o)/\X.obj b=none) (.cells (plain++[.s p])) b from this)
 ·exact(sto.obj b x (by rw[zg h1];exact zf h2)).1.mono λb o h=>h.1
section
variable {P:Program} {c:Cfg} {w:World} {st:Store} {Oth M:BB}
def ypb{o:Oper}{t:TypeId}{x:Operand}(ho:o.op=.makeInterface t x){d:TypeDesc}(hd:yz P c.I->P.underlying t=some d)(hn:∀m,d≠.interface m){y:AV}{u:Value}
    (hy:∀(w:World) (T:BB) (v:Value),VRel w T y v->v=u) {R:Ja} (h:R (.s (.iface t u)) st):AEff P c o [y] st R:=by
  refine⟨λOth M w ρ hI sto hr=>?_⟩;rw[ho]at hr;have hr:Reads w (λb o=>M b o\/Oth b o) [y] [ρ x]:=θt;obtain⟨v,he,h1⟩:=Ii hr;simp only[Fce,and_true]at he;rw[<-he]at h1;have h1:=hy _ _ _ h1;have hund:=yj (P:=P) (hd hI);have hrun:(execOp ρ o).run P w=.ok (.value (.iface t u)) w:=by simp only[execOp,ho,Instr.makeInterface,Sem.run_bind,hund,Result.andThen_ok,h1];cases d<;>simp at hn⊢
  rw[hrun];exact⟨_,_,_,h,.s _,sto,Chg.refl M w⟩
def ypa{o:Oper}{t:TypeId}{x:Operand}(ho:o.op=.makeInterface t x){it:TI}{e:TypeId}(hit:c.I t=some it)(hty:it.ty=.ptr e){u:Value}{R:Ja}(h:R (.s (.iface t u)) st):AEff P c o [.s u] st R:=
  ypb ho (λhI=>R3 (hI _ _ hit) hty) (λm h=>ω) (λw T v hv=>VRel.eq_s hv) h
end
section
variable {P:Program} {v:Value} {x:AV}
theorem ybk{t:TypeId}{inf:TypeInfo}(h:P.info? t=some inf)(w:World):(typeInfo t).run P w=.ok inf w:=by simp[typeInfo,run_program,h]
theorem Meets.ptr{t:TypeId}{m:String}{g:FuncId}{inf:TypeInfo}{row:Method}{e:TypeId}(hi:P.info? t=some inf)(hf:inf.methods.find? (·.name==m)=some row)(hp:row.path=#[])
    (hr:row.func=some (g,true)) (hu:P.underlying t=some (.pointer e)) (hx:∀w T,VRel w T x v):Meets P t v m g x:=by
  refine⟨v,λw=>?_,hx⟩;have hdep:P.types.size+Made.depth=(P.types.size+99)+1:=rfl;rw[hdep];generalize P.types.size+99=n;have e:row.path.toList=[]:=by rw[hp]
  unfold method;rw[Sem.run_bind,ybk hi,Result.andThen_ok,hf];dsimp only;rw[e];unfold follow;rw[Sem.run_bind,Sem.run_pure,Result.andThen_ok];dsimp only;rw[hr];dsimp only;unfold receiverAt;simp[yj hu,Place.get]
def Pa(P:Program)(t:TypeId)(m:String)(g:FuncId)(ptr:Bool):Bool:=
  match P.info? t,P.underlying t with
  | some inf,some d=>(match inf.methods.find? (·.name==m)with
    |some row=>row.path.isEmpty&&(match row.func with|some (f,b)=>Nat.beq f g&&(b==ptr)|none=>false)
    |none=>false)&&(match d with|.pointer _=>ptr|_=> !ptr)
  |_,_=>false
def yf0{t:TypeId}{m:String}{g:FuncId}{ptr:Bool}(h:Pa P t m g ptr=true):∃inf row d,P.info? t=some inf/\inf.methods.find? (·.name==m)=some row/\row.path=#[]/\row.func=some (g,ptr)/\P.underlying t=some d/\(match d with|.pointer _=>ptr|_=> !ptr)=true:=by
  unfold Pa at h;split at h
  · rename_i inf d h1 h2
    rw[Fa7]at h;obtain⟨h3,h4⟩:=h;split at h3
    · rename_i row h5
      rw[Fa7]at h3;obtain⟨h6,h7⟩:=h3;split at h7
      · rename_i f b h8
        rw[Fa7]at h7;obtain⟨h9,h10⟩:=h7;have e1:f=g:=Nat.eq_of_beq_eq_true h9;have e2:b=ptr:=eq_of_beq h10;subst e1 e2;exact⟨inf,row,d,h1,h5,Array.isEmpty_iff.1 h6,h8,h2,h4⟩
      · cases h7
    · cases h3
  · cases h
def Meets.ptrB{t:TypeId}{m:String}{g:FuncId}(h:Pa P t m g true=true)(hx:∀w T,VRel w T x v):Meets P t v m g x:=by
  obtain⟨inf,row,d,h1,h2,h3,h4,h5,h6⟩:=yf0 h;cases d with
  |pointer e=>exact Meets.ptr h1 h2 h3 h4 h5 hx
  |_=>cases h6
end
def Ba(v:Vc):Prop:=(-1099511627776<=v.1/\v.1<=1099511627776)/\(-1099511627776<=v.2/\v.2<=1099511627776)
def Ke{v:Vc}(h:Ba v):Ao v:=by unfold Ba at h;unfold Ao;omega
def zjv{v:Vc}(h:Ba v):v.ok:=by unfold Ba at h;exact⟨⟨θ,θ⟩,⟨θ,θ⟩⟩
def Rv{p q:Vc}(hp:xy p)(hq:xy q):Ba (xq q p):=by rw[(cw hp hq).1];unfold xy at hp hq;unfold Ba;dsimp only;omega
def yie{w:Wld}{u:Unt}(hu:xy u.pos)(h:∀x∈w.U,x.inn=0->xy x.pos)(hl:w.U.length<=4096):Ba (Iq w u):=by
 have key:∀(l:List Unt) (v:Vc) (B:Nat),(∀x∈l,x.inn=0->xy x.pos)->B+l.length<=4096->(v.1.natAbs<=B*16777216/\v.2.natAbs<=B*16777216)->
   Ba (l.foldl (λv x=>if x.inn=0/\x.id≠u.id then j3 v (Ar u.pos (zz u.kind+zz x.kind+16384) x.pos)else v) v):=by
  intro l;induction l with
  |nil=>
   intro v B _ hB hv;unfold Ba;simp only[Fdi]at hB;simp only[List.foldl_nil];omega
  |cons x l ih=>
   intro v B hx hB hv;simp only[Fbg]at hB;rw[Fct];refine ih _ (B+1) (λy hy=>hx y (Fau _ hy)) θ ?_;split
   ·rename_i hc;have r1:=Oz u.kind;have r2:=Oz x.kind;have:=ga hu (hx x Fa1 hc.1) (r:=zz u.kind+zz x.kind+16384) θ;generalize Ar u.pos (zz u.kind+zz x.kind+16384) x.pos=z at*;have e:j3 v z=(v.1+z.1,v.2+z.2):=by
     unfold j3;rw[Px θ θ,Px θ θ]
    rw[e];dsimp only;omega
   ·exact⟨Fb6 hv.1 (Fa4 _ (Fd1 B)),Fb6 hv.2 (Fa4 _ (Fd1 B))⟩
 unfold Iq;refine key w.U (0,0) 0 h θ ⟨?_,?_⟩
 ·show(0:Int).natAbs<=_;simp
 ·show(0:Int).natAbs<=_;simp
section
variable {u:Unt} {w:Wld} {n k:Nat}
def zes:∀{a b:List Unt},(a.map (·.id)).Pairwise (·<·)->(b.map (·.id)).Pairwise (·<·)->(∀u,u∈a↔u∈b)->a=b
 |[],[],_,_,_=>rfl
 |[],y::b,_,_,h=>absurd ((h y).2 Fa1) φ
 |x::a,[],_,_,h=>absurd ((h x).1 Fa1) φ
 |x::a,y::b,ha,hb,h=>by
  rw[Fcb,Fb2]at ha hb;have hx:=(h x).1 Fa1;have hy:=(h y).2 Fa1;have e:x=y:=by
   rcases Fax.1 hx with e|hx
   ·exact e
   ·rcases Fax.1 hy with e|hy
    ·exact e.symm
    ·have h1:=hb.1 _ (Fag.2 ⟨x,hx,rfl⟩);have h2:=ha.1 _ (Fag.2 ⟨y,hy,rfl⟩);omega
  subst e;refine congrArg _ (zes ha.2 hb.2 λu=>⟨λhu=>?_,λhu=>?_⟩)
  ·rcases Fax.1 ((h u).1 (Fau _ hu))with e|e
   ·have:=ha.1 _ (Fag.2 ⟨u,hu,rfl⟩);rw[e]at this;omega
   ·exact e
  ·rcases Fax.1 ((h u).2 (Fau _ hu))with e|e
   ·have:=hb.1 _ (Fag.2 ⟨u,hu,rfl⟩);rw[e]at this;omega
   ·exact e
def nV(v:Vc):Prop:=(-9223372036854775807<=v.1/\v.1<=9223372036854775807)/\(-9223372036854775807<=v.2/\v.2<=9223372036854775807)
def zcb(a b:Vc):nV (j3 a b):=⟨my _ _,my _ _⟩
def ij{v:Vc}(h:nV v):v.ok:=by unfold nV at h;exact⟨⟨θ,θ⟩,⟨θ,θ⟩⟩
theorem zen{a:Int}(h:-9223372036854775807<=a/\a<=9223372036854775807):ql a 0=a:=by
 unfold ql;rw[Gn θ,Gn θ];unfold Ae;split
 ·omega
 ·split<;>omega
theorem ziv{v:Vc}(h:nV v):j3 v (0,0)=v:=by unfold j3;rw[zen h.1,zen h.2]
def wx(u:Unt)(v:Vc)(x:Unt):Vc:=if x.id≠u.id then j3 v (Ar u.pos (zz u.kind+zz x.kind+16384) x.pos)else v
def zca{x:Unt}{v:Vc}(h:nV v):nV (wx u v x):=by
 unfold wx;split
 ·exact zcb _ _
 ·exact h
def zb9:∀(l:List Unt) {v:Vc},nV v->nV (l.foldl (wx u) v)
 |[],_,h=>h
 |x::l,_,h=>zb9 l (zca h)
theorem ydh{p q:Vc}{r:Int}(h:near p q r=false):Ar p r q=(0,0):=by unfold Ar;rw[h];simp
theorem Wi(u:Unt)(r:Int)(hr:∀k,zz u.kind+zz k+16384<=r):∀(l:List Unt) (v:Vc),nV v->
  l.foldl (λv x=>if x.inn=0/\x.id≠u.id then j3 v (Ar u.pos (zz u.kind+zz x.kind+16384) x.pos)else v) v=(l.filter λx=>decide (x.inn=0)&&near u.pos x.pos r).foldl (wx u) v
 |[],v,_=>rfl
 |x::l,v,h=>by
  rw[Fct,Fds];by_cases h0:x.inn=0
  ·cases hn:near u.pos x.pos r with
   |true=>
    simp only[h0,decide_true,Fet,if_true,Fct,true_and];exact Wi u r hr l _ (zca h)
   |false=>
    have hf:near u.pos x.pos (zz u.kind+zz x.kind+16384)=false:=by
     cases hc:near u.pos x.pos (zz u.kind+zz x.kind+16384)with
     |false=>rfl
     |true=>rw[zb6 (hr x.kind) hc]at hn;cases hn
    simp only[h0,decide_true,Bool.and_false,Fao,if_false,true_and];rw[ydh hf,ziv h,ite_self];exact Wi u r hr l _ h
  ·simp only[h0,decide_false,Bool.false_and,Fao,if_false,false_and];exact Wi u r hr l _ h
def yid(hr:yk w.U){us:List Unt}(hn:K1 w u.pos (zz u.kind+16384+81920) us)(hs:(us.map (·.id)).Pairwise (·<·)):Iq w u=us.foldl (wx u) (0,0):=by
 unfold Iq;rw[Wi u (zz u.kind+16384+81920) (λk=>by have:=(Fx k).2;omega) w.U (0,0) ⟨⟨ψ,ψ⟩,⟨ψ,ψ⟩⟩]
 congr 1
 refine zes ?_ hs λx=>?_
 ·have:(w.U.map (·.id)).Pairwise (·<·):=by
   rw[Fbv];intro i j hi hj hij;rw[Fam]at hi hj;simp only[Fb1];exact Hk hr hij hj
  exact this.sublist (List.filter_sublist.map _)
 ·rw[Fbc,hn x,Fa7,decide_eq_true_iff];constructor
  ·rintro⟨h1,h2,h3⟩;exact⟨⟨h1,h2⟩,h3⟩
  ·rintro⟨⟨h1,h2⟩,h3⟩;exact⟨h1,h2,h3⟩
def yis{v:Vc}(h:nV v)(k:Nat):nV (Cl v k):=by obtain⟨h1,h2⟩:=h;have e1:=zdt v.1 k;have e2:=zdt v.2 k;unfold nV Cl;dsimp only;omega
def zio{v:Vc}(h:v.ok):nV (ky v):=by obtain⟨h1,h2⟩:=h;have e1:=D2 h1;have e2:=D2 h2;unfold nV ky;dsimp only;omega
def zjn{v:Vc}(h0:Cl v k≠(0,0))(hc:¬xo w u.id u.kind (j3 u.pos (Cl v k))):Ak w u v (n+1) k=Ak w u v n (k+1):=by show(if _ then _ else if _ then _ else _)=_;rw[if_neg h0,if_neg hc]
def zjl{v:Vc}(h0:Cl v k=(0,0)):Ak w u v (n+1) k=none:=by show(if _ then _ else if _ then _ else _)=_;rw[if_pos h0]
def zjm{v:Vc}(h0:Cl v k≠(0,0))(hc:xo w u.id u.kind (j3 u.pos (Cl v k))):Ak w u v (n+1) k=some (k,j3 u.pos (Cl v k)):=by show(if _ then _ else if _ then _ else _)=_;rw[if_neg h0,if_pos hc]
def zwz(hk:k<5):IntKind.i64.wrap (1*2^(min ((k:Int)).toNat IntKind.i64.bits))=((2^k:Nat):Int):=by have:k=0\/k=1\/k=2\/k=3\/k=4:=θ;rcases this with rfl|rfl|rfl|rfl|rfl<;>decide
end
section
variable {u n t:Nat} {x:Int}
def wv:Nat->(Nat->Nat)->Nat
 |0,_=>0
 |n+1,f=>wv n f+f n
theorem el{f g:Nat->Nat}:∀n,(∀t,t<n->f t=g t)->wv n f=wv n g
 |0,_=>rfl
 |n+1,h=>by show wv n f+f n=wv n g+g n;rw[el n (λt ht=>h t θ),h n θ]
def ei{f g:Nat->Nat}:∀n,(∀t,t<n->f t<=g t)->wv n f<=wv n g
 |0,_=>Fai _
 |n+1,h=>by show wv n f+f n<=wv n g+g n;have:=ei n (λt ht=>h t θ);have:=h n θ;omega
theorem ek(c:Nat):∀n,wv n (λ_=>c)=n*c
 |0=>by simp[wv]
 |n+1=>by show wv n (λ_=>c)+c=_;rw[ek c n,Fdv]
def Sa{f g:Nat->Nat}:∀n,u<n->(∀t,t<n->t≠u->f t=g t)->wv n f+g u=wv n g+f u
 |0,hu,_=>θ
 |n+1,hu,h=>by
  show wv n f+f n+g u=wv n g+g n+f u;by_cases e:u=n
  ·subst e;rw[el u (λt ht=>h t θ θ)];omega
  ·have:=Sa (f:=f) (g:=g) n θ (λt ht hne=>h t θ hne);have:=h n θ (Ne.symm e);omega
def Fk(n:Nat)(d:Nat->Int):Nat:=wv n λt=>if 0<=d t then 1 else 0
def zjt(n:Nat)(d:Nat->Int):Fk n d<=n:=by have:=ei (f:=λt=>if 0<=d t then 1 else 0) (g:=λ_=>1) n (λt _=>by split<;>omega);rw[ek]at this;unfold Fk;omega
def zjs{d:Nat->Int}(hu:u<n)(h:d u<0)(hx:0<=x):Fk n (qc d u x)=Fk n d+1:=by have:=Sa (f:=λt=>if 0<=qc d u x t then 1 else 0) (g:=λt=>if 0<=d t then 1 else 0) n hu (λt _ hne=>by simp only[kz hne]);simp only[Bo,if_pos hx,if_neg (show¬0<=d u by omega)]at this;unfold Fk;omega
def zjr{d:Nat->Int}(h:0<=d u)(hx:0<=x):Fk n (qc d u x)=Fk n d:=by
 unfold Fk;refine el n λt _=>?_;by_cases e:t=u
 ·subst e;rw[Bo,if_pos hx,if_pos h]
 ·rw[kz e]
def Lq(n:Nat)(d:Nat->Int):Prop:=∀t,d t<=84*(Fk n d:Int)-84\/d t<0
def ymp{goal:Nat}(hg:goal<n){d:Nat->Int}(hd:∀u,d u=if u=goal then 0 else -1):Lq n d:=by
 intro t;have h1:1<=Fk n d:=by
  have:=Sa (f:=λt=>if 0<=d t then 1 else 0) (g:=λt=>if t=goal then 0 else if 0<=d t then 1 else 0) n hg (λt _ hne=>by rw[if_neg hne]);have h0:(if 0<=d goal then 1 else 0)=1:=by rw[hd,if_pos rfl];rfl
  simp only[if_true,h0]at this;unfold Fk;omega
 rw[hd];split
 ·left;omega
 ·right;omega
def zfi{d:Nat->Int}(h:Lq n d){c:Int}(hu:u<n)(ht:0<=d t)(hc:0<c/\c<=84)(hl:d u<0\/d t+c<d u):Lq n (qc d u (d t+c)):=by
 have hdt:=h t;by_cases hn:d u<0
 ·have e:=zjs (n:=n) hu hn (show 0<=d t+c by omega);intro v;rw[e];by_cases ev:v=u
  ·subst ev;rw[Bo];omega
  ·rw[kz ev];have:=h v;omega
 ·have e:=zjr (n:=n) (d:=d) (u:=u) θ (show 0<=d t+c by omega);intro v;rw[e];by_cases ev:v=u
  ·subst ev;rw[Bo];have:=h v;omega
  ·rw[kz ev];exact h v
def nn{d:Nat->Int}(h:Lq n d)(t:Nat):d t<=84*(n:Int):=by have:=h t;have:=zjt n d;omega
def Fp(n:Nat)(dn:Nat->Bool):Nat:=wv n λt=>if dn t then 0 else 1
def yef{dn:Nat->Bool}(ht:t<n)(h:dn t=false):Fp n (qc dn t true)+1=Fp n dn:=by have:=Sa (f:=λv=>if qc dn t true v=true then 0 else 1) (g:=λv=>if dn v=true then 0 else 1) n ht (λv _ hne=>by simp only[kz hne]);simp only[Bo,h,if_true,Fao,if_false]at this;unfold Fp;omega
end
section
variable {i n k:Nat}
def ycx{l:List (Int×Int)}(h:vw l)(x:Int×Int):UpF (qat (l++[x])) (l++[x]).length l.length:=by
 have h2:L5 (qat (l++[x])) l.length:=λj h0 hj=>by rw[zay l x j hj,zay l x (par j) (by have:=Cy h0;omega)];exact h j h0 hj
 have:=zix h2;simpa using this
def ycu{l:List (Int×Int)}(h:UpF (qat l) l.length i)(h0:0<i)(hi:i<l.length)(hl:qlt (qat l i) (qat l (par i))):
  UpF (qat (vd l i (par i))) (vd l i (par i)).length (par i)/\(vd l i (par i)).Perm l:=by
 have hp:=Cy h0;rw[zax hi θ,Mf];exact⟨ziw h h0 hi hl,te hi θ⟩
def zav{l:List (Int×Int)}(h:UpF (qat l) l.length i)(hi:i=0\/¬qlt (qat l i) (qat l (par i))):vw l:=ziy h hi
def ycw(l:List (Int×Int))(x:Int×Int):(l++[x]).Perm (x::l):=List.perm_append_singleton x l
def ycz{l:List (Int×Int)}(hl:l.length=n+1):l.Perm (qat l 0::(l.set 0 (qat l n)).take n):=by
 obtain⟨a,t,rfl⟩:∃a t,l=a::t:=by
  cases l with
  |nil=>simp at hl
  |cons a t=>exact⟨a,t,rfl⟩
 simp only[Fbg,Nat.add_right_cancel_iff]at hl;have e0:qat (a::t) 0=a:=rfl;rw[e0];refine List.Perm.cons a ?_;cases n with
 |zero=>
  have:t=[]:=Fa0 hl;subst this;simp
 |succ n=>
  have e1:qat (a::t) (n+1)=t[n]'θ:=by rw[Sy χ];rfl
  rw[e1];show t.Perm ((t[n]'θ::t).take (n+1));rw[List.take_succ_cons];have e2:t=t.take n++[t[n]'θ]:=by
   have h1:=Fbs n t;have h2:t.drop n=[t[n]'θ]:=by rw[Fc6 θ,List.drop_eq_nil_of_le θ]
   rw[h2]at h1;exact h1.symm
  exact(List.Perm.of_eq e2).trans (List.perm_append_singleton _ _)
def yc1{l:List (Int×Int)}(hl:l.length=n+1)(h:vw l):H1 (qat ((l.set 0 (qat l n)).take n)) ((l.set 0 (qat l n)).take n).length 0:=by
 have hlen:((l.set 0 (qat l n)).take n).length=n:=χ;rw[hlen];have h2:L5 (qat l) (n+1):=by rw[<-hl];exact h
 have key:∀j,0<j->j<n->qat ((l.set 0 (qat l n)).take n) j=qat l j:=λj h0 hj=>by unfold qat;simp only[List.getD,Fca hj];rw[Fc0 θ]
 refine⟨λj h0 hj hp=>?_,λj h0 hj hp h1=>θ⟩;rw[key j h0 hj,key (par j) θ (by have:=Cy h0;omega)];exact h2 j h0 θ
theorem yc0{l:List (Int×Int)}(h:vw l):∀e∈l,¬qlt e (qat l 0):=λe he=>by obtain⟨j,hj,rfl⟩:=Faf he;rw[<-Sy hj];exact yio h j hj
def yc2{l:List (Int×Int)}(h:H1 (qat l) l.length i)(hc:l.length<=2*i+1):vw l:=
 zey h λj h0 hj hp=>by rcases(O4 h0).1 hp with e|e<;>omega
def fx{l:List (Int×Int)}(h:H1 (qat l) l.length i)(hk:∀j,0<j->j<l.length->par j=i->¬qlt (qat l j) (qat l k))(hs:¬qlt (qat l k) (qat l i)):vw l:=
 zey h λj h0 hj hp=>Sw hs (hk j h0 hj hp)
def fy{l:List (Int×Int)}(h:H1 (qat l) l.length i)(hk0:0<k)(hk:k<l.length)(hki:par k=i)(hmin:∀j,0<j->j<l.length->par j=i->¬qlt (qat l j) (qat l k))(hl:qlt (qat l k) (qat l i)):
  H1 (qat (vd l i k)) (vd l i k).length k/\(vd l i k).Perm l:=by
 have hp:=Cy hk0;rw[zax θ hk,Mf];exact⟨ylp h hk0 hk hki hmin hl,te θ hk⟩
def ny{f:Nat->Int×Int}(hk:k=2*i+1/\(2*i+2<n->¬qlt (f (2*i+2)) (f (2*i+1)))\/k=2*i+2/\qlt (f (2*i+2)) (f (2*i+1))):∀j,0<j->j<n->par j=i->¬qlt (f j) (f k):=by
 intro j h0 hj hp;rcases(O4 h0).1 hp with e|e
 ·subst e;rcases hk with⟨rfl,_⟩|⟨rfl,h2⟩
  ·exact f0 _
  ·exact Sx h2
 ·subst e;rcases hk with⟨rfl,h1⟩|⟨rfl,h2⟩
  ·exact h1 hj
  ·exact f0 _
end
section
variable {F:Store} {p i b cap:Nat}
def itC(x:Int×Int):List AV:=[int x.1,int x.2]
theorem Lf(x:Int×Int):(itC x).length=2:=rfl
structure QAt(F:Store)(p b cap:Nat)(l:List (Int×Int))(L:List AV):Prop where
 hp:F.obj p=some (.cells [.s (.slice (some ⟨b,0,none⟩) l.length cap)])
 hb:F.obj b=some (.cells ((rws itC l).flatten++L))
 ne:b≠p
 h1:l.length<=cap
 h2:cap*2<=l.length*2+L.length
 h3:cap<=9223372036854775807
def QOf(F:Store)(p:Nat)(l:List (Int×Int)):Prop:=(F.obj p=some (.cells [.s (.slice none 0 0)])/\l=[])\/∃b cap L,QAt F p b cap l L
theorem QOf.rows{l:List (Int×Int)}(h:QOf F p l):∃v,F.obj p=some (.cells [v])/\RowsO 2 itC F v l/\∀b c0,v=.s (.slice (some ⟨b,0,none⟩) l.length c0)->b≠p:=by
 rcases h with⟨h,rfl⟩|⟨b,cap,L,h⟩
 ·exact⟨_,h,.inl ⟨rfl,rfl⟩,λb c0 e=>by simp at e⟩
 ·refine⟨_,h.hp,.inr ⟨b,cap,L,rfl,h.hb,h.h1,h.h2,h.h3⟩,λb' c0 e=>?_⟩;simp only[AV.s.injEq,Value.slice.injEq,Fal,Addr.mk.injEq]at e;exact e.1.1▸h.ne
theorem QOf.pos{l:List (Int×Int)}(h:QOf F p l)(hl:0<l.length):∃b cap L,QAt F p b cap l L:=by
 rcases h with⟨h,rfl⟩|h
 ·exact absurd hl (Nat.lt_irrefl 0)
 ·exact h
theorem yg8{l:List (Int×Int)}(hi:i<l.length)(x:Int×Int)(L:List AV):zq ((rws itC l).flatten++L) (0+i*2) (itC x)=(rws itC (l.set i x)).flatten++L:=by have:=ew (f:=itC) (k:=2) Lf hi (j:=0) (x':=x) (ys:=itC x) (L:=L) (by show 0+2<=2;omega) (by unfold zq;rw[Lf];rfl);rw[Nat.add_zero]at this;rw[Fba];exact this
def vi{l:List (Int×Int)}{L:List AV}(hi:i<l.length):List.drop (0+i*2) ((rws itC l).flatten++L)=itC (qat l i)++((rws itC (l.drop (i+1))).flatten++L):=by
 have h1:(rws itC (l.take i)).flatten.length=i*2:=by rw[yx Lf,Fah,Fde θ]
 rw[Fba,Sj hi,Fat,<-h1,Fd5,Fat,Sy hi]
def Hu{l:List (Int×Int)}{L:List AV}(hi:i<l.length)(x:Int×Int):0+i*2+(itC x).length<=((rws itC l).flatten++L).length:=by rw[Fab,yx Lf,Lf];omega
theorem QAt.set{l:List (Int×Int)}{L:List AV}(h:QAt F p b cap l L)(hi:i<l.length)(x:Int×Int):QAt (F.sO b (.cells (zq ((rws itC l).flatten++L) (0+i*2) (itC x)))) p b cap (l.set i x) L:=by rw[yg8 hi];exact⟨by rw[zg (Ne.symm h.ne),Fak];exact h.hp,zd _ _ _,h.ne,by rw[Fak];exact h.h1,by rw[Fak];exact h.h2,h.h3⟩
theorem QAt.cut{l:List (Int×Int)}{L:List AV}(h:QAt F p b cap l L){n:Nat}(hn:n<=l.length):QAt (F.sO p (.cells [.s (.slice (some ⟨b,0,none⟩) n cap)])) p b cap (l.take n) ((rws itC (l.drop n)).flatten++L):=by
 have e:(rws itC (l.take n)).flatten++((rws itC (l.drop n)).flatten++L)=(rws itC l).flatten++L:=by rw[<-Fat,<-Fm,Fbs]
 have hl:(l.take n).length=n:=θu;refine⟨by rw[zd,hl],by rw[zg h.ne,e];exact h.hb,h.ne,by rw[hl];have:=h.h1;omega,?_,h.h3⟩;have:=h.h2;rw[hl,Fab,yx Lf,Fbj];omega
end
section
variable {i:Nat}
def Ay(v:Int)(k:Nat)(t:Nat):Int:=if t<k then v else 0
def ycj{n k m:Nat}{v:Int}(hk:m<=k)(hn:k+m<=n):zq (il n (Ay v k)) (0+k*1) ((List.drop (0+0*1) (il n (Ay v k))).take (m*1))=il n (Ay v (k+m)):=by
 have e:(List.drop (0+0*1) (il n (Ay v k))).take (m*1)=List.replicate m (int v):=by
  rw[show 0+0*1=0 from rfl,Fc1,Feo];apply Fcx
  ·rw[Fah,xz,Fav];omega
  ·intro i h1 h2;rw[Fav]at h2;rw[Fdl,Fdz];simp only[il,Fb1,List.getElem_range];rw[Ay,if_pos θ]
 rw[e];unfold zq;rw[Fav,show 0+k*1=k by omega];apply Fb8;intro i;by_cases h1:i<k
 ·rw[Fat,Fa3 (by rw[Fah,xz];omega),Fca h1,Fz θ,Fz θ,Ay,Ay,if_pos h1,if_pos θ]
 ·by_cases h2:i<k+m
  ·rw[Fat,Fa6 (by rw[Fah,xz];omega),Fah,xz,Fa3 (by rw[Fav];omega),Fbu,if_pos θ,Fz θ,Ay,if_pos h2]
  ·rw[Fa6 (by rw[Fab,Fah,xz,Fav];omega),Fab,Fah,xz,Fav,Fbw,show k+m+(i-(min k n+m))=i by omega];by_cases h3:i<n
   ·rw[Fz h3,Fz h3,Ay,Ay,if_neg h1,if_neg h2]
   ·rw[Fbl θd,Fbl θd]
theorem yia(n:Nat)(v:Int):il n (Ay v n)=il n λ_=>v:=Pk λt ht=>if_pos ht
def Nx(g:Gnd)(t:Nat):AV:=.agg (il 8 (yn g t))
def F8(g:Gnd)(t i:Nat)(j:Nat):Int:=if j<i then yn g t j else 0
def yn9(g:Gnd)(t:Nat):il 8 (F8 g t 8)=il 8 (yn g t):=Pk λj hj=>if_pos hj
def yoa(g:Gnd)(t:Nat)(hi:i<8):yn g t i=K3 g ((t:Int)%g.W) ((t:Int)/g.W) (dirL.getD i (0,0)):=by unfold yn Gq;rw[Fap,Faq,Fap,Fac (show i<dirL.length from hi)];rfl
def yn8(g:Gnd)(t:Nat)(v:Int)(hv:v=yn g t i):setI (F8 g t i) i v=F8 g t (i+1):=funext λj=>by
 unfold setI F8;by_cases h:j=i
 ·subst h;rw[if_pos rfl,if_pos θ,hv]
 ·rw[if_neg h];by_cases h2:j<i
  ·rw[if_pos h2,if_pos θ]
  ·rw[if_neg h2,if_neg θ]
def dirC:List AV:=(dirL.map I7).flatten
def yl6(hi:i<8):dirC.drop (i*2)=I7 (dirL.getD i (0,0))++dirC.drop (i*2+2):=by have h:i=0\/i=1\/i=2\/i=3\/i=4\/i=5\/i=6\/i=7:=θ;rcases h with rfl|rfl|rfl|rfl|rfl|rfl|rfl|rfl<;>rfl
def yl5(hi:i<8):(-1<=(dirL.getD i (0,0)).1/\(dirL.getD i (0,0)).1<=1)/\-1<=(dirL.getD i (0,0)).2/\(dirL.getD i (0,0)).2<=1:=by have h:i=0\/i=1\/i=2\/i=3\/i=4\/i=5\/i=6\/i=7:=θ;rcases h with rfl|rfl|rfl|rfl|rfl|rfl|rfl|rfl<;>decide
end
def L8(g:Gnd)(ok:Nat->Bool)(c:Int)(t i:Nat):Nat->Nat->Int->Prop:=λa u k=>a=t/\∃w,i<=w/\w<8/\yn g t w=(u:Int)/\k=xg g ok c t w
def nc{E:Nat->Nat->Int->Prop}{n goal:Nat}{d:Nat->Int}{dn:Nat->Bool}{q q':List (Int×Int)}{cur:Int}{O:Nat->Nat->Int->Prop}(h:DJ E n goal d dn q cur O)(hp:q.Perm q'):DJ E n goal d dn q' cur O:=
 ⟨h.lab,h.gl,h.pre,h.rel,h.mono,λe he=>h.ent e (hp.mem_iff.2 he),λu hu hn=>hp.mem_iff.1 (h.wait u hu hn)⟩
section
variable {g:Gnd} {ok:Nat->Bool} {c:Int} {n goal:Nat} {d:Nat->Int} {dn:Nat->Bool} {q:List (Int×Int)} {cur:Int}
def zid{t:Nat}(h:DJ (Bk g ok c) n goal d dn q cur (λa _ _=>a=t)):DJ (Bk g ok c) n goal d dn q cur (L8 g ok c t 0):=
 nf h λa u k ha hn hE=>by obtain⟨_,_,w,hw,h1,_,h2,_⟩:=hE;subst ha;exact absurd ⟨rfl,w,Fae _,hw,h1,h2⟩ hn
def zie{t:Nat}(h:DJ (Bk g ok c) n goal d dn q cur (L8 g ok c t 8)):DJ (Bk g ok c) n goal d dn q cur Kz:=
 nf h λa u k ha hn hE=>by obtain⟨_,w,h1,h2,_⟩:=ha;omega
def cx{t i:Nat}(h:DJ (Bk g ok c) n goal d dn q cur (L8 g ok c t i))(hp:∀u:Nat,yn g t i=u->0<xg g ok c t i->0<=d u/\d u<=d t+xg g ok c t i):DJ (Bk g ok c) n goal d dn q cur (L8 g ok c t (i+1)):=
 nf h λa u k ha hn hE=>by
  obtain⟨rfl,w,h1,h2,h3,rfl⟩:=ha;by_cases hw:w=i
  ·subst hw;exact hp u h3 (W4 _ _ _ hE)
  ·exact absurd ⟨rfl,w,θ,h2,h3,rfl⟩ hn
def yly{O:Nat->Nat->Int->Prop}(h:DJ (Bk g ok c) n goal d dn q cur O)(hgoal:ok goal=true){u:Nat}(hu:0<=d u):ok u=true:=by
 by_cases e:u=goal
 ·rw[e];exact hgoal
 ·obtain⟨t,k,_,_,hE,_⟩:=h.pre u e hu;obtain⟨_,_,_,_,_,h1,_⟩:=hE;exact h1
end
def lu:Option (Int×Int)->Int
 |none=>0
 |some x=>x.1
def Ry:Option (Int×Int)->Int
 |none=>0
 |some x=>x.2
def xh(S:Store)(b b2 n:Nat)(d:Nat->Int)(dn:Nat->Bool):Store:=(S.sO b (.cells (il n d))).sO b2 (.cells (bl n dn))
section
variable {S:Store} {b b2 n:Nat}
def zeb(hb:b≠b2)(d:Nat->Int)(dn:Nat->Bool):(xh S b b2 n d dn).obj b=some (.cells (il n d)):=by unfold xh;rw[zg hb,zd]
def yj8(d:Nat->Int)(dn:Nat->Bool):(xh S b b2 n d dn).obj b2=some (.cells (bl n dn)):=zd _ _ _
def yj7{i:Nat}{x:AObj}(hf:Fresh S b)(hf2:Fresh (S.sO b x) b2){y:AObj}(h:S.obj i=some y)(d:Nat->Int)(dn:Nat->Bool):(xh S b b2 n d dn).obj i=some y:=by
 have h1:i≠b:=λe=>by rw[e,hf.1]at h;cases h
 have h2:i≠b2:=λe=>by have:=hf2.1;rw[<-e,zg h1,h]at this;cases this
 unfold xh;rw[zg h2,zg h1];exact h
theorem zea(hb:b≠b2)(d d':Nat->Int)(dn:Nat->Bool):(xh S b b2 n d dn).sO b (.cells (il n d'))=xh S b b2 n d' dn:=by unfold xh;rw[Hj hb,yu]
def yj6(d:Nat->Int)(dn dn':Nat->Bool):(xh S b b2 n d dn).sO b2 (.cells (bl n dn'))=xh S b b2 n d dn':=yu _ _ _ _
def fld_has{d:Nat->Int}{dn:Nat->Bool}{i:Nat}:(xh S b b2 n d dn).has i↔i=b2\/i=b\/S.has i:=by unfold xh;rw[has_setObj_iff,has_setObj_iff]
def yj9{F:Store}{d d':Nat->Int}{dn dn':Nat->Bool}(h:zi F (xh S b b2 n d dn)):zi F (xh S b b2 n d' dn'):=λi h1 h2=>h i h1 (fld_has.2 (fld_has.1 h2))
def yka(hf:Fresh S b){x:AObj}(hf2:Fresh (S.sO b x) b2){F:Store}(hb:b≠b2){d:Nat->Int}{dn:Nat->Bool}:(F.un (xh S b b2 n d dn)).Has (S.sO b (.cells (il n d))):=by
 have hn:(S.sO b (.cells (il n d))).obj b2=none:=by have:=hf2.1;rw[zg (Ne.symm hb)]at this⊢;exact this
 exact⟨λi y hi=>zf ((D9 hn).obj i y hi),λi y hi=>Dq hi⟩
end
theorem Wf(n:Nat)(d:Nat->Int)(u:Nat)(v:Int)(hu:u<n):zq (il n d) (0+u*1) [int v]=il n (qc d u v):=by rw[show 0+u*1=u by omega,Ip hu];rfl
theorem yn1(n:Nat)(d:Nat->Bool)(u:Nat)(v:Bool)(hu:u<n):zq (bl n d) (0+u*1) [bool v]=bl n (qc d u v):=by rw[show 0+u*1=u by omega];have:=Nw (f:=d) hu (qc d u v) (λs hs=>kz hs);rw[Bo]at this;exact this
def Wg{n:Nat}{f:Nat->Int}{t:Nat}(h:t<n):((il n f).drop (t*1)).head?=some (int (f t)):=by
 have:=Ck (f:=f) h
 rwa [Fba]at this
def yeg(n:Nat)(dn:Nat->Bool):Fp n dn<=n:=by have:=ei (f:=λt=>if dn t=true then 0 else 1) (g:=λ_=>1) n (λt _=>by split<;>omega);rw[ek]at this;unfold Fp;omega
def Hv(g:Gnd)(ok:Nat->Bool)(c:Int)(d:Nat->Int)(t w:Nat):Prop:=0<xg g ok c t w/\0<=d (yn g t w).toNat/\xg g ok c t w+d (yn g t w).toNat=d t
theorem ykj{p:Nat->Bool}{n j:Nat}(hj:j<n)(hp:p j=true)(hn:∀w,w<j->p w=false):(List.range n).find? p=some j:=by rw[List.find?_range_eq_some];exact⟨hp,Fbf.2 hj,λw hw=>by rw[hn w hw];rfl⟩
theorem yki{p:Nat->Bool}{n:Nat}(hn:∀w,w<n->p w=false):(List.range n).find? p=none:=by rw[Fei];intro w hw;rw[hn w (Fbf.1 hw)];decide
section
variable {g:Gnd} {ok:Nat->Bool} {c:Int} {d:Nat->Int} {t:Nat}
def zih(h:d t<=0):je g ok c d t=-1:=by unfold je;rw[if_pos h]
def zif(h:¬d t<=0){j:Nat}(hj:j<8)(hp:Hv g ok c d t j)(hn:∀w,w<j->¬Hv g ok c d t w):je g ok c d t=(j:Int):=by unfold je;rw[if_neg h,ykj hj (by exact decide_eq_true hp) (λw hw=>by exact decide_eq_false (hn w hw))]
def zig(h:¬d t<=0)(hn:∀w,w<8->¬Hv g ok c d t w):je g ok c d t=-1:=by unfold je;rw[if_neg h,yki (λw hw=>by exact decide_eq_false (hn w hw))]
end
def zii(g:Gnd)(ok:Nat->Bool)(c:Int)(d:Nat->Int)(t:Nat):je g ok c d t=-1\/∃j:Nat,j<8/\je g ok c d t=(j:Int)/\Hv g ok c d t j:=by
 unfold je;split
 ·exact .inl rfl
 ·cases h:(List.range 8).find? λway=>decide (0<xg g ok c t way/\0<=d (yn g t way).toNat/\xg g ok c t way+d (yn g t way).toNat=d t)with
  |none=>exact .inl rfl
  |some j=>
   have h1:=Fc5 h;have h2:=List.find?_some h;exact .inr ⟨j,Fbf.1 h1,rfl,by simp only[decide_eq_true_eq]at h2;exact h2⟩
noncomputable def Ax(g:Gnd)(ok:Nat->Bool)(c:Int)(d:Nat->Int)(i t:Nat):Int:=if t<i then je g ok c d t else -1
theorem rg{g:Gnd}{ok:Nat->Bool}{c:Int}{d:Nat->Int}{i:Nat}:Ax g ok c d (i+1)=qc (Ax g ok c d i) i (je g ok c d i):=funext λt=>by
 unfold Ax qc;dsimp only;by_cases h:t=i
 ·subst h;rw[if_pos θ,if_pos rfl]
 ·rw[if_neg h];by_cases h2:t<i
  ·rw[if_pos h2,if_pos θ]
  ·rw[if_neg h2,if_neg θ]
def rf{g:Gnd}{ok:Nat->Bool}{c:Int}{d:Nat->Int}{i:Nat}(h:je g ok c d i=-1):Ax g ok c d (i+1)=Ax g ok c d i:=by
 rw[rg,h]
 funext t
 unfold qc Ax;by_cases h:t=i
 ·subst h;rw[if_pos rfl,if_neg θ]
 ·rw[if_neg h]
theorem zib(g:Gnd)(ok:Nat->Bool)(c:Int)(d:Nat->Int):Ax g ok c d 0=λ_=>-1:=funext λt=>if_neg (Fa2 t)
theorem zic(g:Gnd)(ok:Nat->Bool)(c:Int)(d:Nat->Int)(n:Nat):il n (Ax g ok c d n)=il n (je g ok c d):=Pk λt ht=>if_pos ht
def k8(S:Store)(b b2 n:Nat)(d f:Nat->Int):Store:=(S.sO b (.cells (il n d))).sO b2 (.cells (il n f))
section
variable {S:Store} {b b2 n:Nat}
def zji(hb:b≠b2)(d f:Nat->Int):(k8 S b b2 n d f).obj b=some (.cells (il n d)):=by unfold k8;rw[zg hb,zd]
def zjh(d f:Nat->Int):(k8 S b b2 n d f).obj b2=some (.cells (il n f)):=zd _ _ _
def zjf{i:Nat}{x:AObj}(hf:Fresh S b)(hf2:Fresh (S.sO b x) b2){y:AObj}(h:S.obj i=some y)(d f:Nat->Int):(k8 S b b2 n d f).obj i=some y:=by
 have h1:i≠b:=λe=>by rw[e,hf.1]at h;cases h
 have h2:i≠b2:=λe=>by have:=hf2.1;rw[<-e,zg h1,h]at this;cases this
 unfold k8;rw[zg h2,zg h1];exact h
def zje(d f f':Nat->Int):(k8 S b b2 n d f).sO b2 (.cells (il n f'))=k8 S b b2 n d f':=yu _ _ _ _
def zjg{x:AObj}(hb:b≠b2)(hf2:Fresh (S.sO b x) b2):Fresh S b2:=by have:=hf2;unfold Fresh at this⊢;rw[zg (Ne.symm hb)]at this;exact this
def zjj(hf:Fresh S b)(hb:b≠b2)(d f:Nat->Int):(k8 S b b2 n d f).Has (S.sO b2 (.cells (il n f))):=by unfold k8;rw[Hj (Ne.symm hb)];refine D9 ?_;rw[zg hb];exact hf.1
end
theorem yfc(g:Gnd)(t:Nat):Gq g t=(List.range 8).map (yn g t):=by
 apply Fcx
 ·rw[Vs,Fam,Fcn]
 ·intro i h1 h2;rw[Vs]at h1;simp only[Fb1,List.getElem_range];unfold yn;rw[Fap,Fac (by rw[Vs];exact h1)];rfl
theorem yfe(g:Gnd)(t:Nat)(x:Int):(Gq g t).contains x=(List.range 8).any λj=>yn g t j==x:=by
 rw[yfc,List.contains_eq_any_beq,List.any_map]
 congr 1
 funext j
 show(x==yn g t j)=_;rw[Fcv,beq_iff_eq,beq_iff_eq];exact eq_comm
theorem yox{p:Nat->Bool}{n k:Nat}(hk:k<n)(hp:p k=true):(List.range n).any p=true:=List.any_eq_true.2 ⟨k,Fbf.2 hk,hp⟩
theorem yow{p:Nat->Bool}{n:Nat}(hp:∀k,k<n->p k=false):(List.range n).any p=false:=by rw[Fd3];intro k hk;rw[hp k (Fbf.1 hk)];decide
end Go.V
