/- Ground of laws of throngtop: contracts and plain lemmas; no condition beyond the row's own. -/
import Derived.Test.YtphhbmaalpdnoaaGreatKE
set_option linter.unusedSimpArgs false
set_option linter.unusedVariables false
set_option linter.defProp false
namespace Go.V
theorem ACalls.frozenLe{P:Program}{f:FuncId}{xs:List AV}{st0:Store}{Q:Ja}{R:Ja}(h:ACalls P f xs st0 Q)
  (hQ:∀r S,Q r S->∃r2 S2,R r2 S2/\(∀b x,S2.obj b=some x->S.obj b≠none)/\(∀b x,S2.tok b≠some x)∧
   ∀(Oth M:Nat->Nat->Prop) (w:World),StoreOK S Oth M w->(∀b x,S2.obj b=some x->ObjRel w (λb o=>(M b o\/Oth b o)/\(S.obj b=none\/S2.obj b≠none)) x b)∧
    ∀v,VRel w (λb o=>M b o\/Oth b o) r v->VRel w (λb o=>(M b o\/Oth b o)/\(S.obj b=none\/S2.obj b≠none)) r2 v):
  ACalls P f xs st0 R:=by
 refine⟨λOth M w vs sto hr=>?_⟩;have h1:=h.out Oth M w vs sto hr;have key:∀v w',qy st0 Q Oth M w v w'->qy st0 R Oth M w v w':=by
  rintro v w' ⟨r,S,M',hq,hv,hs,hc⟩;obtain⟨r2,S2,hr2,hsub,htok,hk⟩:=hQ r S hq;obtain⟨hk1,hk2⟩:=hk Oth M' w' hs;have hT:∀b o,((M' b o/\(S.obj b=none\/S2.obj b≠none))\/Oth b o)->((M' b o\/Oth b o)/\(S.obj b=none\/S2.obj b≠none)):=λb o h=>by
   rcases h with⟨h1,h2⟩|h1
   ·exact⟨.inl h1,h2⟩
   ·refine⟨.inr h1,?_⟩;cases hb:S.obj b with
    |none=>exact .inl rfl
    |some y=>exact absurd ((hs.obj b y hb).2 o) (hs.dis b o h1)
  refine⟨r2,S2,λb o=>M' b o/\(S.obj b=none\/S2.obj b≠none),hr2,(hk2 v hv).mono hT,?_,?_⟩
  ·refine{obj:=λb x hx=>⟨(hk1 b x hx).mono hT,λo=>⟨?_,.inr (by rw[hx];simp)⟩⟩,tok:=λb x hx=>absurd hx (htok b x),mlt:=λb o hm=>hs.mlt b o hm.1,olt:=hs.olt,dis:=λb o ho hm=>hs.dis b o ho hm.1};cases hb:S.obj b with
   |none=>grind
   |some y=>exact(hs.obj b y hb).2 o
  ·exact{size:=hc.size,keep:=hc.keep,blk:=hc.blk,shp:=hc.shp,sub:=λb o hm hb=>hc.sub b o hm.1 hb,tape:=hc.tape,os:=hc.os,output:=hc.output}
 generalize(callFunc f vs).run P w=res at h1;cases res with
 |ok n w'=>
  cases n with
  |enter g args=>exact Calls.mono h1 λe w'' ⟨v,he,hv⟩=>⟨v,he,key _ _ hv⟩
  |value v=>exact key _ _ h1
  |_=>exact h1
 |_=>exact h1
theorem zzw{st:Store}{p b:Nat}{x y:AObj}(h:(st.sO p x).obj b=some y):(b=p/\y=x)\/(b≠p/\st.obj b=some y):=by
 by_cases e:b=p
 ·simp_all[zd]
 grind[zg]
theorem VRel.tup2{w:World}{T T':Nat->Nat->Prop}{a b a' b':AV}{v:Value}(h:VRel w T (.tup [a,b]) v)(ha:∀x,VRel w T a x->VRel w T' a' x)(hb:∀x,VRel w T b x->VRel w T' b' x):VRel w T' (.tup [a',b']) v:=by
 cases h with
 |tup _ c hl hc=>
  refine .tup _ c hl λi x y hx hy=>?_;grind
theorem yq6{W:World}{T T':Nat->Nat->Prop}{l l' r:List AV}{b:Nat}(hl:l.length=l'.length)(h:∀x,VRel W T (.agg l) x->VRel W T' (.agg l') x)(hr:∀y∈r,flat y)(hc:CellsRel W T (l++r) b):CellsRel W T' (l'++r) b:=by
 obtain⟨c,e,fr,h1,h2,h3,h4⟩:=hc;rw[Fad]at h3;have hx:=h (.agg (c.extract 0 l.length)) (.agg _ _ χ λi x y hx hy=>by
  have hi:=(Fa2.1 hx).1;refine h4 i x y (by rw[Fau hi];exact hx) ?_;rw[Array.getElem?_extract]at hy;split at hy
  ·simpa using hy
  ·cases hy)
 cases hx with
 |agg _ _ hl2 hc2=>
  refine⟨c,e,fr,h1,h2,by rw[Fad];omega,λi x y hx hy=>?_⟩;by_cases hi:i<l'.length
  ·rw[Fau hi]at hx;refine hc2 i x y hx ?_;rw[Array.getElem?_extract,if_pos θ];simpa using hy
  ·rw[Fa0 θ]at hx;refine hr x (Fba hx) _ _ _ _ _ (h4 i x y ?_ hy);rw[Fa0 θ,hl];exact hx
theorem RowsQ.has{α:Type}{k:Nat}{f:α->List AV}{S:Store}{v:AV}{l:List α}(h:RowsQ k f S v l){b n c:Nat}(hv:v=.s (.slice (some ⟨b,0,none⟩) n c))(hc:0<c):S.has b:=by
 rcases h with(⟨rfl,_⟩|⟨b',cap,L,rfl,ho,_⟩)|⟨a,_,rfl,_⟩
 ·cases hv
 ·cases hv;exact k9 ho
 ·cases hv;omega
def Store.objs0(S:Store):Store:=⟨S.obj,λ_=>none⟩
theorem ACalls.frozenEng{P:Program}{f:FuncId}{xs:List AV}{st0:Store}{Q:Ja}{R:Ja}(h:ACalls P f xs st0 Q)
  (hQ:∀r S,Q r S->(∃S2:Store,R r S2/\(∀b x,S2.obj b=some x->S.obj b=some x)/\∀b,S2.tok b=none)\/∃r2 X N eb raw plain p,zh X N/\¬X.has eb/\¬N.has eb/\S=(X.un N).sO eb (.cells (raw++[.s p]))/\raw.length=plain.length/\R r2 (N.objs0.sO eb (.cells (plain++[.s p])))∧
   ∀(Oth M:Nat->Nat->Prop) (W:World),StoreOK X Oth M W->(∀x,VRel W (λb o=>M b o\/Oth b o) (.agg raw) x->VRel W (λb o=>(M b o\/Oth b o)/\X.obj b=none) (.agg plain) x)∧
    ∀x,VRel W (λb o=>M b o\/Oth b o) r x->VRel W (λb o=>(M b o\/Oth b o)/\X.obj b=none) r2 x):ACalls P f xs st0 R:=by
 refine h.frozenLe ?_;intro r S hq;rcases hQ r S hq with⟨S2,hR,h2,h3⟩|⟨r2,X,N,eb,raw,plain,p,hd,hx,hn,rfl,hl,hR,hb⟩
 ·exact⟨r,S2,hR,λb x hx=>(by rw[h2 b x hx];simp),λb x hx=>(by rw[h3 b]at hx;cases hx),λOth M w sto=>⟨λb x hx=>(sto.obj b x (h2 b x hx)).1.mono λb o h=>h.1,λv hv=>hv.mono λb o h=>h.1⟩⟩
 have hS2:∀b x,(N.objs0.sO eb (.cells (plain++[.s p]))).obj b=some x->(b=eb/\x=.cells (plain++[.s p]))\/(b≠eb/\N.obj b=some x):=λb x hx=>zzw hx;refine⟨r2,_,hR,λb x hx=>?_,λb x hx=>θa,λOth M w sto=>?_⟩
 ·rcases hS2 b x hx with⟨rfl,rfl⟩|⟨h1,h2⟩
  ·rw[zd];simp
  ·rw[zg h1,zf h2];simp
 have sX:StoreOK X Oth M w:=sto.weaken ⟨λb y hy=>by have e:b≠eb:=λe=>hx (by rw[<-e];exact k9 hy);rw[zg e];exact yj hd hy,λb y hy=>Lz hd hy⟩;obtain⟨k1,k2⟩:=hb Oth M w sX;have hT:∀b o,((M b o\/Oth b o)/\(((X.un N).sO eb (.cells (raw++[.s p]))).obj b=none\/(N.objs0.sO eb (.cells (plain++[.s p]))).obj b≠none))->(M b o\/Oth b o)/\X.obj b=none:=λb o ⟨h1,h2⟩=>by
  refine⟨h1,?_⟩;by_cases e:b=eb
  ·subst e;exact(wl hx).1
  ·rw[zg e,zg e]at h2;cases hxb:X.obj b with
   |none=>rfl
   |some y=>
    rcases h2 with h2|h2
    ·rw[yj hd hxb]at h2;cases h2
    ·exact absurd (wl (hd b (k9 hxb))).1 h2
 refine⟨λb x hx2=>?_,λv hv=>(k2 v hv).mono hT⟩;rcases hS2 b x hx2 with⟨rfl,rfl⟩|⟨h1,h2⟩
 ·have ho:=(sto.obj b _ (zd _ _ _)).1;have:=yq6 hl k1 (λy hy=>by rw[Fbt.1 hy];exact zd0 p) ho;exact ObjRel.mono hT (show ObjRel w (λb o=>(M b o\/Oth b o)/\X.obj b=none) (.cells (plain++[.s p])) b from this)
 ·exact(sto.obj b x (by rw[zg h1];exact zf h2)).1.mono λb o h=>h.1
section
variable {P:Program} {c:Cfg} {w:World} {st:Store} {Oth M:Nat->Nat->Prop}
theorem ys2{o:Oper}{t:TypeId}{x:Operand}(ho:o.op=.makeInterface t x){d:TypeDesc}(hd:y9 P c.I->P.underlying t=some d)(hn:∀m,d≠.interface m){y:AV}{u:Value}
    (hy:∀(w:World) (T:Nat->Nat->Prop) (v:Value),VRel w T y v->v=u) {R:Ja} (h:R (.s (.iface t u)) st):AEff P c o [y] st R:=by
  refine⟨λOth M w ρ hI sto hr=>?_⟩;rw[ho]at hr;have hr:Reads w (λb o=>M b o\/Oth b o) [y] [ρ x]:=θr;obtain⟨v,he,h1⟩:=Kr hr;simp only[Fcf,and_true]at he;rw[<-he]at h1;have h1:=hy _ _ _ h1;have hund:=yn (hd hI);have hrun:(execOp ρ o).run P w=.ok (.value (.iface t u)) w:=by simp only[execOp,ho,Instr.makeInterface,Sem.run_bind,hund,Result.andThen_ok,h1];cases d<;>simp at hn⊢
  rw[hrun];exact⟨_,_,_,h,.s _,sto,Chg.refl M w⟩
theorem ys1{o:Oper}{t:TypeId}{x:Operand}(ho:o.op=.makeInterface t x){it:TI}{e:TypeId}(hit:c.I t=some it)(hty:it.ty=.ptr e){u:Value}{R:Ja}(h:R (.s (.iface t u)) st):AEff P c o [.s u] st R:=
  ys2 ho (λhI=>R4 (hI _ _ hit) hty) (λm h=>ω) (λw T v hv=>VRel.eq_s hv) h
end
section
variable {P:Program} {v:Value} {x:AV}
theorem yed{t:TypeId}{inf:TypeInfo}(h:P.info? t=some inf)(w:World):(typeInfo t).run P w=.ok inf w:=by simp[typeInfo,run_program,h]
theorem Meets.ptr{t:TypeId}{m:String}{g:FuncId}{inf:TypeInfo}{row:Method}{e:TypeId}(hi:P.info? t=some inf)(hf:inf.methods.find? (·.name==m)=some row)(hp:row.path=#[])
    (hr:row.func=some (g,true)) (hu:P.underlying t=some (.pointer e)) (hx:∀w T,VRel w T x v):Meets P t v m g x:=by
  refine⟨v,λw=>?_,hx⟩;have hdep:P.types.size+Made.depth=(P.types.size+99)+1:=rfl;rw[hdep];generalize P.types.size+99=n;have e:row.path.toList=[]:=by rw[hp]
  unfold method;rw[Sem.run_bind,yed hi,Result.andThen_ok,hf];dsimp only;rw[e];unfold follow;rw[Sem.run_bind,Sem.run_pure,Result.andThen_ok];dsimp only;rw[hr];dsimp only;unfold receiverAt;simp[yn hu,Place.get]
def Pd(P:Program)(t:TypeId)(m:String)(g:FuncId)(ptr:Bool):Bool:=
  match P.info? t,P.underlying t with
  | some inf,some d=>(match inf.methods.find? (·.name==m)with
    |some row=>row.path.isEmpty&&(match row.func with|some (f,b)=>Nat.beq f g&&(b==ptr)|none=>false)
    |none=>false)&&(match d with|.pointer _=>ptr|_=> !ptr)
  |_,_=>false
theorem yjf{t:TypeId}{m:String}{g:FuncId}{ptr:Bool}(h:Pd P t m g ptr=true):∃inf row d,P.info? t=some inf/\inf.methods.find? (·.name==m)=some row/\row.path=#[]/\row.func=some (g,ptr)/\P.underlying t=some d/\(match d with|.pointer _=>ptr|_=> !ptr)=true:=by
  unfold Pd at h;split at h
  · rename_i inf d h1 h2
    rw[Fay]at h;obtain⟨h3,h4⟩:=h;split at h3
    · rename_i row h5
      rw[Fay]at h3;obtain⟨h6,h7⟩:=h3;split at h7
      · rename_i f b h8
        rw[Fay]at h7;obtain⟨h9,h10⟩:=h7;have e1:f=g:=Nat.eq_of_beq_eq_true h9;have e2:b=ptr:=eq_of_beq h10;subst e1 e2;exact⟨inf,row,d,h1,h5,Array.isEmpty_iff.1 h6,h8,h2,h4⟩
      · cases h7
    · cases h3
  · cases h
theorem Meets.ptrB{t:TypeId}{m:String}{g:FuncId}(h:Pd P t m g true=true)(hx:∀w T,VRel w T x v):Meets P t v m g x:=by
  obtain⟨inf,row,d,h1,h2,h3,h4,h5,h6⟩:=yjf h;cases d with
  |pointer e=>exact Meets.ptr h1 h2 h3 h4 h5 hx
  |_=>cases h6
end
def Br(v:Vc):Prop:=(-1099511627776<=v.1/\v.1<=1099511627776)/\(-1099511627776<=v.2/\v.2<=1099511627776)
theorem Ki{v:Vc}(h:Br v):Bf v:=by unfold Br at h;unfold Bf;omega
theorem zjq{v:Vc}(h:Br v):v.ok:=by unfold Br at h;exact⟨⟨θ,θ⟩,⟨θ,θ⟩⟩
theorem Rw{p q:Vc}(hp:xm p)(hq:xm q):Br (xc q p):=by rw[(cw hp hq).1];unfold xm at hp hq;unfold Br;dsimp only;omega
theorem yl2{w:Wld}{u:Unt}(hu:xm u.pos)(h:∀x∈w.U,x.inn=0->xm x.pos)(hl:w.U.length<=4096):Br (Iw w u):=by
 have key:∀(l:List Unt) (v:Vc) (B:Nat),(∀x∈l,x.inn=0->xm x.pos)->B+l.length<=4096->(v.1.natAbs<=B*16777216/\v.2.natAbs<=B*16777216)->
   Br (l.foldl (λv x=>if x.inn=0/\x.id≠u.id then j9 v (Bi u.pos (zx u.kind+zx x.kind+16384) x.pos)else v) v):=by
  intro l;induction l with
  |nil=>
   intro v B _ hB hv;unfold Br;simp only[Fc5]at hB;simp only[List.foldl_nil];omega
  |cons x l ih=>
   intro v B hx hB hv;simp only[Fbd]at hB;rw[Fcy];refine ih _ (B+1) (λy hy=>hx y (Fav _ hy)) θ ?_;split
   ·rename_i hc;have r1:=O3 u.kind;have r2:=O3 x.kind;have:=gb hu (hx x Fa7 hc.1) (r:=zx u.kind+zx x.kind+16384) θ;generalize Bi u.pos (zx u.kind+zx x.kind+16384) x.pos=z at*;have e:j9 v z=(v.1+z.1,v.2+z.2):=by
     unfold j9;rw[Py θ θ,Py θ θ]
    rw[e];dsimp only;omega
   ·exact⟨Fbv hv.1 (Fa9 _ (Fdn B)),Fbv hv.2 (Fa9 _ (Fdn B))⟩
 unfold Iw;refine key w.U (0,0) 0 h θ ⟨?_,?_⟩
 ·show(0:Int).natAbs<=_;simp
 ·show(0:Int).natAbs<=_;simp
section
variable {u:Unt} {w:Wld} {n k:Nat}
theorem zen:∀{a b:List Unt},(a.map (·.id)).Pairwise (·<·)->(b.map (·.id)).Pairwise (·<·)->(∀u,u∈a↔u∈b)->a=b
 |[],[],_,_,_=>rfl
 |[],y::b,_,_,h=>absurd ((h y).2 Fa7) φ
 |x::a,[],_,_,h=>absurd ((h x).1 Fa7) φ
 |x::a,y::b,ha,hb,h=>by
  rw[Fb7,Fct]at ha hb;have hx:=(h x).1 Fa7;have hy:=(h y).2 Fa7;have e:x=y:=by
   rcases Fa6.1 hx with e|hx
   ·exact e
   ·rcases Fa6.1 hy with e|hy
    ·exact e.symm
    ·have h1:=hb.1 _ (Fai.2 ⟨x,hx,rfl⟩);have h2:=ha.1 _ (Fai.2 ⟨y,hy,rfl⟩);omega
  subst e;refine congrArg _ (zen ha.2 hb.2 λu=>⟨λhu=>?_,λhu=>?_⟩)
  ·rcases Fa6.1 ((h u).1 (Fav _ hu))with e|e
   ·have:=ha.1 _ (Fai.2 ⟨u,hu,rfl⟩);rw[e]at this;omega
   ·exact e
  ·rcases Fa6.1 ((h u).2 (Fav _ hu))with e|e
   ·have:=hb.1 _ (Fai.2 ⟨u,hu,rfl⟩);rw[e]at this;omega
   ·exact e
def nV(v:Vc):Prop:=(-9223372036854775807<=v.1/\v.1<=9223372036854775807)/\(-9223372036854775807<=v.2/\v.2<=9223372036854775807)
theorem zbx(a b:Vc):nV (j9 a b):=⟨my _ _,my _ _⟩
theorem ii{v:Vc}(h:nV v):v.ok:=by unfold nV at h;exact⟨⟨θ,θ⟩,⟨θ,θ⟩⟩
theorem zee{a:Int}(h:-9223372036854775807<=a/\a<=9223372036854775807):qg a 0=a:=by
 unfold qg;rw[Fm θ,Fm θ];unfold vd;split
 ·omega
 ·split<;>omega
theorem zik{v:Vc}(h:nV v):j9 v (0,0)=v:=by unfold j9;rw[zee h.1,zee h.2]
def At(u:Unt)(v:Vc)(x:Unt):Vc:=if x.id≠u.id then j9 v (Bi u.pos (zx u.kind+zx x.kind+16384) x.pos)else v
theorem zbw{x:Unt}{v:Vc}(h:nV v):nV (At u v x):=by
 unfold At;split
 ·exact zbx _ _
 ·exact h
theorem zbv:∀(l:List Unt) {v:Vc},nV v->nV (l.foldl (At u) v)
 |[],_,h=>h
 |x::l,_,h=>zbv l (zbw h)
theorem yg1{p q:Vc}{r:Int}(h:near p q r=false):Bi p r q=(0,0):=by unfold Bi;rw[h];simp
theorem Wn(u:Unt)(r:Int)(hr:∀k,zx u.kind+zx k+16384<=r):∀(l:List Unt) (v:Vc),nV v->
  l.foldl (λv x=>if x.inn=0/\x.id≠u.id then j9 v (Bi u.pos (zx u.kind+zx x.kind+16384) x.pos)else v) v=(l.filter λx=>decide (x.inn=0)&&near u.pos x.pos r).foldl (At u) v
 |[],v,_=>rfl
 |x::l,v,h=>by
  rw[Fcy,Fdc];by_cases h0:x.inn=0
  ·cases hn:near u.pos x.pos r with
   |true=>
    simp only[h0,decide_true,Fdj,if_true,Fcy,true_and];exact Wn u r hr l _ (zbw h)
   |false=>
    have hf:near u.pos x.pos (zx u.kind+zx x.kind+16384)=false:=by
     cases hc:near u.pos x.pos (zx u.kind+zx x.kind+16384)with
     |false=>rfl
     |true=>rw[zbs (hr x.kind) hc]at hn;cases hn
    simp only[h0,decide_true,Bool.and_false,Fah,if_false,true_and];rw[yg1 hf,zik h,ite_self];exact Wn u r hr l _ h
  ·simp only[h0,decide_false,Bool.false_and,Fah,if_false,false_and];exact Wn u r hr l _ h
theorem yl1(hr:yl w.U){us:List Unt}(hn:K4 w u.pos (zx u.kind+16384+81920) us)(hs:(us.map (·.id)).Pairwise (·<·)):Iw w u=us.foldl (At u) (0,0):=by
 unfold Iw;rw[Wn u (zx u.kind+16384+81920) (λk=>by have:=(Dk k).2;omega) w.U (0,0) ⟨⟨ψ,ψ⟩,⟨ψ,ψ⟩⟩]
 congr 1
 refine zen ?_ hs λx=>?_
 ·have:(w.U.map (·.id)).Pairwise (·<·):=by
   rw[Fce];intro i j hi hj hij;rw[Fap]at hi hj;simp only[Fbw];exact Hc hr hij hj
  exact this.sublist (List.filter_sublist.map _)
 ·rw[Fbx,hn x,Fay,decide_eq_true_iff];constructor
  ·rintro⟨h1,h2,h3⟩;exact⟨⟨h1,h2⟩,h3⟩
  ·rintro⟨⟨h1,h2⟩,h3⟩;exact⟨h1,h2,h3⟩
theorem yme{v:Vc}(h:nV v)(k:Nat):nV (C6 v k):=by obtain⟨h1,h2⟩:=h;have e1:=zdf v.1 k;have e2:=zdf v.2 k;unfold nV C6;dsimp only;omega
theorem zie{v:Vc}(h:v.ok):nV (vy v):=by obtain⟨h1,h2⟩:=h;have e1:=Ac h1;have e2:=Ac h2;unfold nV vy;dsimp only;omega
theorem zjg{v:Vc}(h0:C6 v k≠(0,0))(hc:¬qu w u.id u.kind (j9 u.pos (C6 v k))):Bc w u v (n+1) k=Bc w u v n (k+1):=by show(if _ then _ else if _ then _ else _)=_;rw[if_neg h0,if_neg hc]
theorem zje{v:Vc}(h0:C6 v k=(0,0)):Bc w u v (n+1) k=none:=by show(if _ then _ else if _ then _ else _)=_;rw[if_pos h0]
theorem zjf{v:Vc}(h0:C6 v k≠(0,0))(hc:qu w u.id u.kind (j9 u.pos (C6 v k))):Bc w u v (n+1) k=some (k,j9 u.pos (C6 v k)):=by show(if _ then _ else if _ then _ else _)=_;rw[if_neg h0,if_pos hc]
theorem zzq(hk:k<5):IntKind.i64.wrap (1*2^(min ((k:Int)).toNat IntKind.i64.bits))=((2^k:Nat):Int):=by have:k=0\/k=1\/k=2\/k=3\/k=4:=θ;rcases this with rfl|rfl|rfl|rfl|rfl<;>decide
end
section
variable {u n t:Nat} {x:Int}
def Aq:Nat->(Nat->Nat)->Nat
 |0,_=>0
 |n+1,f=>Aq n f+f n
theorem ek{f g:Nat->Nat}:∀n,(∀t,t<n->f t=g t)->Aq n f=Aq n g
 |0,_=>rfl
 |n+1,h=>by show Aq n f+f n=Aq n g+g n;rw[ek n (λt ht=>h t θ),h n θ]
theorem eh{f g:Nat->Nat}:∀n,(∀t,t<n->f t<=g t)->Aq n f<=Aq n g
 |0,_=>Fak _
 |n+1,h=>by show Aq n f+f n<=Aq n g+g n;have:=eh n (λt ht=>h t θ);have:=h n θ;omega
theorem ei(c:Nat):∀n,Aq n (λ_=>c)=n*c
 |0=>by simp[Aq]
 |n+1=>by show Aq n (λ_=>c)+c=_;rw[ei c n,Fdu]
theorem Se{f g:Nat->Nat}:∀n,u<n->(∀t,t<n->t≠u->f t=g t)->Aq n f+g u=Aq n g+f u
 |0,hu,_=>θ
 |n+1,hu,h=>by
  show Aq n f+f n+g u=Aq n g+g n+f u;by_cases e:u=n
  ·subst e;rw[ek u (λt ht=>h t θ θ)];omega
  ·have:=Se (f:=f) (g:=g) n θ (λt ht hne=>h t θ hne);have:=h n θ (Ne.symm e);omega
def Fj(n:Nat)(d:Nat->Int):Nat:=Aq n λt=>if 0<=d t then 1 else 0
theorem zjo(n:Nat)(d:Nat->Int):Fj n d<=n:=by have:=eh (f:=λt=>if 0<=d t then 1 else 0) (g:=λ_=>1) n (λt _=>by split<;>omega);rw[ei]at this;unfold Fj;omega
theorem zjn{d:Nat->Int}(hu:u<n)(h:d u<0)(hx:0<=x):Fj n (qb d u x)=Fj n d+1:=by have:=Se (f:=λt=>if 0<=qb d u x t then 1 else 0) (g:=λt=>if 0<=d t then 1 else 0) n hu (λt _ hne=>by simp only[vz hne]);simp only[Cg,if_pos hx,if_neg (show¬0<=d u by omega)]at this;unfold Fj;omega
theorem zjm{d:Nat->Int}(h:0<=d u)(hx:0<=x):Fj n (qb d u x)=Fj n d:=by
 unfold Fj;refine ek n λt _=>?_;by_cases e:t=u
 ·subst e;rw[Cg,if_pos hx,if_pos h]
 ·rw[vz e]
def Ll(n:Nat)(d:Nat->Int):Prop:=∀t,d t<=84*(Fj n d:Int)-84\/d t<0
theorem yqk{goal:Nat}(hg:goal<n){d:Nat->Int}(hd:∀u,d u=if u=goal then 0 else -1):Ll n d:=by
 intro t;have h1:1<=Fj n d:=by
  have:=Se (f:=λt=>if 0<=d t then 1 else 0) (g:=λt=>if t=goal then 0 else if 0<=d t then 1 else 0) n hg (λt _ hne=>by rw[if_neg hne]);have h0:(if 0<=d goal then 1 else 0)=1:=by rw[hd,if_pos rfl];rfl
  simp only[if_true,h0]at this;unfold Fj;omega
 rw[hd];split
 ·left;omega
 ·right;omega
theorem zfb{d:Nat->Int}(h:Ll n d){c:Int}(hu:u<n)(ht:0<=d t)(hc:0<c/\c<=84)(hl:d u<0\/d t+c<d u):Ll n (qb d u (d t+c)):=by
 have hdt:=h t;by_cases hn:d u<0
 ·have e:=zjn (n:=n) hu hn (show 0<=d t+c by omega);intro v;rw[e];by_cases ev:v=u
  ·subst ev;rw[Cg];omega
  ·rw[vz ev];have:=h v;omega
 ·have e:=zjm (n:=n) (d:=d) (u:=u) θ (show 0<=d t+c by omega);intro v;rw[e];by_cases ev:v=u
  ·subst ev;rw[Cg];have:=h v;omega
  ·rw[vz ev];exact h v
theorem nk{d:Nat->Int}(h:Ll n d)(t:Nat):d t<=84*(n:Int):=by have:=h t;have:=zjo n d;omega
def Fl(n:Nat)(dn:Nat->Bool):Nat:=Aq n λt=>if dn t then 0 else 1
theorem yh1{dn:Nat->Bool}(ht:t<n)(h:dn t=false):Fl n (qb dn t true)+1=Fl n dn:=by have:=Se (f:=λv=>if qb dn t true v=true then 0 else 1) (g:=λv=>if dn v=true then 0 else 1) n ht (λv _ hne=>by simp only[vz hne]);simp only[Cg,h,if_true,Fah,if_false]at this;unfold Fl;omega
end
section
variable {i n k:Nat}
theorem ygh{l:List (Int×Int)}(h:wy l)(x:Int×Int):UpF (qat (l++[x])) (l++[x]).length l.length:=by
 have h2:Lq (qat (l++[x])) l.length:=λj h0 hj=>by rw[zau l x j hj,zau l x (par j) (by have:=Df h0;omega)];exact h j h0 hj
 have:=zim h2;simpa using this
theorem yge{l:List (Int×Int)}(h:UpF (qat l) l.length i)(h0:0<i)(hi:i<l.length)(hl:qlt (qat l i) (qat l (par i))):
  UpF (qat (wh l i (par i))) (wh l i (par i)).length (par i)/\(wh l i (par i)).Perm l:=by
 have hp:=Df h0;rw[zat hi θ,L9];exact⟨zil h h0 hi hl,su hi θ⟩
theorem zar{l:List (Int×Int)}(h:UpF (qat l) l.length i)(hi:i=0\/¬qlt (qat l i) (qat l (par i))):wy l:=zin h hi
theorem ygg(l:List (Int×Int))(x:Int×Int):(l++[x]).Perm (x::l):=List.perm_append_singleton x l
theorem ygj{l:List (Int×Int)}(hl:l.length=n+1):l.Perm (qat l 0::(l.set 0 (qat l n)).take n):=by
 obtain⟨a,t,rfl⟩:∃a t,l=a::t:=by
  cases l with
  |nil=>simp at hl
  |cons a t=>exact⟨a,t,rfl⟩
 simp only[Fbd,Nat.add_right_cancel_iff]at hl;have e0:qat (a::t) 0=a:=rfl;rw[e0];refine List.Perm.cons a ?_;cases n with
 |zero=>
  have:t=[]:=Far hl;subst this;simp
 |succ n=>
  have e1:qat (a::t) (n+1)=t[n]'θ:=by rw[Vg χ];rfl
  rw[e1];show t.Perm ((t[n]'θ::t).take (n+1));rw[List.take_succ_cons];have e2:t=t.take n++[t[n]'θ]:=by
   have h1:=Fbs n t;have h2:t.drop n=[t[n]'θ]:=by rw[Fcx θ,List.drop_eq_nil_of_le θ]
   rw[h2]at h1;exact h1.symm
  exact(List.Perm.of_eq e2).trans (List.perm_append_singleton _ _)
theorem ygl{l:List (Int×Int)}(hl:l.length=n+1)(h:wy l):Hx (qat ((l.set 0 (qat l n)).take n)) ((l.set 0 (qat l n)).take n).length 0:=by
 have hlen:((l.set 0 (qat l n)).take n).length=n:=χ;rw[hlen];have h2:Lq (qat l) (n+1):=by rw[<-hl];exact h
 have key:∀j,0<j->j<n->qat ((l.set 0 (qat l n)).take n) j=qat l j:=λj h0 hj=>by unfold qat;simp only[List.getD,Fb5 hj];rw[Fdz θ]
 refine⟨λj h0 hj hp=>?_,λj h0 hj hp h1=>θ⟩;rw[key j h0 hj,key (par j) θ (by have:=Df h0;omega)];exact h2 j h0 θ
theorem ygk{l:List (Int×Int)}(h:wy l):∀e∈l,¬qlt e (qat l 0):=λe he=>by obtain⟨j,hj,rfl⟩:=Faj he;rw[<-Vg hj];exact yma h j hj
theorem ygm{l:List (Int×Int)}(h:Hx (qat l) l.length i)(hc:l.length<=2*i+1):wy l:=
 zet h λj h0 hj hp=>by rcases(O6 h0).1 hp with e|e<;>omega
theorem fz{l:List (Int×Int)}(h:Hx (qat l) l.length i)(hk:∀j,0<j->j<l.length->par j=i->¬qlt (qat l j) (qat l k))(hs:¬qlt (qat l k) (qat l i)):wy l:=
 zet h λj h0 hj hp=>Ve hs (hk j h0 hj hp)
theorem f0{l:List (Int×Int)}(h:Hx (qat l) l.length i)(hk0:0<k)(hk:k<l.length)(hki:par k=i)(hmin:∀j,0<j->j<l.length->par j=i->¬qlt (qat l j) (qat l k))(hl:qlt (qat l k) (qat l i)):
  Hx (qat (wh l i k)) (wh l i k).length k/\(wh l i k).Perm l:=by
 have hp:=Df hk0;rw[zat θ hk,L9];exact⟨ypi h hk0 hk hki hmin hl,su θ hk⟩
theorem ny{f:Nat->Int×Int}(hk:k=2*i+1/\(2*i+2<n->¬qlt (f (2*i+2)) (f (2*i+1)))\/k=2*i+2/\qlt (f (2*i+2)) (f (2*i+1))):∀j,0<j->j<n->par j=i->¬qlt (f j) (f k):=by
 intro j h0 hj hp;rcases(O6 h0).1 hp with e|e
 ·subst e;rcases hk with⟨rfl,_⟩|⟨rfl,h2⟩
  ·exact f8 _
  ·exact Vf h2
 ·subst e;rcases hk with⟨rfl,h1⟩|⟨rfl,h2⟩
  ·exact h1 hj
  ·exact f8 _
end
section
variable {F:Store} {p i b cap:Nat}
def itC(x:Int×Int):List AV:=[int x.1,int x.2]
theorem Ld(x:Int×Int):(itC x).length=2:=rfl
structure QAt(F:Store)(p b cap:Nat)(l:List (Int×Int))(L:List AV):Prop where
 hp:F.obj p=some (.cells [.s (.slice (some ⟨b,0,none⟩) l.length cap)])
 hb:F.obj b=some (.cells ((rws itC l).flatten++L))
 ne:b≠p
 h1:l.length<=cap
 h2:cap*2<=l.length*2+L.length
 h3:cap<=9223372036854775807
def QOf(F:Store)(p:Nat)(l:List (Int×Int)):Prop:=(F.obj p=some (.cells [.s (.slice none 0 0)])/\l=[])\/∃b cap L,QAt F p b cap l L
theorem QOf.rows{l:List (Int×Int)}(h:QOf F p l):∃v,F.obj p=some (.cells [v])/\RowsO 2 itC F v l/\∀b c0,v=.s (.slice (some ⟨b,0,none⟩) l.length c0)->b≠p:=by
 rcases h with⟨h,rfl⟩|⟨b,cap,L,h⟩
 ·exact⟨_,h,.inl ⟨rfl,rfl⟩,λb c0 e=>by simp at e⟩
 ·refine⟨_,h.hp,.inr ⟨b,cap,L,rfl,h.hb,h.h1,h.h2,h.h3⟩,λb' c0 e=>?_⟩;simp only[AV.s.injEq,Value.slice.injEq,Faf,Addr.mk.injEq]at e;exact e.1.1▸h.ne
theorem QOf.pos{l:List (Int×Int)}(h:QOf F p l)(hl:0<l.length):∃b cap L,QAt F p b cap l L:=by
 rcases h with⟨h,rfl⟩|h
 ·exact absurd hl (Nat.lt_irrefl 0)
 ·exact h
theorem yku{l:List (Int×Int)}(hi:i<l.length)(x:Int×Int)(L:List AV):zp ((rws itC l).flatten++L) (0+i*2) (itC x)=(rws itC (l.set i x)).flatten++L:=by have:=th (f:=itC) (k:=2) Ld hi (j:=0) (x':=x) (ys:=itC x) (L:=L) (by show 0+2<=2;omega) (by unfold zp;rw[Ld];rfl);rw[Nat.add_zero]at this;rw[Fbi];exact this
theorem wt{l:List (Int×Int)}{L:List AV}(hi:i<l.length):List.drop (0+i*2) ((rws itC l).flatten++L)=itC (qat l i)++((rws itC (l.drop (i+1))).flatten++L):=by
 have h1:(rws itC (l.take i)).flatten.length=i*2:=by rw[wj Ld,Fam,Nat.min_eq_left θ]
 rw[Fbi,Sr hi,Fao,<-h1,Fdt,Fao,Vg hi]
theorem Hm{l:List (Int×Int)}{L:List AV}(hi:i<l.length)(x:Int×Int):0+i*2+(itC x).length<=((rws itC l).flatten++L).length:=by rw[Fad,wj Ld,Ld];omega
theorem QAt.set{l:List (Int×Int)}{L:List AV}(h:QAt F p b cap l L)(hi:i<l.length)(x:Int×Int):QAt (F.sO b (.cells (zp ((rws itC l).flatten++L) (0+i*2) (itC x)))) p b cap (l.set i x) L:=by rw[yku hi];exact⟨by rw[zg (Ne.symm h.ne),Faz];exact h.hp,zd _ _ _,h.ne,by rw[Faz];exact h.h1,by rw[Faz];exact h.h2,h.h3⟩
theorem QAt.cut{l:List (Int×Int)}{L:List AV}(h:QAt F p b cap l L){n:Nat}(hn:n<=l.length):QAt (F.sO p (.cells [.s (.slice (some ⟨b,0,none⟩) n cap)])) p b cap (l.take n) ((rws itC (l.drop n)).flatten++L):=by
 have e:(rws itC (l.take n)).flatten++((rws itC (l.drop n)).flatten++L)=(rws itC l).flatten++L:=by rw[<-Fao,<-H9,Fbs]
 have hl:(l.take n).length=n:=θs;refine⟨by rw[zd,hl],by rw[zg h.ne,e];exact h.hb,h.ne,by rw[hl];have:=h.h1;omega,?_,h.h3⟩;have:=h.h2;rw[hl,Fad,wj Ld,Fcq];omega
end
section
variable {i:Nat}
def Bo(v:Int)(k:Nat)(t:Nat):Int:=if t<k then v else 0
theorem yfq{n k m:Nat}{v:Int}(hk:m<=k)(hn:k+m<=n):zp (il n (Bo v k)) (0+k*1) ((List.drop (0+0*1) (il n (Bo v k))).take (m*1))=il n (Bo v (k+m)):=by
 have e:(List.drop (0+0*1) (il n (Bo v k))).take (m*1)=List.replicate m (int v):=by
  rw[show 0+0*1=0 from rfl,Fcm,Nat.mul_one];apply Fcs
  ·rw[Fam,xo,Fa5];omega
  ·intro i h1 h2;rw[Fa5]at h2;rw[Fdp,Fdk];simp only[il,Fbw,List.getElem_range];rw[Bo,if_pos θ]
 rw[e];unfold zp;rw[Fa5,show 0+k*1=k by omega];apply Fb8;intro i;by_cases h1:i<k
 ·rw[Fao,Fau (by rw[Fam,xo];omega),Fb5 h1,Fy θ,Fy θ,Bo,Bo,if_pos h1,if_pos θ]
 ·by_cases h2:i<k+m
  ·rw[Fao,Fa0 (by rw[Fam,xo];omega),Fam,xo,Fau (by rw[Fa5];omega),Fb1,if_pos θ,Fy θ,Bo,if_pos h2]
  ·rw[Fa0 (by rw[Fad,Fam,xo,Fa5];omega),Fad,Fam,xo,Fa5,Fcu,show k+m+(i-(min k n+m))=i by omega];by_cases h3:i<n
   ·rw[Fy h3,Fy h3,Bo,Bo,if_neg h1,if_neg h2]
   ·rw[Fby θe,Fby θe]
theorem yly(n:Nat)(v:Int):il n (Bo v n)=il n λ_=>v:=Pk λt ht=>if_pos ht
def Nq(g:Gnd)(t:Nat):AV:=.agg (il 8 (yr g t))
def F7(g:Gnd)(t i:Nat)(j:Nat):Int:=if j<i then yr g t j else 0
theorem yr4(g:Gnd)(t:Nat):il 8 (F7 g t 8)=il 8 (yr g t):=Pk λj hj=>if_pos hj
theorem yr5(g:Gnd)(t:Nat)(hi:i<8):yr g t i=K5 g ((t:Int)%g.W) ((t:Int)/g.W) (dirL.getD i (0,0)):=by unfold yr Gp;rw[Fbk,Faq,Fbk,Fac (show i<dirL.length from hi)];rfl
theorem yr3(g:Gnd)(t:Nat)(v:Int)(hv:v=yr g t i):setI (F7 g t i) i v=F7 g t (i+1):=funext λj=>by
 unfold setI F7;by_cases h:j=i
 ·subst h;rw[if_pos rfl,if_pos θ,hv]
 ·rw[if_neg h];by_cases h2:j<i
  ·rw[if_pos h2,if_pos θ]
  ·rw[if_neg h2,if_neg θ]
def dirC:List AV:=(dirL.map Ka).flatten
theorem ypz(hi:i<8):dirC.drop (i*2)=Ka (dirL.getD i (0,0))++dirC.drop (i*2+2):=by have h:i=0\/i=1\/i=2\/i=3\/i=4\/i=5\/i=6\/i=7:=θ;rcases h with rfl|rfl|rfl|rfl|rfl|rfl|rfl|rfl<;>rfl
theorem ypy(hi:i<8):(-1<=(dirL.getD i (0,0)).1/\(dirL.getD i (0,0)).1<=1)/\-1<=(dirL.getD i (0,0)).2/\(dirL.getD i (0,0)).2<=1:=by have h:i=0\/i=1\/i=2\/i=3\/i=4\/i=5\/i=6\/i=7:=θ;rcases h with rfl|rfl|rfl|rfl|rfl|rfl|rfl|rfl<;>decide
end
def Lv(g:Gnd)(ok:Nat->Bool)(c:Int)(t i:Nat):Nat->Nat->Int->Prop:=λa u k=>a=t/\∃w,i<=w/\w<8/\yr g t w=(u:Int)/\k=qz g ok c t w
theorem na{E:Nat->Nat->Int->Prop}{n goal:Nat}{d:Nat->Int}{dn:Nat->Bool}{q q':List (Int×Int)}{cur:Int}{O:Nat->Nat->Int->Prop}(h:DJ E n goal d dn q cur O)(hp:q.Perm q'):DJ E n goal d dn q' cur O:=
 ⟨h.lab,h.gl,h.pre,h.rel,h.mono,λe he=>h.ent e (hp.mem_iff.2 he),λu hu hn=>hp.mem_iff.1 (h.wait u hu hn)⟩
section
variable {g:Gnd} {ok:Nat->Bool} {c:Int} {n goal:Nat} {d:Nat->Int} {dn:Nat->Bool} {q:List (Int×Int)} {cur:Int}
theorem zh3{t:Nat}(h:DJ (Ce g ok c) n goal d dn q cur (λa _ _=>a=t)):DJ (Ce g ok c) n goal d dn q cur (Lv g ok c t 0):=
 nc h λa u k ha hn hE=>by obtain⟨_,_,w,hw,h1,_,h2,_⟩:=hE;subst ha;exact absurd ⟨rfl,w,Fae _,hw,h1,h2⟩ hn
theorem zh4{t:Nat}(h:DJ (Ce g ok c) n goal d dn q cur (Lv g ok c t 8)):DJ (Ce g ok c) n goal d dn q cur K3:=
 nc h λa u k ha hn hE=>by obtain⟨_,w,h1,h2,_⟩:=ha;omega
theorem cx{t i:Nat}(h:DJ (Ce g ok c) n goal d dn q cur (Lv g ok c t i))(hp:∀u:Nat,yr g t i=u->0<qz g ok c t i->0<=d u/\d u<=d t+qz g ok c t i):DJ (Ce g ok c) n goal d dn q cur (Lv g ok c t (i+1)):=
 nc h λa u k ha hn hE=>by
  obtain⟨rfl,w,h1,h2,h3,rfl⟩:=ha;by_cases hw:w=i
  ·subst hw;exact hp u h3 (W8 _ _ _ hE)
  ·exact absurd ⟨rfl,w,θ,h2,h3,rfl⟩ hn
theorem ypr{O:Nat->Nat->Int->Prop}(h:DJ (Ce g ok c) n goal d dn q cur O)(hgoal:ok goal=true){u:Nat}(hu:0<=d u):ok u=true:=by
 by_cases e:u=goal
 ·rw[e];exact hgoal
 ·obtain⟨t,k,_,_,hE,_⟩:=h.pre u e hu;obtain⟨_,_,_,_,_,h1,_⟩:=hE;exact h1
end
def lj:Option (Int×Int)->Int
 |none=>0
 |some x=>x.1
def Ry:Option (Int×Int)->Int
 |none=>0
 |some x=>x.2
def xa(S:Store)(b b2 n:Nat)(d:Nat->Int)(dn:Nat->Bool):Store:=(S.sO b (.cells (il n d))).sO b2 (.cells (bl n dn))
section
variable {S:Store} {b b2 n:Nat}
theorem zdz(hb:b≠b2)(d:Nat->Int)(dn:Nat->Bool):(xa S b b2 n d dn).obj b=some (.cells (il n d)):=by unfold xa;rw[zg hb,zd]
theorem yn5(d:Nat->Int)(dn:Nat->Bool):(xa S b b2 n d dn).obj b2=some (.cells (bl n dn)):=zd _ _ _
theorem yn4{i:Nat}{x:AObj}(hf:Fresh S b)(hf2:Fresh (S.sO b x) b2){y:AObj}(h:S.obj i=some y)(d:Nat->Int)(dn:Nat->Bool):(xa S b b2 n d dn).obj i=some y:=by
 have h1:i≠b:=λe=>by rw[e,hf.1]at h;cases h
 have h2:i≠b2:=λe=>by have:=hf2.1;rw[<-e,zg h1,h]at this;cases this
 unfold xa;rw[zg h2,zg h1];exact h
theorem zdy(hb:b≠b2)(d d':Nat->Int)(dn:Nat->Bool):(xa S b b2 n d dn).sO b (.cells (il n d'))=xa S b b2 n d' dn:=by unfold xa;rw[Ge hb,ym]
theorem yn3(d:Nat->Int)(dn dn':Nat->Bool):(xa S b b2 n d dn).sO b2 (.cells (bl n dn'))=xa S b b2 n d dn':=ym _ _ _ _
theorem fld_has{d:Nat->Int}{dn:Nat->Bool}{i:Nat}:(xa S b b2 n d dn).has i↔i=b2\/i=b\/S.has i:=by unfold xa;rw[has_setObj_iff,has_setObj_iff]
theorem yn6{F:Store}{d d':Nat->Int}{dn dn':Nat->Bool}(h:zh F (xa S b b2 n d dn)):zh F (xa S b b2 n d' dn'):=λi h1 h2=>h i h1 (fld_has.2 (fld_has.1 h2))
theorem yn7(hf:Fresh S b){x:AObj}(hf2:Fresh (S.sO b x) b2){F:Store}(hb:b≠b2){d:Nat->Int}{dn:Nat->Bool}:(F.un (xa S b b2 n d dn)).Has (S.sO b (.cells (il n d))):=by
 have hn:(S.sO b (.cells (il n d))).obj b2=none:=by have:=hf2.1;rw[zg (Ne.symm hb)]at this⊢;exact this
 exact⟨λi y hi=>zf ((C0 hn).obj i y hi),λi y hi=>Ha hi⟩
end
theorem Wj(n:Nat)(d:Nat->Int)(u:Nat)(v:Int)(hu:u<n):zp (il n d) (0+u*1) [int v]=il n (qb d u v):=by rw[show 0+u*1=u by omega,Iv hu];rfl
theorem yrz(n:Nat)(d:Nat->Bool)(u:Nat)(v:Bool)(hu:u<n):zp (bl n d) (0+u*1) [bool v]=bl n (qb d u v):=by rw[show 0+u*1=u by omega];have:=Ht (f:=d) hu (qb d u v) (λs hs=>vz hs);rw[Cg]at this;exact this
theorem Wl{n:Nat}{f:Nat->Int}{t:Nat}(h:t<n):((il n f).drop (t*1)).head?=some (int (f t)):=by
 have:=Cz (f:=f) h
 rwa [Fbi]at this
theorem yh2(n:Nat)(dn:Nat->Bool):Fl n dn<=n:=by have:=eh (f:=λt=>if dn t=true then 0 else 1) (g:=λ_=>1) n (λt _=>by split<;>omega);rw[ei]at this;unfold Fl;omega
def Hn(g:Gnd)(ok:Nat->Bool)(c:Int)(d:Nat->Int)(t w:Nat):Prop:=0<qz g ok c t w/\0<=d (yr g t w).toNat/\qz g ok c t w+d (yr g t w).toNat=d t
theorem yog{p:Nat->Bool}{n j:Nat}(hj:j<n)(hp:p j=true)(hn:∀w,w<j->p w=false):(List.range n).find? p=some j:=by rw[List.find?_range_eq_some];exact⟨hp,Fbe.2 hj,λw hw=>by rw[hn w hw];rfl⟩
theorem yof{p:Nat->Bool}{n:Nat}(hn:∀w,w<n->p w=false):(List.range n).find? p=none:=by rw[List.find?_eq_none];intro w hw;rw[hn w (Fbe.1 hw)];decide
section
variable {g:Gnd} {ok:Nat->Bool} {c:Int} {d:Nat->Int} {t:Nat}
theorem zh7(h:d t<=0):jl g ok c d t=-1:=by unfold jl;rw[if_pos h]
theorem zh5(h:¬d t<=0){j:Nat}(hj:j<8)(hp:Hn g ok c d t j)(hn:∀w,w<j->¬Hn g ok c d t w):jl g ok c d t=(j:Int):=by unfold jl;rw[if_neg h,yog hj (by exact decide_eq_true hp) (λw hw=>by exact decide_eq_false (hn w hw))]
theorem zh6(h:¬d t<=0)(hn:∀w,w<8->¬Hn g ok c d t w):jl g ok c d t=-1:=by unfold jl;rw[if_neg h,yof (λw hw=>by exact decide_eq_false (hn w hw))]
end
theorem zh8(g:Gnd)(ok:Nat->Bool)(c:Int)(d:Nat->Int)(t:Nat):jl g ok c d t=-1\/∃j:Nat,j<8/\jl g ok c d t=(j:Int)/\Hn g ok c d t j:=by
 unfold jl;split
 ·exact .inl rfl
 ·cases h:(List.range 8).find? λway=>decide (0<qz g ok c t way/\0<=d (yr g t way).toNat/\qz g ok c t way+d (yr g t way).toNat=d t)with
  |none=>exact .inl rfl
  |some j=>
   have h1:=Fd7 h;have h2:=List.find?_some h;exact .inr ⟨j,Fbe.1 h1,rfl,by simp only[decide_eq_true_eq]at h2;exact h2⟩
noncomputable def Bn(g:Gnd)(ok:Nat->Bool)(c:Int)(d:Nat->Int)(i t:Nat):Int:=if t<i then jl g ok c d t else -1
theorem p5{g:Gnd}{ok:Nat->Bool}{c:Int}{d:Nat->Int}{i:Nat}:Bn g ok c d (i+1)=qb (Bn g ok c d i) i (jl g ok c d i):=funext λt=>by
 unfold Bn qb;dsimp only;by_cases h:t=i
 ·subst h;rw[if_pos θ,if_pos rfl]
 ·rw[if_neg h];by_cases h2:t<i
  ·rw[if_pos h2,if_pos θ]
  ·rw[if_neg h2,if_neg θ]
theorem p4{g:Gnd}{ok:Nat->Bool}{c:Int}{d:Nat->Int}{i:Nat}(h:jl g ok c d i=-1):Bn g ok c d (i+1)=Bn g ok c d i:=by
 rw[p5,h]
 funext t
 unfold qb Bn;by_cases h:t=i
 ·subst h;rw[if_pos rfl,if_neg θ]
 ·rw[if_neg h]
theorem zh1(g:Gnd)(ok:Nat->Bool)(c:Int)(d:Nat->Int):Bn g ok c d 0=λ_=>-1:=funext λt=>if_neg (Fa3 t)
theorem zh2(g:Gnd)(ok:Nat->Bool)(c:Int)(d:Nat->Int)(n:Nat):il n (Bn g ok c d n)=il n (jl g ok c d):=Pk λt ht=>if_pos ht
def wd(S:Store)(b b2 n:Nat)(d f:Nat->Int):Store:=(S.sO b (.cells (il n d))).sO b2 (.cells (il n f))
section
variable {S:Store} {b b2 n:Nat}
theorem zja(hb:b≠b2)(d f:Nat->Int):(wd S b b2 n d f).obj b=some (.cells (il n d)):=by unfold wd;rw[zg hb,zd]
theorem zi9(d f:Nat->Int):(wd S b b2 n d f).obj b2=some (.cells (il n f)):=zd _ _ _
theorem zi7{i:Nat}{x:AObj}(hf:Fresh S b)(hf2:Fresh (S.sO b x) b2){y:AObj}(h:S.obj i=some y)(d f:Nat->Int):(wd S b b2 n d f).obj i=some y:=by
 have h1:i≠b:=λe=>by rw[e,hf.1]at h;cases h
 have h2:i≠b2:=λe=>by have:=hf2.1;rw[<-e,zg h1,h]at this;cases this
 unfold wd;rw[zg h2,zg h1];exact h
theorem zi6(d f f':Nat->Int):(wd S b b2 n d f).sO b2 (.cells (il n f'))=wd S b b2 n d f':=ym _ _ _ _
theorem zi8{x:AObj}(hb:b≠b2)(hf2:Fresh (S.sO b x) b2):Fresh S b2:=by have:=hf2;unfold Fresh at this⊢;rw[zg (Ne.symm hb)]at this;exact this
theorem zjb(hf:Fresh S b)(hb:b≠b2)(d f:Nat->Int):(wd S b b2 n d f).Has (S.sO b2 (.cells (il n f))):=by unfold wd;rw[Ge (Ne.symm hb)];refine C0 ?_;rw[zg hb];exact hf.1
end
theorem yiv(g:Gnd)(t:Nat):Gp g t=(List.range 8).map (yr g t):=by
 apply Fcs
 ·rw[Vz,Fap,Fdo]
 ·intro i h1 h2;rw[Vz]at h1;simp only[Fbw,List.getElem_range];unfold yr;rw[Fbk,Fac (by rw[Vz];exact h1)];rfl
theorem yix(g:Gnd)(t:Nat)(x:Int):(Gp g t).contains x=(List.range 8).any λj=>yr g t j==x:=by
 rw[yiv,List.contains_eq_any_beq,List.any_map]
 congr 1
 funext j
 show(x==yr g t j)=_;rw[Fbu,beq_iff_eq,beq_iff_eq];exact eq_comm
theorem ysr{p:Nat->Bool}{n k:Nat}(hk:k<n)(hp:p k=true):(List.range n).any p=true:=List.any_eq_true.2 ⟨k,Fbe.2 hk,hp⟩
theorem ysq{p:Nat->Bool}{n:Nat}(hp:∀k,k<n->p k=false):(List.range n).any p=false:=by rw[Fdq];intro k hk;rw[hp k (Fbe.1 hk)];decide
end Go.V
