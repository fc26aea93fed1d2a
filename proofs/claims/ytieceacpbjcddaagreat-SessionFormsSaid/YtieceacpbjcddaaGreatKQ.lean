/- Ground of laws of thronglaw30: contracts and plain lemmas; no condition beyond the row's own. -/
import Derived.Test.YtieceacpbjcddaaGreatKO
set_option linter.unusedSimpArgs false
set_option linter.unusedVariables false
set_option linter.defProp false
namespace Go.V
theorem ACalls.frozenLe{P:Program}{f:FuncId}{xs:List AV}{st0:Store}{Q:Ja}{R:Ja}(h:ACalls P f xs st0 Q)
  (hQ:∀r S,Q r S->∃r2 S2,R r2 S2/\(∀b x,S2.obj b=some x->S.obj b≠none)/\(∀b x,S2.tok b≠some x)∧
   ∀(Oth M:Nat->Nat->Prop) (w:World),StoreOK S Oth M w->(∀b x,S2.obj b=some x->ObjRel w (λb o=>(M b o\/Oth b o)/\(S.obj b=none\/S2.obj b≠none)) x b)∧
    ∀v,VRel w (λb o=>M b o\/Oth b o) r v->VRel w (λb o=>(M b o\/Oth b o)/\(S.obj b=none\/S2.obj b≠none)) r2 v):
  ACalls P f xs st0 R:=by
 refine⟨λOth M w vs sto hr=>?_⟩
 have h1:=h.out Oth M w vs sto hr
 have key:∀v w',qh st0 Q Oth M w v w'->qh st0 R Oth M w v w':=by
  rintro v w' ⟨r,S,M',hq,hv,hs,hc⟩
  obtain⟨r2,S2,hr2,hsub,htok,hk⟩:=hQ r S hq
  obtain⟨hk1,hk2⟩:=hk Oth M' w' hs
  have hT:∀b o,((M' b o/\(S.obj b=none\/S2.obj b≠none))\/Oth b o)->((M' b o\/Oth b o)/\(S.obj b=none\/S2.obj b≠none)):=λb o h=>by
   rcases h with⟨h1,h2⟩|h1
   ·exact⟨.inl h1,h2⟩
   ·refine⟨.inr h1,?_⟩
    cases hb:S.obj b with
    |none=>exact .inl rfl
    |some y=>exact absurd ((hs.obj b y hb).2 o) (hs.dis b o h1)
  refine⟨r2,S2,λb o=>M' b o/\(S.obj b=none\/S2.obj b≠none),hr2,(hk2 v hv).mono hT,?_,?_⟩
  ·refine{obj:=λb x hx=>⟨(hk1 b x hx).mono hT,λo=>⟨?_,.inr (by rw[hx];simp)⟩⟩,tok:=λb x hx=>absurd hx (htok b x),mlt:=λb o hm=>hs.mlt b o hm.1,olt:=hs.olt,dis:=λb o ho hm=>hs.dis b o ho hm.1}
   cases hb:S.obj b with
   |none=>grind
   |some y=>exact(hs.obj b y hb).2 o
  ·exact{size:=hc.size,keep:=hc.keep,blk:=hc.blk,shp:=hc.shp,sub:=λb o hm hb=>hc.sub b o hm.1 hb,tape:=hc.tape,os:=hc.os,output:=hc.output}
 generalize(callFunc f vs).run P w=res at h1
 cases res with
 |ok n w'=>
  cases n with
  |enter g args=>exact Calls.mono h1 λe w'' ⟨v,he,hv⟩=>⟨v,he,key _ _ hv⟩
  |value v=>exact key _ _ h1
  |_=>exact h1
 |_=>exact h1
theorem zqe{st:Store}{p b:Nat}{x y:AObj}(h:(st.sO p x).obj b=some y):(b=p/\y=x)\/(b≠p/\st.obj b=some y):=by
 by_cases e:b=p
 ·simp_all[zc]
 grind[zf]
theorem VRel.tup2{w:World}{T T':Nat->Nat->Prop}{a b a' b':AV}{v:Value}(h:VRel w T (.tup [a,b]) v)(ha:∀x,VRel w T a x->VRel w T' a' x)(hb:∀x,VRel w T b x->VRel w T' b' x):VRel w T' (.tup [a',b']) v:=by
 cases h with
 |tup _ c hl hc=>
  refine .tup _ c hl λi x y hx hy=>?_
  grind
theorem yc5{W:World}{T T':Nat->Nat->Prop}{l l' r:List AV}{b:Nat}(hl:l.length=l'.length)(h:∀x,VRel W T (.agg l) x->VRel W T' (.agg l') x)(hr:∀y∈r,O6 y)(hc:CellsRel W T (l++r) b):CellsRel W T' (l'++r) b:=by
 obtain⟨c,e,fr,h1,h2,h3,h4⟩:=hc
 rw[Fad]at h3
 have hx:=h (.agg (c.extract 0 l.length)) (.agg _ _ (by simp;omega) λi x y hx hy=>by
  have hi:=(Faq.1 hx).1
  refine h4 i x y (by rw[Far hi];exact hx) ?_
  rw[Array.getElem?_extract]at hy
  split at hy
  ·simpa using hy
  ·cases hy)
 cases hx with
 |agg _ _ hl2 hc2=>
  refine⟨c,e,fr,h1,h2,by rw[Fad];omega,λi x y hx hy=>?_⟩
  by_cases hi:i<l'.length
  ·rw[Far hi]at hx
   refine hc2 i x y hx ?_
   rw[Array.getElem?_extract,if_pos (by omega)]
   simpa using hy
  ·rw[Fax (by omega)]at hx
   refine hr x (Fa2 hx) _ _ _ _ _ (h4 i x y ?_ hy)
   rw[Fax (by omega),hl]
   exact hx
theorem RowsQ.has{α:Type}{k:Nat}{f:α->List AV}{S:Store}{v:AV}{l:List α}(h:RowsQ k f S v l){b n c:Nat}(hv:v=.s (.slice (some ⟨b,0,none⟩) n c))(hc:0<c):S.has b:=by
 rcases h with(⟨rfl,_⟩|⟨b',cap,L,rfl,ho,_⟩)|⟨a,_,rfl,_⟩
 ·cases hv
 ·cases hv;exact k9 ho
 ·cases hv;omega
def Store.objs0(S:Store):Store:=⟨S.obj,λ_=>none⟩
theorem ACalls.frozenEng{P:Program}{f:FuncId}{xs:List AV}{st0:Store}{Q:Ja}{R:Ja}(h:ACalls P f xs st0 Q)
  (hQ:∀r S,Q r S->(∃S2:Store,R r S2/\(∀b x,S2.obj b=some x->S.obj b=some x)/\∀b,S2.tok b=none)\/∃r2 X N eb raw plain p,zg X N/\¬X.has eb/\¬N.has eb/\S=(X.un N).sO eb (.cells (raw++[.s p]))/\raw.length=plain.length/\R r2 (N.objs0.sO eb (.cells (plain++[.s p])))∧
   ∀(Oth M:Nat->Nat->Prop) (W:World),StoreOK X Oth M W->(∀x,VRel W (λb o=>M b o\/Oth b o) (.agg raw) x->VRel W (λb o=>(M b o\/Oth b o)/\X.obj b=none) (.agg plain) x)∧
    ∀x,VRel W (λb o=>M b o\/Oth b o) r x->VRel W (λb o=>(M b o\/Oth b o)/\X.obj b=none) r2 x):ACalls P f xs st0 R:=by
 refine h.frozenLe ?_
 intro r S hq
 rcases hQ r S hq with⟨S2,hR,h2,h3⟩|⟨r2,X,N,eb,raw,plain,p,hd,hx,hn,rfl,hl,hR,hb⟩
 ·exact⟨r,S2,hR,λb x hx=>(by rw[h2 b x hx];simp),λb x hx=>(by rw[h3 b]at hx;cases hx),λOth M w sto=>⟨λb x hx=>(sto.obj b x (h2 b x hx)).1.mono λb o h=>h.1,λv hv=>hv.mono λb o h=>h.1⟩⟩
 have hS2:∀b x,(N.objs0.sO eb (.cells (plain++[.s p]))).obj b=some x->(b=eb/\x=.cells (plain++[.s p]))\/(b≠eb/\N.obj b=some x):=λb x hx=>zqe hx
 refine⟨r2,_,hR,λb x hx=>?_,λb x hx=>(by cases hx),λOth M w sto=>?_⟩
 ·rcases hS2 b x hx with⟨rfl,rfl⟩|⟨h1,h2⟩
  ·rw[zc];simp
  ·rw[zf h1,zd h2];simp
 have sX:StoreOK X Oth M w:=sto.weaken ⟨λb y hy=>by
  have e:b≠eb:=λe=>hx (by rw[<-e];exact k9 hy)
  rw[zf e];exact yr hd hy,λb y hy=>Ki hd hy⟩
 obtain⟨k1,k2⟩:=hb Oth M w sX
 have hT:∀b o,((M b o\/Oth b o)/\(((X.un N).sO eb (.cells (raw++[.s p]))).obj b=none\/(N.objs0.sO eb (.cells (plain++[.s p]))).obj b≠none))->(M b o\/Oth b o)/\X.obj b=none:=λb o ⟨h1,h2⟩=>by
  refine⟨h1,?_⟩
  by_cases e:b=eb
  ·subst e;exact(kz hx).1
  ·rw[zf e,zf e]at h2
   cases hxb:X.obj b with
   |none=>rfl
   |some y=>
    rcases h2 with h2|h2
    ·rw[yr hd hxb]at h2;cases h2
    ·exact absurd (kz (hd b (k9 hxb))).1 h2
 refine⟨λb x hx2=>?_,λv hv=>(k2 v hv).mono hT⟩
 rcases hS2 b x hx2 with⟨rfl,rfl⟩|⟨h1,h2⟩
 ·have ho:=(sto.obj b _ (zc _ _ _)).1
  have:=yc5 hl k1 (λy hy=>by rw[Fbx.1 hy];exact yaq p) ho
  exact ObjRel.mono hT (show ObjRel w (λb o=>(M b o\/Oth b o)/\X.obj b=none) (.cells (plain++[.s p])) b from this)
 ·exact(sto.obj b x (by rw[zf h1];exact zd h2)).1.mono λb o h=>h.1
section
variable {P:Program} {c:Cfg} {w:World} {st:Store} {Oth M:Nat->Nat->Prop}
theorem yex{o:Oper}{t:TypeId}{x:Operand}(ho:o.op=.makeInterface t x){d:TypeDesc}(hd:yh P c.I->P.underlying t=some d)(hn:∀m,d≠.interface m){y:AV}{u:Value}
    (hy:∀(w:World) (T:Nat->Nat->Prop) (v:Value),VRel w T y v->v=u) {R:Ja} (h:R (.s (.iface t u)) st):AEff P c o [y] st R:=by
  refine⟨λOth M w ρ hI sto hr=>?_⟩
  rw[ho]at hr
  have hr:Reads w (λb o=>M b o\/Oth b o) [y] [ρ x]:=by simpa [Op.operands]using hr
  obtain⟨v,he,h1⟩:=K1 hr
  simp only[Fb8,and_true]at he
  rw[<-he]at h1
  have h1:=hy _ _ _ h1
  have hund:=z8 (P:=P) (hd hI)
  have hrun:(execOp ρ o).run P w=.ok (.value (.iface t u)) w:=by
    simp only[execOp,ho,Instr.makeInterface,Sem.run_bind,hund,Result.andThen_ok,h1]
    cases d<;>simp at hn⊢
  rw[hrun]
  exact⟨_,_,_,h,.s _,sto,Chg.refl M w⟩
theorem yew{o:Oper}{t:TypeId}{x:Operand}(ho:o.op=.makeInterface t x){it:TI}{e:TypeId}(hit:c.I t=some it)(hty:it.ty=.ptr e){u:Value}{R:Ja}(h:R (.s (.iface t u)) st):AEff P c o [.s u] st R:=
  yex ho (λhI=>Mt (hI _ _ hit) hty) (λm h=>by cases h) (λw T v hv=>VRel.eq_s hv) h
end
section
variable {P:Program} {v:Value} {x:AV}
theorem zs7{t:TypeId}{inf:TypeInfo}(h:P.info? t=some inf)(w:World):(typeInfo t).run P w=.ok inf w:=by
  simp[typeInfo,run_program,h]
theorem Meets.ptr{t:TypeId}{m:String}{g:FuncId}{inf:TypeInfo}{row:Method}{e:TypeId}(hi:P.info? t=some inf)(hf:inf.methods.find? (·.name==m)=some row)(hp:row.path=#[])
    (hr:row.func=some (g,true)) (hu:P.underlying t=some (.pointer e)) (hx:∀w T,VRel w T x v):Meets P t v m g x:=by
  refine⟨v,λw=>?_,hx⟩
  have hdep:P.types.size+Made.depth=(P.types.size+99)+1:=rfl
  rw[hdep]
  generalize P.types.size+99=n
  have e:row.path.toList=[]:=by rw[hp]
  unfold method
  rw[Sem.run_bind,zs7 hi,Result.andThen_ok,hf]
  dsimp only
  rw[e]
  unfold follow
  rw[Sem.run_bind,Sem.run_pure,Result.andThen_ok]
  dsimp only
  rw[hr]
  dsimp only
  unfold receiverAt
  simp[z8 hu,Place.get]
def Ld(P:Program)(t:TypeId)(m:String)(g:FuncId)(ptr:Bool):Bool:=
  match P.info? t,P.underlying t with
  | some inf,some d=>(match inf.methods.find? (·.name==m)with
    |some row=>row.path.isEmpty&&(match row.func with|some (f,b)=>Nat.beq f g&&(b==ptr)|none=>false)
    |none=>false)&&(match d with|.pointer _=>ptr|_=> !ptr)
  |_,_=>false
theorem zwy{t:TypeId}{m:String}{g:FuncId}{ptr:Bool}(h:Ld P t m g ptr=true):∃inf row d,P.info? t=some inf/\inf.methods.find? (·.name==m)=some row/\row.path=#[]/\row.func=some (g,ptr)/\P.underlying t=some d/\(match d with|.pointer _=>ptr|_=> !ptr)=true:=by
  unfold Ld at h
  split at h
  · rename_i inf d h1 h2
    rw[Fau]at h
    obtain⟨h3,h4⟩:=h
    split at h3
    · rename_i row h5
      rw[Fau]at h3
      obtain⟨h6,h7⟩:=h3
      split at h7
      · rename_i f b h8
        rw[Fau]at h7
        obtain⟨h9,h10⟩:=h7
        have e1:f=g:=Nat.eq_of_beq_eq_true h9
        have e2:b=ptr:=eq_of_beq h10
        subst e1 e2
        exact⟨inf,row,d,h1,h5,Array.isEmpty_iff.1 h6,h8,h2,h4⟩
      · cases h7
    · cases h3
  · cases h
theorem Meets.ptrB{t:TypeId}{m:String}{g:FuncId}(h:Ld P t m g true=true)(hx:∀w T,VRel w T x v):Meets P t v m g x:=by
  obtain⟨inf,row,d,h1,h2,h3,h4,h5,h6⟩:=zwy h
  cases d with
  |pointer e=>exact Meets.ptr h1 h2 h3 h4 h5 hx
  |_=>cases h6
end
def vo(v:Vc):Prop:=(-1099511627776<=v.1/\v.1<=1099511627776)/\(-1099511627776<=v.2/\v.2<=1099511627776)
theorem Gi{v:Vc}(h:vo v):kx v:=by unfold vo at h;unfold kx;omega
theorem zbp{v:Vc}(h:vo v):v.ok:=by
 unfold vo at h
 exact⟨⟨by omega,by omega⟩,⟨by omega,by omega⟩⟩
theorem Mo{p q:Vc}(hp:qp p)(hq:qp q):vo (qo q p):=by
 rw[(Rk hp hq).1]
 unfold qp at hp hq
 unfold vo
 dsimp only
 omega
theorem zyt{w:Wld}{u:Unt}(hu:qp u.pos)(h:∀x∈w.U,x.inn=0->qp x.pos)(hl:w.U.length<=4096):vo (Fz w u):=by
 have key:∀(l:List Unt) (v:Vc) (B:Nat),(∀x∈l,x.inn=0->qp x.pos)->B+l.length<=4096->(v.1.natAbs<=B*16777216/\v.2.natAbs<=B*16777216)->
   vo (l.foldl (λv x=>if x.inn=0/\x.id≠u.id then xp v (ky u.pos (zq u.kind+zq x.kind+16384) x.pos)else v) v):=by
  intro l
  induction l with
  |nil=>
   intro v B _ hB hv
   unfold vo
   simp only[Fcr]at hB
   simp only[List.foldl_nil]
   omega
  |cons x l ih=>
   intro v B hx hB hv
   simp only[Fbd]at hB
   rw[Fch]
   refine ih _ (B+1) (λy hy=>hx y (Fav _ hy)) (by omega) ?_
   split
   ·rename_i hc
    have r1:=K4 u.kind
    have r2:=K4 x.kind
    have:=S0 hu (hx x Fa6 hc.1) (r:=zq u.kind+zq x.kind+16384) (by omega)
    generalize ky u.pos (zq u.kind+zq x.kind+16384) x.pos=z at*
    have e:xp v z=(v.1+z.1,v.2+z.2):=by
     unfold xp
     rw[Lx (by omega) (by omega),Lx (by omega) (by omega)]
    rw[e]
    dsimp only
    omega
   ·exact⟨Fcj hv.1 (Fa5 _ (Fc6 B)),Fcj hv.2 (Fa5 _ (Fc6 B))⟩
 unfold Fz
 refine key w.U (0,0) 0 h (by omega) ⟨?_,?_⟩
 ·show(0:Int).natAbs<=_;simp
 ·show(0:Int).natAbs<=_;simp
section
variable {u:Unt} {w:Wld} {n k:Nat}
theorem p7:∀{a b:List Unt},(a.map (·.id)).Pairwise (·<·)->(b.map (·.id)).Pairwise (·<·)->(∀u,u∈a↔u∈b)->a=b
 |[],[],_,_,_=>rfl
 |[],y::b,_,_,h=>absurd ((h y).2 Fa6) (by simp)
 |x::a,[],_,_,h=>absurd ((h x).1 Fa6) (by simp)
 |x::a,y::b,ha,hb,h=>by
  rw[Fb0,Fcd]at ha hb
  have hx:=(h x).1 Fa6
  have hy:=(h y).2 Fa6
  have e:x=y:=by
   rcases Fa0.1 hx with e|hx
   ·exact e
   ·rcases Fa0.1 hy with e|hy
    ·exact e.symm
    ·have h1:=hb.1 _ (Fae.2 ⟨x,hx,rfl⟩)
     have h2:=ha.1 _ (Fae.2 ⟨y,hy,rfl⟩)
     omega
  subst e
  refine congrArg _ (p7 ha.2 hb.2 λu=>⟨λhu=>?_,λhu=>?_⟩)
  ·rcases Fa0.1 ((h u).1 (Fav _ hu))with e|e
   ·have:=ha.1 _ (Fae.2 ⟨u,hu,rfl⟩)
    rw[e]at this
    omega
   ·exact e
  ·rcases Fa0.1 ((h u).2 (Fav _ hu))with e|e
   ·have:=hb.1 _ (Fae.2 ⟨u,hu,rfl⟩)
    rw[e]at this
    omega
   ·exact e
def nV(v:Vc):Prop:=(-9223372036854775807<=v.1/\v.1<=9223372036854775807)/\(-9223372036854775807<=v.2/\v.2<=9223372036854775807)
theorem ml(a b:Vc):nV (xp a b):=⟨Wu _ _,Wu _ _⟩
theorem Vp{v:Vc}(h:nV v):v.ok:=by
 unfold nV at h
 exact⟨⟨by omega,by omega⟩,⟨by omega,by omega⟩⟩
theorem pz{a:Int}(h:-9223372036854775807<=a/\a<=9223372036854775807):yx a 0=a:=by
 unfold yx
 rw[Cw (by omega),Cw (by omega)]
 unfold ke
 split
 ·omega
 ·split<;>omega
theorem zat{v:Vc}(h:nV v):xp v (0,0)=v:=by
 unfold xp
 rw[pz h.1,pz h.2]
def j7(u:Unt)(v:Vc)(x:Unt):Vc:=if x.id≠u.id then xp v (ky u.pos (zq u.kind+zq x.kind+16384) x.pos)else v
theorem mj{x:Unt}{v:Vc}(h:nV v):nV (j7 u v x):=by
 unfold j7
 split
 ·exact ml _ _
 ·exact h
theorem mh:∀(l:List Unt) {v:Vc},nV v->nV (l.foldl (j7 u) v)
 |[],_,h=>h
 |x::l,_,h=>mh l (mj h)
theorem zus{p q:Vc}{r:Int}(h:near p q r=false):ky p r q=(0,0):=by
 unfold ky
 rw[h]
 simp
theorem Ou(u:Unt)(r:Int)(hr:∀k,zq u.kind+zq k+16384<=r):∀(l:List Unt) (v:Vc),nV v->
  l.foldl (λv x=>if x.inn=0/\x.id≠u.id then xp v (ky u.pos (zq u.kind+zq x.kind+16384) x.pos)else v) v=(l.filter λx=>decide (x.inn=0)&&near u.pos x.pos r).foldl (j7 u) v
 |[],v,_=>rfl
 |x::l,v,h=>by
  rw[Fch,Fcw]
  by_cases h0:x.inn=0
  ·cases hn:near u.pos x.pos r with
   |true=>
    simp only[h0,decide_true,Fdx,if_true,Fch,true_and]
    exact Ou u r hr l _ (mj h)
   |false=>
    have hf:near u.pos x.pos (zq u.kind+zq x.kind+16384)=false:=by
     cases hc:near u.pos x.pos (zq u.kind+zq x.kind+16384)with
     |false=>rfl
     |true=>rw[mf (hr x.kind) hc]at hn;cases hn
    simp only[h0,decide_true,Bool.and_false,Fai,if_false,true_and]
    rw[zus hf,zat h,ite_self]
    exact Ou u r hr l _ h
  ·simp only[h0,decide_false,Bool.false_and,Fai,if_false,false_and]
   exact Ou u r hr l _ h
theorem zys(hr:yi w.U){us:List Unt}(hn:G4 w u.pos (zq u.kind+16384+81920) us)(hs:(us.map (·.id)).Pairwise (·<·)):Fz w u=us.foldl (j7 u) (0,0):=by
 unfold Fz
 rw[Ou u (zq u.kind+16384+81920) (λk=>by have:=(Fv k).2;omega) w.U (0,0) ⟨⟨by decide,by decide⟩,⟨by decide,by decide⟩⟩]
 congr 1
 refine p7 ?_ hs λx=>?_
 ·have:(w.U.map (·.id)).Pairwise (·<·):=by
   rw[Fb5]
   intro i j hi hj hij
   rw[Fa8]at hi hj
   simp only[Fb9]
   exact Kz hr hij hj
  exact this.sublist (List.filter_sublist.map _)
 ·rw[Fbt,hn x,Fau,decide_eq_true_iff]
  constructor
  ·rintro⟨h1,h2,h3⟩;exact⟨⟨h1,h2⟩,h3⟩
  ·rintro⟨⟨h1,h2⟩,h3⟩;exact⟨h1,h2,h3⟩
theorem zy3{v:Vc}(h:nV v)(k:Nat):nV (wy v k):=by
 obtain⟨h1,h2⟩:=h
 have e1:=oj v.1 k
 have e2:=oj v.2 k
 unfold nV wy
 dsimp only
 omega
theorem zan{v:Vc}(h:v.ok):nV (jf v):=by
 obtain⟨h1,h2⟩:=h
 have e1:=Bg h1
 have e2:=Bg h2
 unfold nV jf
 dsimp only
 omega
theorem zbh{v:Vc}(h0:wy v k≠(0,0))(hc:¬xi w u.id u.kind (xp u.pos (wy v k))):ko w u v (n+1) k=ko w u v n (k+1):=by
 show(if _ then _ else if _ then _ else _)=_
 rw[if_neg h0,if_neg hc]
theorem zbf{v:Vc}(h0:wy v k=(0,0)):ko w u v (n+1) k=none:=by
 show(if _ then _ else if _ then _ else _)=_
 rw[if_pos h0]
theorem zbg{v:Vc}(h0:wy v k≠(0,0))(hc:xi w u.id u.kind (xp u.pos (wy v k))):ko w u v (n+1) k=some (k,xp u.pos (wy v k)):=by
 show(if _ then _ else if _ then _ else _)=_
 rw[if_neg h0,if_pos hc]
theorem zp7(hk:k<5):IntKind.i64.wrap (1*2^(min ((k:Int)).toNat IntKind.i64.bits))=((2^k:Nat):Int):=by
 have:k=0\/k=1\/k=2\/k=3\/k=4:=by omega
 rcases this with rfl|rfl|rfl|rfl|rfl<;>decide
end
section
variable {u n t:Nat} {x:Int}
def j6:Nat->(Nat->Nat)->Nat
 |0,_=>0
 |n+1,f=>j6 n f+f n
theorem Sc{f g:Nat->Nat}:∀n,(∀t,t<n->f t=g t)->j6 n f=j6 n g
 |0,_=>rfl
 |n+1,h=>by
  show j6 n f+f n=j6 n g+g n
  rw[Sc n (λt ht=>h t (by omega)),h n (by omega)]
theorem Sa{f g:Nat->Nat}:∀n,(∀t,t<n->f t<=g t)->j6 n f<=j6 n g
 |0,_=>Fah _
 |n+1,h=>by
  show j6 n f+f n<=j6 n g+g n
  have:=Sa n (λt ht=>h t (by omega))
  have:=h n (by omega)
  omega
theorem Sb(c:Nat):∀n,j6 n (λ_=>c)=n*c
 |0=>by simp[j6]
 |n+1=>by
  show j6 n (λ_=>c)+c=_
  rw[Sb c n,Fdd]
theorem M4{f g:Nat->Nat}:∀n,u<n->(∀t,t<n->t≠u->f t=g t)->j6 n f+g u=j6 n g+f u
 |0,hu,_=>by omega
 |n+1,hu,h=>by
  show j6 n f+f n+g u=j6 n g+g n+f u
  by_cases e:u=n
  ·subst e
   rw[Sc u (λt ht=>h t (by omega) (by omega))]
   omega
  ·have:=M4 (f:=f) (g:=g) n (by omega) (λt ht hne=>h t (by omega) hne)
   have:=h n (by omega) (Ne.symm e)
   omega
def Br(n:Nat)(d:Nat->Int):Nat:=j6 n λt=>if 0<=d t then 1 else 0
theorem zbn(n:Nat)(d:Nat->Int):Br n d<=n:=by
 have:=Sa (f:=λt=>if 0<=d t then 1 else 0) (g:=λ_=>1) n (λt _=>by split<;>omega)
 rw[Sb]at this
 unfold Br
 omega
theorem zbm{d:Nat->Int}(hu:u<n)(h:d u<0)(hx:0<=x):Br n (yk d u x)=Br n d+1:=by
 have:=M4 (f:=λt=>if 0<=yk d u x t then 1 else 0) (g:=λt=>if 0<=d t then 1 else 0) n hu (λt _ hne=>by simp only[jg hne])
 simp only[we,if_pos hx,if_neg (show¬0<=d u by omega)]at this
 unfold Br
 omega
theorem zbl{d:Nat->Int}(h:0<=d u)(hx:0<=x):Br n (yk d u x)=Br n d:=by
 unfold Br
 refine Sc n λt _=>?_
 by_cases e:t=u
 ·subst e;rw[we,if_pos hx,if_pos h]
 ·rw[jg e]
def Hj(n:Nat)(d:Nat->Int):Prop:=∀t,d t<=84*(Br n d:Int)-84\/d t<0
theorem yci{goal:Nat}(hg:goal<n){d:Nat->Int}(hd:∀u,d u=if u=goal then 0 else -1):Hj n d:=by
 intro t
 have h1:1<=Br n d:=by
  have:=M4 (f:=λt=>if 0<=d t then 1 else 0) (g:=λt=>if t=goal then 0 else if 0<=d t then 1 else 0) n hg (λt _ hne=>by rw[if_neg hne])
  have h0:(if 0<=d goal then 1 else 0)=1:=by rw[hd,if_pos rfl];rfl
  simp only[if_true,h0]at this
  unfold Br
  omega
 rw[hd]
 split
 ·left;omega
 ·right;omega
theorem rt{d:Nat->Int}(h:Hj n d){c:Int}(hu:u<n)(ht:0<=d t)(hc:0<c/\c<=84)(hl:d u<0\/d t+c<d u):Hj n (yk d u (d t+c)):=by
 have hdt:=h t
 by_cases hn:d u<0
 ·have e:=zbm (n:=n) hu hn (show 0<=d t+c by omega)
  intro v
  rw[e]
  by_cases ev:v=u
  ·subst ev;rw[we];omega
  ·rw[jg ev]
   have:=h v
   omega
 ·have e:=zbl (n:=n) (d:=d) (u:=u) (by omega) (show 0<=d t+c by omega)
  intro v
  rw[e]
  by_cases ev:v=u
  ·subst ev;rw[we]
   have:=h v
   omega
  ·rw[jg ev];exact h v
theorem ba{d:Nat->Int}(h:Hj n d)(t:Nat):d t<=84*(n:Int):=by
 have:=h t
 have:=zbn n d
 omega
def Bu(n:Nat)(dn:Nat->Bool):Nat:=j6 n λt=>if dn t then 0 else 1
theorem zvj{dn:Nat->Bool}(ht:t<n)(h:dn t=false):Bu n (yk dn t true)+1=Bu n dn:=by
 have:=M4 (f:=λv=>if yk dn t true v=true then 0 else 1) (g:=λv=>if dn v=true then 0 else 1) n ht (λv _ hne=>by simp only[jg hne])
 simp only[we,h,if_true,Fai,if_false]at this
 unfold Bu
 omega
end
section
variable {i n k:Nat}
theorem zt8{l:List (Int×Int)}(h:jq l)(x:Int×Int):UpF (qat (l++[x])) (l++[x]).length l.length:=by
 have h2:Hp (qat (l++[x])) l.length:=λj h0 hj=>by
  rw[i6 l x j hj,i6 l x (par j) (by have:=Ad h0;omega)]
  exact h j h0 hj
 have:=zav h2
 simpa using this
theorem zt5{l:List (Int×Int)}(h:UpF (qat l) l.length i)(h0:0<i)(hi:i<l.length)(hl:qlt (qat l i) (qat l (par i))):
  UpF (qat (ji l i (par i))) (ji l i (par i)).length (par i)/\(ji l i (par i)).Perm l:=by
 have hp:=Ad h0
 rw[iz hi (by omega),Hz]
 exact⟨zau h h0 hi hl,ff hi (by omega)⟩
theorem iw{l:List (Int×Int)}(h:UpF (qat l) l.length i)(hi:i=0\/¬qlt (qat l i) (qat l (par i))):jq l:=zaw h hi
theorem zt7(l:List (Int×Int))(x:Int×Int):(l++[x]).Perm (x::l):=List.perm_append_singleton x l
theorem zua{l:List (Int×Int)}(hl:l.length=n+1):l.Perm (qat l 0::(l.set 0 (qat l n)).take n):=by
 obtain⟨a,t,rfl⟩:∃a t,l=a::t:=by
  cases l with
  |nil=>simp at hl
  |cons a t=>exact⟨a,t,rfl⟩
 simp only[Fbd,Nat.add_right_cancel_iff]at hl
 have e0:qat (a::t) 0=a:=rfl
 rw[e0]
 refine List.Perm.cons a ?_
 cases n with
 |zero=>
  have:t=[]:=Fat hl
  subst this
  simp
 |succ n=>
  have e1:qat (a::t) (n+1)=t[n]'(by omega):=by
   rw[Nm (by simp;omega)]
   rfl
  rw[e1]
  show t.Perm ((t[n]'(by omega)::t).take (n+1))
  rw[List.take_succ_cons]
  have e2:t=t.take n++[t[n]'(by omega)]:=by
   have h1:=Fb1 n t
   have h2:t.drop n=[t[n]'(by omega)]:=by
    rw[Fdr (by omega),List.drop_eq_nil_of_le (by omega)]
   rw[h2]at h1
   exact h1.symm
  exact(List.Perm.of_eq e2).trans (List.perm_append_singleton _ _)
theorem zuc{l:List (Int×Int)}(hl:l.length=n+1)(h:jq l):D7 (qat ((l.set 0 (qat l n)).take n)) ((l.set 0 (qat l n)).take n).length 0:=by
 have hlen:((l.set 0 (qat l n)).take n).length=n:=by simp;omega
 rw[hlen]
 have h2:Hp (qat l) (n+1):=by rw[<-hl];exact h
 have key:∀j,0<j->j<n->qat ((l.set 0 (qat l n)).take n) j=qat l j:=λj h0 hj=>by
  unfold qat
  simp only[List.getD,Fbs hj]
  rw[Fdi (by omega)]
 refine⟨λj h0 hj hp=>?_,λj h0 hj hp h1=>by omega⟩
 rw[key j h0 hj,key (par j) (by omega) (by have:=Ad h0;omega)]
 exact h2 j h0 (by omega)
theorem zub{l:List (Int×Int)}(h:jq l):∀e∈l,¬qlt e (qat l 0):=λe he=>by
 obtain⟨j,hj,rfl⟩:=Faj he
 rw[<-Nm hj]
 exact zy0 h j hj
theorem zud{l:List (Int×Int)}(h:D7 (qat l) l.length i)(hc:l.length<=2*i+1):jq l:=
 rc h λj h0 hj hp=>by
  rcases(K8 h0).1 hp with e|e<;>omega
theorem Sv{l:List (Int×Int)}(h:D7 (qat l) l.length i)(hk:∀j,0<j->j<l.length->par j=i->¬qlt (qat l j) (qat l k))(hs:¬qlt (qat l k) (qat l i)):jq l:=
 rc h λj h0 hj hp=>Nk hs (hk j h0 hj hp)
theorem Sw{l:List (Int×Int)}(h:D7 (qat l) l.length i)(hk0:0<k)(hk:k<l.length)(hki:par k=i)(hmin:∀j,0<j->j<l.length->par j=i->¬qlt (qat l j) (qat l k))(hl:qlt (qat l k) (qat l i)):
  D7 (qat (ji l i k)) (ji l i k).length k/\(ji l i k).Perm l:=by
 have hp:=Ad hk0
 rw[iz (by omega) hk,Hz]
 exact⟨ybm h hk0 hk hki hmin hl,ff (by omega) hk⟩
theorem bj{f:Nat->Int×Int}(hk:k=2*i+1/\(2*i+2<n->¬qlt (f (2*i+2)) (f (2*i+1)))\/k=2*i+2/\qlt (f (2*i+2)) (f (2*i+1))):∀j,0<j->j<n->par j=i->¬qlt (f j) (f k):=by
 intro j h0 hj hp
 rcases(K8 h0).1 hp with e|e
 ·subst e
  rcases hk with⟨rfl,_⟩|⟨rfl,h2⟩
  ·exact Sy _
  ·exact Nl h2
 ·subst e
  rcases hk with⟨rfl,h1⟩|⟨rfl,h2⟩
  ·exact h1 hj
  ·exact Sy _
end
section
variable {F:Store} {p i b cap:Nat}
def itC(x:Int×Int):List AV:=[int x.1,int x.2]
theorem Hc(x:Int×Int):(itC x).length=2:=rfl
structure QAt(F:Store)(p b cap:Nat)(l:List (Int×Int))(L:List AV):Prop where
 hp:F.obj p=some (.cells [.s (.slice (some ⟨b,0,none⟩) l.length cap)])
 hb:F.obj b=some (.cells ((rws itC l).flatten++L))
 ne:b≠p
 h1:l.length<=cap
 h2:cap*2<=l.length*2+L.length
 h3:cap<=9223372036854775807
def QOf(F:Store)(p:Nat)(l:List (Int×Int)):Prop:=(F.obj p=some (.cells [.s (.slice none 0 0)])/\l=[])\/∃b cap L,QAt F p b cap l L
theorem QOf.rows{l:List (Int×Int)}(h:QOf F p l):∃v,F.obj p=some (.cells [v])/\RowsO 2 itC F v l/\∀b c0,v=.s (.slice (some ⟨b,0,none⟩) l.length c0)->b≠p:=by
 rcases h with⟨h,rfl⟩|⟨b,cap,L,h⟩
 ·exact⟨_,h,.inl ⟨rfl,rfl⟩,λb c0 e=>by simp at e⟩
 ·refine⟨_,h.hp,.inr ⟨b,cap,L,rfl,h.hb,h.h1,h.h2,h.h3⟩,λb' c0 e=>?_⟩
  simp only[AV.s.injEq,Value.slice.injEq,Fag,Addr.mk.injEq]at e
  exact e.1.1▸h.ne
theorem QOf.pos{l:List (Int×Int)}(h:QOf F p l)(hl:0<l.length):∃b cap L,QAt F p b cap l L:=by
 rcases h with⟨h,rfl⟩|h
 ·exact absurd hl (Nat.lt_irrefl 0)
 ·exact h
theorem zxz{l:List (Int×Int)}(hi:i<l.length)(x:Int×Int)(L:List AV):zt ((rws itC l).flatten++L) (0+i*2) (itC x)=(rws itC (l.set i x)).flatten++L:=by
 have:=fz (f:=itC) (k:=2) Hc hi (j:=0) (x':=x) (ys:=itC x) (L:=L) (by show 0+2<=2;omega) (by
  unfold zt
  rw[Hc]
  rfl)
 rw[Nat.add_zero]at this
 rw[Fbm]
 exact this
theorem jm{l:List (Int×Int)}{L:List AV}(hi:i<l.length):List.drop (0+i*2) ((rws itC l).flatten++L)=itC (qat l i)++((rws itC (l.drop (i+1))).flatten++L):=by
 have h1:(rws itC (l.take i)).flatten.length=i*2:=by rw[Fi Hc,Fal,Nat.min_eq_left (by omega)]
 rw[Fbm,Na hi,Faz,<-h1,List.drop_left,Faz,Nm hi]
theorem Du{l:List (Int×Int)}{L:List AV}(hi:i<l.length)(x:Int×Int):0+i*2+(itC x).length<=((rws itC l).flatten++L).length:=by
 rw[Fad,Fi Hc,Hc]
 omega
theorem QAt.set{l:List (Int×Int)}{L:List AV}(h:QAt F p b cap l L)(hi:i<l.length)(x:Int×Int):QAt (F.sO b (.cells (zt ((rws itC l).flatten++L) (0+i*2) (itC x)))) p b cap (l.set i x) L:=by
 rw[zxz hi]
 exact⟨by rw[zf (Ne.symm h.ne),Faw];exact h.hp,zc _ _ _,h.ne,by rw[Faw];exact h.h1,by rw[Faw];exact h.h2,h.h3⟩
theorem QAt.cut{l:List (Int×Int)}{L:List AV}(h:QAt F p b cap l L){n:Nat}(hn:n<=l.length):QAt (F.sO p (.cells [.s (.slice (some ⟨b,0,none⟩) n cap)])) p b cap (l.take n) ((rws itC (l.drop n)).flatten++L):=by
 have e:(rws itC (l.take n)).flatten++((rws itC (l.drop n)).flatten++L)=(rws itC l).flatten++L:=by
  rw[<-Faz,<-Nb,Fb1]
 have hl:(l.take n).length=n:=by rw[Fal];omega
 refine⟨by rw[zc,hl],by rw[zf h.ne,e];exact h.hb,h.ne,by rw[hl];have:=h.h1;omega,?_,h.h3⟩
 have:=h.h2
 rw[hl,Fad,Fi Hc,List.length_drop]
 omega
end
section
variable {i:Nat}
def vk(v:Int)(k:Nat)(t:Nat):Int:=if t<k then v else 0
theorem zty{n k m:Nat}{v:Int}(hk:m<=k)(hn:k+m<=n):zt (il n (vk v k)) (0+k*1) ((List.drop (0+0*1) (il n (vk v k))).take (m*1))=il n (vk v (k+m)):=by
 have e:(List.drop (0+0*1) (il n (vk v k))).take (m*1)=List.replicate m (int v):=by
  rw[show 0+0*1=0 from rfl,Fdc,Fdw]
  apply Fcn
  ·rw[Fal,qq,Fao];omega
  ·intro i h1 h2
   rw[Fao]at h2
   rw[Fc7,Fbz]
   simp only[il,Fb9,List.getElem_range]
   rw[vk,if_pos (by omega)]
 rw[e]
 unfold zt
 rw[Fao,show 0+k*1=k by omega]
 apply Fbw
 intro i
 by_cases h1:i<k
 ·rw[Faz,Far (by rw[Fal,qq];omega),Fbs h1,Cd (by omega),Cd (by omega),vk,vk,if_pos h1,if_pos (by omega)]
 ·by_cases h2:i<k+m
  ·rw[Faz,Fax (by rw[Fal,qq];omega),Fal,qq,Far (by rw[Fao];omega),Fbq,if_pos (by omega),Cd (by omega),vk,if_pos h2]
  ·rw[Fax (by rw[Fad,Fal,qq,Fao];omega),Fad,Fal,qq,Fao,Fce,show k+m+(i-(min k n+m))=i by omega]
   by_cases h3:i<n
   ·rw[Cd h3,Cd h3,vk,vk,if_neg h1,if_neg h2]
   ·rw[Fbp (by rw[qq];omega),Fbp (by rw[qq];omega)]
theorem zyp(n:Nat)(v:Int):il n (vk v n)=il n λ_=>v:=Ll λt ht=>if_pos ht
def Ka(g:Gnd)(t:Nat):AV:=.agg (il 8 (z7 g t))
def Cj(g:Gnd)(t i:Nat)(j:Nat):Int:=if j<i then z7 g t j else 0
theorem ydw(g:Gnd)(t:Nat):il 8 (Cj g t 8)=il 8 (z7 g t):=Ll λj hj=>if_pos hj
theorem ydx(g:Gnd)(t:Nat)(hi:i<8):z7 g t i=G5 g ((t:Int)%g.W) ((t:Int)/g.W) (dirL.getD i (0,0)):=by
 unfold z7 Cx
 rw[Fbk,Fam,Fbk,Fab (show i<dirL.length from hi)]
 rfl
theorem ydv(g:Gnd)(t:Nat)(v:Int)(hv:v=z7 g t i):setI (Cj g t i) i v=Cj g t (i+1):=funext λj=>by
 unfold setI Cj
 by_cases h:j=i
 ·subst h
  rw[if_pos rfl,if_pos (by omega),hv]
 ·rw[if_neg h]
  by_cases h2:j<i
  ·rw[if_pos h2,if_pos (by omega)]
  ·rw[if_neg h2,if_neg (by omega)]
def dirC:List AV:=(dirL.map Gd).flatten
theorem yb3(hi:i<8):dirC.drop (i*2)=Gd (dirL.getD i (0,0))++dirC.drop (i*2+2):=by
 have h:i=0\/i=1\/i=2\/i=3\/i=4\/i=5\/i=6\/i=7:=by omega
 rcases h with rfl|rfl|rfl|rfl|rfl|rfl|rfl|rfl<;>rfl
theorem yb2(hi:i<8):(-1<=(dirL.getD i (0,0)).1/\(dirL.getD i (0,0)).1<=1)/\-1<=(dirL.getD i (0,0)).2/\(dirL.getD i (0,0)).2<=1:=by
 have h:i=0\/i=1\/i=2\/i=3\/i=4\/i=5\/i=6\/i=7:=by omega
 rcases h with rfl|rfl|rfl|rfl|rfl|rfl|rfl|rfl<;>decide
end
def Ht(g:Gnd)(ok:Nat->Bool)(c:Int)(t i:Nat):Nat->Nat->Int->Prop:=λa u k=>a=t/\∃w,i<=w/\w<8/\z7 g t w=(u:Int)/\k=qi g ok c t w
theorem W3{E:Nat->Nat->Int->Prop}{n goal:Nat}{d:Nat->Int}{dn:Nat->Bool}{q q':List (Int×Int)}{cur:Int}{O:Nat->Nat->Int->Prop}(h:DJ E n goal d dn q cur O)(hp:q.Perm q'):DJ E n goal d dn q' cur O:=
 ⟨h.lab,h.gl,h.pre,h.rel,h.mono,λe he=>h.ent e (hp.mem_iff.2 he),λu hu hn=>hp.mem_iff.1 (h.wait u hu hn)⟩
section
variable {g:Gnd} {ok:Nat->Bool} {c:Int} {n goal:Nat} {d:Nat->Int} {dn:Nat->Bool} {q:List (Int×Int)} {cur:Int}
theorem zab{t:Nat}(h:DJ (vz g ok c) n goal d dn q cur (λa _ _=>a=t)):DJ (vz g ok c) n goal d dn q cur (Ht g ok c t 0):=
 W4 h λa u k ha hn hE=>by
  obtain⟨_,_,w,hw,h1,_,h2,_⟩:=hE
  subst ha
  exact absurd ⟨rfl,w,Faf _,hw,h1,h2⟩ hn
theorem zac{t:Nat}(h:DJ (vz g ok c) n goal d dn q cur (Ht g ok c t 8)):DJ (vz g ok c) n goal d dn q cur G0:=
 W4 h λa u k ha hn hE=>by
  obtain⟨_,w,h1,h2,_⟩:=ha
  omega
theorem Rl{t i:Nat}(h:DJ (vz g ok c) n goal d dn q cur (Ht g ok c t i))(hp:∀u:Nat,z7 g t i=u->0<qi g ok c t i->0<=d u/\d u<=d t+qi g ok c t i):DJ (vz g ok c) n goal d dn q cur (Ht g ok c t (i+1)):=
 W4 h λa u k ha hn hE=>by
  obtain⟨rfl,w,h1,h2,h3,rfl⟩:=ha
  by_cases hw:w=i
  ·subst hw
   exact hp u h3 (Pe _ _ _ hE)
  ·exact absurd ⟨rfl,w,by omega,h2,h3,rfl⟩ hn
theorem ybu{O:Nat->Nat->Int->Prop}(h:DJ (vz g ok c) n goal d dn q cur O)(hgoal:ok goal=true){u:Nat}(hu:0<=d u):ok u=true:=by
 by_cases e:u=goal
 ·rw[e];exact hgoal
 ·obtain⟨t,k,_,_,hE,_⟩:=h.pre u e hu
  obtain⟨_,_,_,_,_,h1,_⟩:=hE
  exact h1
end
def V4:Option (Int×Int)->Int
 |none=>0
 |some x=>x.1
def Mp:Option (Int×Int)->Int
 |none=>0
 |some x=>x.2
def qm(S:Store)(b b2 n:Nat)(d:Nat->Int)(dn:Nat->Bool):Store:=(S.sO b (.cells (il n d))).sO b2 (.cells (bl n dn))
section
variable {S:Store} {b b2 n:Nat}
theorem pk(hb:b≠b2)(d:Nat->Int)(dn:Nat->Bool):(qm S b b2 n d dn).obj b=some (.cells (il n d)):=by
 unfold qm
 rw[zf hb,zc]
theorem yal(d:Nat->Int)(dn:Nat->Bool):(qm S b b2 n d dn).obj b2=some (.cells (bl n dn)):=zc _ _ _
theorem yak{i:Nat}{x:AObj}(hf:Fresh S b)(hf2:Fresh (S.sO b x) b2){y:AObj}(h:S.obj i=some y)(d:Nat->Int)(dn:Nat->Bool):(qm S b b2 n d dn).obj i=some y:=by
 have h1:i≠b:=λe=>by rw[e,hf.1]at h;cases h
 have h2:i≠b2:=λe=>by
  have:=hf2.1
  rw[<-e,zf h1,h]at this;cases this
 unfold qm
 rw[zf h2,zf h1]
 exact h
theorem pj(hb:b≠b2)(d d':Nat->Int)(dn:Nat->Bool):(qm S b b2 n d dn).sO b (.cells (il n d'))=qm S b b2 n d' dn:=by
 unfold qm
 rw[H4 hb,yl]
theorem yaj(d:Nat->Int)(dn dn':Nat->Bool):(qm S b b2 n d dn).sO b2 (.cells (bl n dn'))=qm S b b2 n d dn':=yl _ _ _ _
theorem fld_has{d:Nat->Int}{dn:Nat->Bool}{i:Nat}:(qm S b b2 n d dn).has i↔i=b2\/i=b\/S.has i:=by
 unfold qm
 rw[has_setObj_iff,has_setObj_iff]
theorem yam{F:Store}{d d':Nat->Int}{dn dn':Nat->Bool}(h:zg F (qm S b b2 n d dn)):zg F (qm S b b2 n d' dn'):=λi h1 h2=>h i h1 (fld_has.2 (fld_has.1 h2))
theorem yan(hf:Fresh S b){x:AObj}(hf2:Fresh (S.sO b x) b2){F:Store}(hb:b≠b2){d:Nat->Int}{dn:Nat->Bool}:(F.un (qm S b b2 n d dn)).Has (S.sO b (.cells (il n d))):=by
 have hn:(S.sO b (.cells (il n d))).obj b2=none:=by
  have:=hf2.1
  rw[zf (Ne.symm hb)]at this⊢
  exact this
 exact⟨λi y hi=>zd ((Ai hn).obj i y hi),λi y hi=>Fb hi⟩
end
theorem Oo(n:Nat)(d:Nat->Int)(u:Nat)(v:Int)(hu:u<n):zt (il n d) (0+u*1) [int v]=il n (yk d u v):=by
 rw[show 0+u*1=u by omega,Fy hu]
 rfl
theorem ydn(n:Nat)(d:Nat->Bool)(u:Nat)(v:Bool)(hu:u<n):zt (bl n d) (0+u*1) [bool v]=bl n (yk d u v):=by
 rw[show 0+u*1=u by omega]
 have:=I9 (f:=d) hu (yk d u v) (λs hs=>jg hs)
 rw[we]at this
 exact this
theorem Oq{n:Nat}{f:Nat->Int}{t:Nat}(h:t<n):((il n f).drop (t*1)).head?=some (int (f t)):=by
 have:=wx (f:=f) h
 rwa [Fbm]at this
theorem zvl(n:Nat)(dn:Nat->Bool):Bu n dn<=n:=by
 have:=Sa (f:=λt=>if dn t=true then 0 else 1) (g:=λ_=>1) n (λt _=>by split<;>omega)
 rw[Sb]at this
 unfold Bu
 omega
def Dx(g:Gnd)(ok:Nat->Bool)(c:Int)(d:Nat->Int)(t w:Nat):Prop:=0<qi g ok c t w/\0<=d (z7 g t w).toNat/\qi g ok c t w+d (z7 g t w).toNat=d t
theorem yay{p:Nat->Bool}{n j:Nat}(hj:j<n)(hp:p j=true)(hn:∀w,w<j->p w=false):(List.range n).find? p=some j:=by
 rw[List.find?_range_eq_some]
 exact⟨hp,Fbi.2 hj,λw hw=>by rw[hn w hw];rfl⟩
theorem yax{p:Nat->Bool}{n:Nat}(hn:∀w,w<n->p w=false):(List.range n).find? p=none:=by
 rw[List.find?_eq_none]
 intro w hw
 rw[hn w (Fbi.1 hw)]
 decide
section
variable {g:Gnd} {ok:Nat->Bool} {c:Int} {d:Nat->Int} {t:Nat}
theorem zaf(h:d t<=0):xa g ok c d t=-1:=by
 unfold xa
 rw[if_pos h]
theorem zad(h:¬d t<=0){j:Nat}(hj:j<8)(hp:Dx g ok c d t j)(hn:∀w,w<j->¬Dx g ok c d t w):xa g ok c d t=(j:Int):=by
 unfold xa
 rw[if_neg h,yay hj (by exact decide_eq_true hp) (λw hw=>by exact decide_eq_false (hn w hw))]
theorem zae(h:¬d t<=0)(hn:∀w,w<8->¬Dx g ok c d t w):xa g ok c d t=-1:=by
 unfold xa
 rw[if_neg h,yax (λw hw=>by exact decide_eq_false (hn w hw))]
end
theorem zah(g:Gnd)(ok:Nat->Bool)(c:Int)(d:Nat->Int)(t:Nat):xa g ok c d t=-1\/∃j:Nat,j<8/\xa g ok c d t=(j:Int)/\Dx g ok c d t j:=by
 unfold xa
 split
 ·exact .inl rfl
 ·cases h:(List.range 8).find? λway=>decide (0<qi g ok c t way/\0<=d (z7 g t way).toNat/\qi g ok c t way+d (z7 g t way).toNat=d t)with
  |none=>exact .inl rfl
  |some j=>
   have h1:=Fdq h
   have h2:=List.find?_some h
   exact .inr ⟨j,Fbi.1 h1,rfl,by simp only[decide_eq_true_eq]at h2;exact h2⟩
noncomputable def vj(g:Gnd)(ok:Nat->Bool)(c:Int)(d:Nat->Int)(i t:Nat):Int:=if t<i then xa g ok c d t else -1
theorem cy{g:Gnd}{ok:Nat->Bool}{c:Int}{d:Nat->Int}{i:Nat}:vj g ok c d (i+1)=yk (vj g ok c d i) i (xa g ok c d i):=funext λt=>by
 unfold vj yk
 dsimp only
 by_cases h:t=i
 ·subst h;rw[if_pos (by omega),if_pos rfl]
 ·rw[if_neg h]
  by_cases h2:t<i
  ·rw[if_pos h2,if_pos (by omega)]
  ·rw[if_neg h2,if_neg (by omega)]
theorem cx{g:Gnd}{ok:Nat->Bool}{c:Int}{d:Nat->Int}{i:Nat}(h:xa g ok c d i=-1):vj g ok c d (i+1)=vj g ok c d i:=by
 rw[cy,h]
 funext t
 unfold yk vj
 by_cases h:t=i
 ·subst h;rw[if_pos rfl,if_neg (by omega)]
 ·rw[if_neg h]
theorem u0(g:Gnd)(ok:Nat->Bool)(c:Int)(d:Nat->Int):vj g ok c d 0=λ_=>-1:=funext λt=>if_neg (Fa7 t)
theorem zaa(g:Gnd)(ok:Nat->Bool)(c:Int)(d:Nat->Int)(n:Nat):il n (vj g ok c d n)=il n (xa g ok c d):=Ll λt ht=>if_pos ht
def jh(S:Store)(b b2 n:Nat)(d f:Nat->Int):Store:=(S.sO b (.cells (il n d))).sO b2 (.cells (il n f))
section
variable {S:Store} {b b2 n:Nat}
theorem zbb(hb:b≠b2)(d f:Nat->Int):(jh S b b2 n d f).obj b=some (.cells (il n d)):=by
 unfold jh
 rw[zf hb,zc]
theorem zba(d f:Nat->Int):(jh S b b2 n d f).obj b2=some (.cells (il n f)):=zc _ _ _
theorem za8{i:Nat}{x:AObj}(hf:Fresh S b)(hf2:Fresh (S.sO b x) b2){y:AObj}(h:S.obj i=some y)(d f:Nat->Int):(jh S b b2 n d f).obj i=some y:=by
 have h1:i≠b:=λe=>by rw[e,hf.1]at h;cases h
 have h2:i≠b2:=λe=>by
  have:=hf2.1
  rw[<-e,zf h1,h]at this;cases this
 unfold jh
 rw[zf h2,zf h1]
 exact h
theorem za7(d f f':Nat->Int):(jh S b b2 n d f).sO b2 (.cells (il n f'))=jh S b b2 n d f':=yl _ _ _ _
theorem za9{x:AObj}(hb:b≠b2)(hf2:Fresh (S.sO b x) b2):Fresh S b2:=by
 have:=hf2
 unfold Fresh at this⊢
 rw[zf (Ne.symm hb)]at this
 exact this
theorem zbc(hf:Fresh S b)(hb:b≠b2)(d f:Nat->Int):(jh S b b2 n d f).Has (S.sO b2 (.cells (il n f))):=by
 unfold jh
 rw[H4 (Ne.symm hb)]
 refine Ai ?_
 rw[zf hb]
 exact hf.1
end
theorem zv9(g:Gnd)(t:Nat):Cx g t=(List.range 8).map (z7 g t):=by
 apply Fcn
 ·rw[Oa,Fa8,List.length_range]
 ·intro i h1 h2
  rw[Oa]at h1
  simp only[Fb9,List.getElem_range]
  unfold z7
  rw[Fbk,Fab (by rw[Oa];exact h1)]
  rfl
theorem zwb(g:Gnd)(t:Nat)(x:Int):(Cx g t).contains x=(List.range 8).any λj=>z7 g t j==x:=by
 rw[zv9,List.contains_eq_any_beq,List.any_map]
 congr 1
 funext j
 show(x==z7 g t j)=_
 rw[Fc2,beq_iff_eq,beq_iff_eq]
 exact eq_comm
theorem yem{p:Nat->Bool}{n k:Nat}(hk:k<n)(hp:p k=true):(List.range n).any p=true:=List.any_eq_true.2 ⟨k,Fbi.2 hk,hp⟩
theorem yel{p:Nat->Bool}{n:Nat}(hp:∀k,k<n->p k=false):(List.range n).any p=false:=by
 rw[Fc9]
 intro k hk
 rw[hp k (Fbi.1 hk)]
 decide
end Go.V
