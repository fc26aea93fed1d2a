/- Ground of laws of thronglaw25: contracts and plain lemmas; no condition beyond the row's own. -/
import Derived.Test.YthjfdaifoocijaaGreatKF
set_option linter.unusedSimpArgs false
set_option linter.unusedVariables false
set_option linter.defProp false
namespace Go.V
section
variable {n i:Nat} {w:Wld}
def Pg(l:List Cmd):List AV:=[lst 10 yh l]
def I4(l:List Cmd)(n i:Nat):List Cmd:=(l.take (min (i*n+n) l.length)).drop (min (i*n) l.length)
def Kn(l:List Cmd)(n:Nat):List (List Cmd):=(List.range 8).map (I4 l n)
def zgo(l:List Cmd)(n:Nat):(Kn l n).length=8:=by simp[Kn]
def yml{l:List Cmd}{c:Cmd}(h:c∈I4 l n i):c∈l:=List.mem_of_mem_take (List.mem_of_mem_drop h)
def ymm{l:List Cmd}:(I4 l n i).length<=n:=by unfold I4;rw[Fcg,Fam];omega
def nk{l:List Cmd}{cs:List Cmd}(h:cs∈Kn l n):cs.length<=n/\∀c∈cs,c∈l:=by obtain⟨i,_,rfl⟩:=Fag.1 h;exact⟨ymm,λc hc=>yml hc⟩
open Classical in
noncomputable def Ig(w:Wld)(l:List Cmd):Wld:=if w.tick=1099511627776 then w else Da w l
open Classical in
noncomputable def Ih(w:Wld)(l:List Cmd):List Int:=if w.tick=1099511627776 then []else ve w l
open Classical in
noncomputable def Ky(w:Wld):Int:=if w.tick=1099511627776 then 10 else 0
theorem Se(h:w.tick=1099511627776)(l:List Cmd):Ig w l=w/\Ih w l=[]/\Ky w=10:=⟨if_pos h,if_pos h,if_pos h⟩
theorem Sf(h:¬w.tick=1099511627776)(l:List Cmd):Ig w l=Da w l/\Ih w l=ve w l/\Ky w=0:=⟨if_neg h,if_neg h,if_neg h⟩
def yd4(h:playW w)(l:List Cmd):playW (Ig w l):=by
 have ht:=h.1.1.1.1.1.2;by_cases e:w.tick=1099511627776
 ·rw[(Se e l).1];exact h
 ·rw[(Sf e l).1];exact yd6 h θ l
def yex(w:Wld)(l:List Cmd):(Ih w l).length<=l.length:=by
 by_cases e:w.tick=1099511627776
 ·rw[(Se e l).2.1];exact Fad _
 ·rw[(Sf e l).2.1,V1];exact Fal _
end
def ACalls.frozenLe{P:Program}{f:FuncId}{xs:List AV}{st0:Store}{Q:Ja}{R:Ja}(h:ACalls P f xs st0 Q)
    (hQ:∀r S,Q r S->∃r2 S2,R r2 S2/\(∀b x,S2.obj b=some x->S.obj b≠none)/\(∀b x,S2.tok b≠some x)∧
      ∀ (Oth M:BB) (w:World),StoreOK S Oth M w->(∀b x,S2.obj b=some x->ObjRel w (λb o=>(M b o\/Oth b o)/\(S.obj b=none\/S2.obj b≠none)) x b)∧
        ∀v,VRel w (λb o=>M b o\/Oth b o) r v->VRel w (λb o=>(M b o\/Oth b o)/\(S.obj b=none\/S2.obj b≠none)) r2 v):
    ACalls P f xs st0 R:=by
  refine⟨λOth M w vs sto hr=>?_⟩;have h1:=h.out Oth M w vs sto hr;have key:∀v w',xg st0 Q Oth M w v w'->xg st0 R Oth M w v w':=by
    rintro v w' ⟨r,S,M',hq,hv,hs,hc⟩;obtain⟨r2,S2,hr2,hsub,htok,hk⟩:=hQ r S hq;obtain⟨hk1,hk2⟩:=hk Oth M' w' hs;have hT:∀b o,((M' b o/\(S.obj b=none\/S2.obj b≠none))\/Oth b o)->((M' b o\/Oth b o)/\(S.obj b=none\/S2.obj b≠none)):=λb o h=>by
      rcases h with⟨h1,h2⟩|h1
      · exact⟨.inl h1,h2⟩
      · refine⟨.inr h1,?_⟩
        cases hb:S.obj b with
        |none=>exact .inl rfl
        |some y=>exact absurd ((hs.obj b y hb).2 o) (hs.dis b o h1)
    refine⟨r2,S2,λb o=>M' b o/\(S.obj b=none\/S2.obj b≠none),hr2,(hk2 v hv).mono hT,?_,?_⟩
    · refine{obj:=λb x hx=>⟨(hk1 b x hx).mono hT,λo=>⟨?_,.inr (by rw[hx];simp)⟩⟩,tok:=λb x hx=>absurd hx (htok b x),mlt:=λb o hm=>hs.mlt b o hm.1,olt:=hs.olt,dis:=λb o ho hm=>hs.dis b o ho hm.1}
      cases hb:S.obj b with
      |none=>grind
      |some y=>exact(hs.obj b y hb).2 o
    · exact{size:=hc.size,keep:=hc.keep,blk:=hc.blk,shp:=hc.shp,sub:=λb o hm hb=>hc.sub b o hm.1 hb,tape:=hc.tape,os:=hc.os,output:=hc.output}
  generalize(callFunc f vs).run P w=res at h1;cases res with
  | ok n w'=>
    cases n with
    |enter g args=>exact Calls.mono h1 λe w'' ⟨v,he,hv⟩=>⟨v,he,key _ _ hv⟩
    |value v=>exact key _ _ h1
    |_=>exact h1
  |_=>exact h1
def My(x:AObj):Prop:=∀w T T' b,ObjRel w T x b->ObjRel w T' x b
def yji{l:List AV}(h:∀y∈l,flat y):My (.cells l):=by rintro w T T' b ⟨c,e,fr,h1,h2,h3,h4⟩;exact⟨c,e,fr,h1,h2,h3,λi x y hx hy=>h x (Fa3 hx) _ _ _ _ _ (h4 i x y hx hy)⟩
theorem yjf:flat .any:=λ_ _ _ _ _ _=>.any _
def ACalls.readOwn{P:Program}{f:FuncId}{xs ys:List AV}{g:Store}{Q:Ja}{R:Ja}
    (hb:∀Oth M w vs,StoreOK g Oth M w->Reads w (λb o=>M b o\/Oth b o) xs vs->Reads w (λb o=>(M b o\/Oth b o)/\g.obj b=none) ys vs)
    (h:ACalls P f ys Store.empty Q) (hf:∀r N,Q r N->flat r/\∀b x,N.obj b=some x->My x) (hR:∀r N,Q r N->zk N g->R r (N.un g)):ACalls P f xs g R:=by
  refine⟨λOth M w vs sto hr=>?_⟩
  let O1:Nat->Nat->Prop:=λb o=>(M b o\/Oth b o)/\g.obj b=none
  have e1:(λ(b o:Nat)=>False\/O1 b o)=O1:=by funext b o;simp
  have h1:=h.out O1 (λ_ _=>False) w vs {obj:=λb x hx=>γ,tok:=λb x hx=>γ,mlt:=λ_ _ h=>h.elim,olt:=λb o h=>Or.elim h.1 (sto.mlt b o) (sto.olt b o),dis:=λ_ _ _ h=>h} δ;have key:∀v w',xg Store.empty Q O1 (λ_ _=>False) w v w'->xg g R Oth M w v w':=by
    rintro v w' ⟨r,N,M2,hQ,hv,hs,hc⟩;obtain⟨f1,f2⟩:=hf r N hQ;have hg:Grow w w':=⟨hc.size,λb hb=>hc.blk b hb λ_ h=>h,hc.tape,hc.os,hc.output⟩
    have hnew:∀b o,M2 b o->¬b<w.heap.size:=λb o h h1=>hc.sub b o h h1;have hglt:∀b,g.has b->b<w.heap.size:=λb hb=>by
      rcases hb with hb|hb
      · cases hx:g.obj b with
        |none=>exact absurd hx hb
        |some x=>exact sto.mlt b 0 ((sto.obj b x hx).2 0)
      · cases hx:g.tok b with
        |none=>exact absurd hx hb
        | some x=>
          obtain⟨c,e,fr,h1,_⟩:=sto.tok b x hx;exact Fi h1
    have hd:zk N g:=λb hb hg=>by
      rcases hb with hb|hb
      · cases hx:N.obj b with
        |none=>exact absurd hx hb
        |some x=>exact hnew b 0 ((hs.obj b x hx).2 0) (hglt b hg)
      · cases hx:N.tok b with
        |none=>exact absurd hx hb
        | some x=>
          obtain⟨c,e,fr,h1,h2,h3,h4⟩:=hs.tok b x hx;grind
    have hk:Keeps w (λb o=>M b o\/Oth b o) w' (λb o=>(M2 b o\/M b o)\/Oth b o):=
      { cell:=(hg.keeps λb o=>M b o\/Oth b o).cell,out:=λb o c hc hT hT'=>by
          rcases hT' with(h|h)|h
          · exact hnew b o h (Lj hc)
          · exact hT (.inl h)
          · exact hT (.inr h)
        shp:=(hg.keeps λb o=>M b o\/Oth b o).shp}
    refine⟨r,N.un g,λb o=>M2 b o\/M b o,hR r N hQ hd,f1 _ _ _ _ _ hv,?_,?_⟩
    · refine{obj:=λb x hx=>?_,tok:=λb top hx=>?_,mlt:=λb o hm=>?_,olt:=λb o hm=>Nat.lt_of_lt_of_le (sto.olt b o hm) hc.size,dis:=λb o hO hM=>?_}
      · rcases Lu hx with hx|⟨_,hx⟩
        · have h5:=sto.obj b x hx
          exact⟨ObjRel.same h5.1 hk (hg.blk b (hglt b (xf hx))),λo=>.inr (h5.2 o)⟩
        · have h5:=hs.obj b x hx
          exact⟨f2 b x hx _ _ _ _ h5.1,λo=>.inl (h5.2 o)⟩
      · rcases P6 hx with hx|⟨_,hx⟩
        · obtain⟨c,e,fr,h1,h2,h3,h4⟩:=sto.tok b top hx
          exact⟨c,e,fr,by rw[hg.blk b (hglt b (Iu hx))];exact h1,h2,h3,λo ho=>.inr (h4 o ho)⟩
        · obtain⟨c,e,fr,h1,h2,h3,h4⟩:=hs.tok b top hx
          grind
      · rcases hm with h|h
        · exact hs.mlt b o h
        · exact Nat.lt_of_lt_of_le (sto.mlt b o h) hc.size
      · rcases hM with h|h
        · exact hnew b o h (sto.olt b o hO)
        · exact sto.dis b o hO h
    · exact
        { size:=hc.size
          keep:=λb o hb hm=>hc.keep b o hb λh=>h
          blk:=λb hb hm=>hc.blk b hb λo h=>h
          shp:=hc.shp
          sub:=λb o hm hb=>δ
          tape:=hc.tape
          os:=hc.os
          output:=hc.output}
  generalize(callFunc f vs).run P w=res at h1;cases res with
  | ok n w'=>
    cases n with
    |enter f' args=>exact Calls.mono h1 λe w'' ⟨v,he,hv⟩=>⟨v,he,key _ _ hv⟩
    |value v=>exact key _ _ h1
    |_=>exact h1
  |_=>exact h1
def b8{st:Store}{p b:Nat}{x y:AObj}(h:(st.sO p x).obj b=some y):(b=p/\y=x)\/(b≠p/\st.obj b=some y):=by
  by_cases e:b=p
  · simp_all[zd]
  grind[zj]
theorem RowsQ.flatten{α:Type}{k:Nat}{f:α->List AV}{N:Store}{v:AV}{l:List α}(hs:∀x,∀y∈f x,∃u,y=AV.s u/\xp u=true)(h:RowsQ k f N v l):
    ∃N2,N.Le N2/\RowsQ k f N2 v l/\flat v/\∀b x,N2.obj b=some x->My x:=by
  have none:v=.s (.slice none 0 0)/\l=[]\/(∃a,Kr a/\v=.s (.slice a 0 0)/\l=[])->∃N2,N.Le N2/\RowsQ k f N2 v l/\flat v/\∀b x,N2.obj b=some x->My x:=λhh=>⟨Store.empty,⟨λb y hy=>(by cases hy),λb x hx=>γ⟩,hh.elim (λe=>.inl (.inl e)) .inr,(by grind[Cu]),λb x hx=>γ⟩
  rcases h with(h|⟨b,cap,L,rfl,ho,h1,h2,h3⟩)|h
  · exact none (.inl h)
  · refine⟨Store.empty.sO b (.cells ((rws f l).flatten++List.replicate L.length .any)),⟨λb' y hy=>?_,λb x hx=>γ⟩,.inl (.inr ⟨b,cap,List.replicate L.length .any,rfl,zd _ _ _,h1,δ,h3⟩),Cu _,λb' x hx=>?_⟩
    · rcases b8 hy with⟨rfl,rfl⟩|⟨_,hy⟩
      · refine⟨_,ho,AObj.le_cells φ λi x y hx hy=>?_⟩
        grind[AV.le_refl,AV.le_any]
      · cases hy
    · rcases b8 hx with⟨rfl,rfl⟩|⟨_,hx⟩
      · refine yji λy hy=>?_
        rcases Fat.1 hy with hy|hy
        · obtain⟨r,hr,hy⟩:=List.mem_flatten.1 hy
          obtain⟨a,_,rfl⟩:=Fag.1 hr;obtain⟨u,rfl,_⟩:=hs a y hy;exact Cu _
        grind[yjf]
      · cases hx
  · exact none (.inr h)
def VRel.tup2{w:World}{T T':BB}{a b a' b':AV}{v:Value}(h:VRel w T (.tup [a,b]) v)(ha:∀x,VRel w T a x->VRel w T' a' x)(hb:∀x,VRel w T b x->VRel w T' b' x):VRel w T' (.tup [a',b']) v:=by
  cases h with
  | tup _ c hl hc=>
    refine .tup _ c hl λi x y hx hy=>?_;grind
def ymr{W:World}{T T':BB}{l l' r:List AV}{b:Nat}(hl:l.length=l'.length)(h:∀x,VRel W T (.agg l) x->VRel W T' (.agg l') x)(hr:∀y∈r,flat y)(hc:CellsRel W T (l++r) b):CellsRel W T' (l'++r) b:=by
 obtain⟨c,e,fr,h1,h2,h3,h4⟩:=hc;rw[Fae]at h3;have hx:=h (.agg (c.extract 0 l.length)) (.agg _ _ χ λi x y hx hy=>by
  have hi:=(Fax.1 hx).1;refine h4 i x y (by rw[Fap hi];exact hx) ?_;rw[Array.getElem?_extract]at hy;split at hy
  ·simpa using hy
  ·cases hy)
 cases hx with
 |agg _ _ hl2 hc2=>
  refine⟨c,e,fr,h1,h2,by rw[Fae];omega,λi x y hx hy=>?_⟩;by_cases hi:i<l'.length
  ·rw[Fap hi]at hx;refine hc2 i x y hx ?_;rw[Array.getElem?_extract,if_pos θ];simpa using hy
  ·rw[Fa2 θ]at hx;refine hr x (Fa3 hx) _ _ _ _ _ (h4 i x y ?_ hy);rw[Fa2 θ,hl];exact hx
theorem RowsQ.has{α:Type}{k:Nat}{f:α->List AV}{S:Store}{v:AV}{l:List α}(h:RowsQ k f S v l){b n c:Nat}(hv:v=.s (.slice (some ⟨b,0,none⟩) n c))(hc:0<c):S.has b:=by
 rcases h with(⟨rfl,_⟩|⟨b',cap,L,rfl,ho,_⟩)|⟨a,_,rfl,_⟩
 ·cases hv
 ·cases hv;exact xf ho
 ·cases hv;omega
def Store.objs0(S:Store):Store:=⟨S.obj,λ_=>none⟩
def ACalls.frozenEng{P:Program}{f:FuncId}{xs:List AV}{st0:Store}{Q:Ja}{R:Ja}(h:ACalls P f xs st0 Q)
  (hQ:∀r S,Q r S->(∃S2:Store,R r S2/\(∀b x,S2.obj b=some x->S.obj b=some x)/\∀b,S2.tok b=none)\/∃r2 X N eb raw plain p,zk X N/\¬X.has eb/\¬N.has eb/\S=(X.un N).sO eb (.cells (raw++[.s p]))/\raw.length=plain.length/\R r2 (N.objs0.sO eb (.cells (plain++[.s p])))∧
   ∀(Oth M:BB) (W:World),StoreOK X Oth M W->(∀x,VRel W (λb o=>M b o\/Oth b o) (.agg raw) x->VRel W (λb o=>(M b o\/Oth b o)/\X.obj b=none) (.agg plain) x)∧
    ∀x,VRel W (λb o=>M b o\/Oth b o) r x->VRel W (λb o=>(M b o\/Oth b o)/\X.obj b=none) r2 x):ACalls P f xs st0 R:=by
 refine h.frozenLe ?_;intro r S hq;rcases hQ r S hq with⟨S2,hR,h2,h3⟩|⟨r2,X,N,eb,raw,plain,p,hd,hx,hn,rfl,hl,hR,hb⟩
 ·exact⟨r,S2,hR,λb x hx=>(by rw[h2 b x hx];simp),λb x hx=>(by rw[h3 b]at hx;cases hx),λOth M w sto=>⟨λb x hx=>(sto.obj b x (h2 b x hx)).1.mono λb o h=>h.1,λv hv=>hv.mono λb o h=>h.1⟩⟩
 have hS2:∀b x,(N.objs0.sO eb (.cells (plain++[.s p]))).obj b=some x->(b=eb/\x=.cells (plain++[.s p]))\/(b≠eb/\N.obj b=some x):=λb x hx=>b8 hx;refine⟨r2,_,hR,λb x hx=>?_,λb x hx=>γ,λOth M w sto=>?_⟩
 ·rcases hS2 b x hx with⟨rfl,rfl⟩|⟨h1,h2⟩
  ·rw[zd];simp
  ·rw[zj h1,zg h2];simp
 have sX:StoreOK X Oth M w:=sto.weaken ⟨λb y hy=>by have e:b≠eb:=λe=>hx (by rw[<-e];exact xf hy);rw[zj e];exact yg hd hy,λb y hy=>Kk hd hy⟩;obtain⟨k1,k2⟩:=hb Oth M w sX;have hT:∀b o,((M b o\/Oth b o)/\(((X.un N).sO eb (.cells (raw++[.s p]))).obj b=none\/(N.objs0.sO eb (.cells (plain++[.s p]))).obj b≠none))->(M b o\/Oth b o)/\X.obj b=none:=λb o ⟨h1,h2⟩=>by
  refine⟨h1,?_⟩;by_cases e:b=eb
  ·subst e;exact(k8 hx).1
  ·rw[zj e,zj e]at h2;cases hxb:X.obj b with
   |none=>rfl
   |some y=>
    rcases h2 with h2|h2
    ·rw[yg hd hxb]at h2;cases h2
    ·exact absurd (k8 (hd b (xf hxb))).1 h2
 refine⟨λb x hx2=>?_,λv hv=>(k2 v hv).mono hT⟩;rcases hS2 b x hx2 with⟨rfl,rfl⟩|⟨h1,h2⟩
 ·have ho:=(sto.obj b _ (zd _ _ _)).1;have:=ymr hl k1 (λy hy=>by rw[Fc3.1 hy];exact Cu p) ho;exact ObjRel.mono hT (show ObjRel w (λb o=>(M b o\/Oth b o)/\X.obj b=none) (.cells (plain++[.s p])) b from this)
 ·exact(sto.obj b x (by rw[zj h1];exact zg h2)).1.mono λb o h=>h.1
section
variable {P:Program} {c:Cfg} {w:World} {st:Store} {Oth M:BB}
def yoh{o:Oper}{t:TypeId}{x:Operand}(ho:o.op=.makeInterface t x){d:TypeDesc}(hd:qe P c.I->P.underlying t=some d)(hn:∀m,d≠.interface m){y:AV}{u:Value}
    (hy:∀(w:World) (T:BB) (v:Value),VRel w T y v->v=u) {R:Ja} (h:R (.s (.iface t u)) st):AEff P c o [y] st R:=by
  refine⟨λOth M w ρ hI sto hr=>?_⟩;rw[ho]at hr;have hr:Reads w (λb o=>M b o\/Oth b o) [y] [ρ x]:=θy;obtain⟨v,he,h1⟩:=Ia hr;simp only[Fcp,and_true]at he;rw[<-he]at h1;have h1:=hy _ _ _ h1;have hund:=yv (P:=P) (hd hI);have hrun:(execOp ρ o).run P w=.ok (.value (.iface t u)) w:=by simp only[execOp,ho,Instr.makeInterface,Sem.run_bind,hund,Result.andThen_ok,h1];cases d<;>simp at hn⊢
  rw[hrun];exact⟨_,_,_,h,.s _,sto,Chg.refl M w⟩
def yog{o:Oper}{t:TypeId}{x:Operand}(ho:o.op=.makeInterface t x){it:TI}{e:TypeId}(hit:c.I t=some it)(hty:it.ty=.ptr e){u:Value}{R:Ja}(h:R (.s (.iface t u)) st):AEff P c o [.s u] st R:=
  yoh ho (λhI=>P8 (hI _ _ hit) hty) (λm h=>ω) (λw T v hv=>VRel.eq_s hv) h
end
section
variable {P:Program} {v:Value} {x:AV}
theorem yal{t:TypeId}{inf:TypeInfo}(h:P.info? t=some inf)(w:World):(typeInfo t).run P w=.ok inf w:=by simp[typeInfo,run_program,h]
theorem Meets.ptr{t:TypeId}{m:String}{g:FuncId}{inf:TypeInfo}{row:Method}{e:TypeId}(hi:P.info? t=some inf)(hf:inf.methods.find? (·.name==m)=some row)(hp:row.path=#[])
    (hr:row.func=some (g,true)) (hu:P.underlying t=some (.pointer e)) (hx:∀w T,VRel w T x v):Meets P t v m g x:=by
  refine⟨v,λw=>?_,hx⟩;have hdep:P.types.size+Made.depth=(P.types.size+99)+1:=rfl;rw[hdep];generalize P.types.size+99=n;have e:row.path.toList=[]:=by rw[hp]
  unfold method;rw[Sem.run_bind,yal hi,Result.andThen_ok,hf];dsimp only;rw[e];unfold follow;rw[Sem.run_bind,Sem.run_pure,Result.andThen_ok];dsimp only;rw[hr];dsimp only;unfold receiverAt;simp[yv hu,Place.get]
def Oz(P:Program)(t:TypeId)(m:String)(g:FuncId)(ptr:Bool):Bool:=
  match P.info? t,P.underlying t with
  | some inf,some d=>(match inf.methods.find? (·.name==m)with
    |some row=>row.path.isEmpty&&(match row.func with|some (f,b)=>Nat.beq f g&&(b==ptr)|none=>false)
    |none=>false)&&(match d with|.pointer _=>ptr|_=> !ptr)
  |_,_=>false
def yfu{t:TypeId}{m:String}{g:FuncId}{ptr:Bool}(h:Oz P t m g ptr=true):∃inf row d,P.info? t=some inf/\inf.methods.find? (·.name==m)=some row/\row.path=#[]/\row.func=some (g,ptr)/\P.underlying t=some d/\(match d with|.pointer _=>ptr|_=> !ptr)=true:=by
  unfold Oz at h;split at h
  · rename_i inf d h1 h2
    rw[Fay]at h;obtain⟨h3,h4⟩:=h;split at h3
    · rename_i row h5
      rw[Fay]at h3;obtain⟨h6,h7⟩:=h3;split at h7
      · rename_i f b h8
        rw[Fay]at h7;obtain⟨h9,h10⟩:=h7;have e1:f=g:=Nat.eq_of_beq_eq_true h9;have e2:b=ptr:=eq_of_beq h10;subst e1 e2;exact⟨inf,row,d,h1,h5,Array.isEmpty_iff.1 h6,h8,h2,h4⟩
      · cases h7
    · cases h3
  · cases h
def Meets.ptrB{t:TypeId}{m:String}{g:FuncId}(h:Oz P t m g true=true)(hx:∀w T,VRel w T x v):Meets P t v m g x:=by
  obtain⟨inf,row,d,h1,h2,h3,h4,h5,h6⟩:=yfu h;cases d with
  |pointer e=>exact Meets.ptr h1 h2 h3 h4 h5 hx
  |_=>cases h6
end
def wo(v:Vc):Prop:=(-1099511627776<=v.1/\v.1<=1099511627776)/\(-1099511627776<=v.2/\v.2<=1099511627776)
def Dj{v:Vc}(h:wo v):v8 v:=by unfold wo at h;unfold v8;omega
def W8{v:Vc}(h:wo v):v.ok:=by unfold wo at h;exact⟨⟨θ,θ⟩,⟨θ,θ⟩⟩
def Kg{p q:Vc}(hp:xq p)(hq:xq q):wo (qy q p):=by rw[(Wq hp hq).1];unfold xq at hp hq;unfold wo;dsimp only;omega
def zbb{w:Wld}{u:Unt}(hu:xq u.pos)(h:∀x∈w.U,x.inn=0->xq x.pos)(hl:w.U.length<=4096):wo (Be w u):=by
 have key:∀(l:List Unt) (v:Vc) (B:Nat),(∀x∈l,x.inn=0->xq x.pos)->B+l.length<=4096->(v.1.natAbs<=B*16777216/\v.2.natAbs<=B*16777216)->
   wo (l.foldl (λv x=>if x.inn=0/\x.id≠u.id then xn v (ky u.pos (z6 u.kind+z6 x.kind+16384) x.pos)else v) v):=by
  intro l;induction l with
  |nil=>
   intro v B _ hB hv;unfold wo;simp only[List.length_nil]at hB;simp only[List.foldl_nil];omega
  |cons x l ih=>
   intro v B hx hB hv;simp only[Fbz]at hB;rw[Fc7];refine ih _ (B+1) (λy hy=>hx y (Fba _ hy)) θ ?_;split
   ·rename_i hc;have r1:=Oj u.kind;have r2:=Oj x.kind;have:=R9 hu (hx x Fbo hc.1) (r:=z6 u.kind+z6 x.kind+16384) θ;generalize ky u.pos (z6 u.kind+z6 x.kind+16384) x.pos=z at*;have e:xn v z=(v.1+z.1,v.2+z.2):=by
     unfold xn;rw[Ld θ θ,Ld θ θ]
    rw[e];dsimp only;omega
   ·exact⟨Fcx hv.1 (Fa1 _ (Fdb B)),Fcx hv.2 (Fa1 _ (Fdb B))⟩
 unfold Be;refine key w.U (0,0) 0 h θ ⟨?_,?_⟩
 ·show(0:Int).natAbs<=_;simp
 ·show(0:Int).natAbs<=_;simp
def yk1{A b t:Int}(hb:0<b)(h0:0<=t)(h:2*(A%b)+t<b):(2*A+t)/b=2*(A/b)/\(2*A+t)%b=2*(A%b)+t:=by
 have h1:=Fcf A (show b≠0 by omega);have e:2*A+t=(2*(A%b)+t)+b*(2*(A/b)):=by
  have:=Fdz A b;have e2:b*(2*(A/b))=2*(b*(A/b)):=by rw[Int.mul_left_comm]
  rw[e2];omega
 rw[e,Fd1 _ _ θ,Fd6];rw[Fb8 θ h,Fc8 θ h];omega
def yk2{A b t:Int}(hb:0<b)(h0:0<=t)(ht:t<=1)(h:b<=2*(A%b)+t):(2*A+t)/b=2*(A/b)+1/\(2*A+t)%b=2*(A%b)+t-b:=by
 have h1:=Fcf A (show b≠0 by omega);have h2:=Fcs A hb;have e:2*A+t=(2*(A%b)+t-b)+b*(2*(A/b)+1):=by
  have:=Fdz A b;have e2:b*(2*(A/b)+1)=2*(b*(A/b))+b:=by rw[Fdv,Int.mul_left_comm,Int.mul_one]
  rw[e2];omega
 rw[e,Fd1 _ _ θ,Fd6];rw[Fb8 θ θ,Fc8 θ θ];omega
def yn7{x:Int}(h0:0<=x)(h1:x<18446744073709551616):jj .and .u64 x 1=x%2:=by
 obtain⟨n,rfl⟩:=Fbx h0;have key:(BitVec.ofInt 64 (n:Int) &&& BitVec.ofInt 64 1).toNat=n%2:=by have e1:BitVec.ofInt 64 (n:Int)=BitVec.ofNat 64 n:=φ;have e2:BitVec.ofInt 64 1=BitVec.ofNat 64 1:=rfl;rw[e1,e2,BitVec.toNat_and,BitVec.toNat_ofNat,BitVec.toNat_ofNat,Nat.mod_eq_of_lt θ];show n &&& 1=_;exact Nat.and_one_is_mod n
 show IntKind.u64.wrap ((BitVec.ofInt 64 (n:Int) &&& BitVec.ofInt 64 1).toNat:Int)=_;rw[key,j6 θ θ];omega
section
variable {u:Unt} {w:Wld} {n k:Nat}
def zco:∀{a b:List Unt},(a.map (·.id)).Pairwise (·<·)->(b.map (·.id)).Pairwise (·<·)->(∀u,u∈a↔u∈b)->a=b
 |[],[],_,_,_=>rfl
 |[],y::b,_,_,h=>absurd ((h y).2 Fbo) φ
 |x::a,[],_,_,h=>absurd ((h x).1 Fbo) φ
 |x::a,y::b,ha,hb,h=>by
  rw[Fcc,Fc2]at ha hb;have hx:=(h x).1 Fbo;have hy:=(h y).2 Fbo;have e:x=y:=by
   rcases Fa7.1 hx with e|hx
   ·exact e
   ·rcases Fa7.1 hy with e|hy
    ·exact e.symm
    ·have h1:=hb.1 _ (Fag.2 ⟨x,hx,rfl⟩);have h2:=ha.1 _ (Fag.2 ⟨y,hy,rfl⟩);omega
  subst e;refine congrArg _ (zco ha.2 hb.2 λu=>⟨λhu=>?_,λhu=>?_⟩)
  ·rcases Fa7.1 ((h u).1 (Fba _ hu))with e|e
   ·have:=ha.1 _ (Fag.2 ⟨u,hu,rfl⟩);rw[e]at this;omega
   ·exact e
  ·rcases Fa7.1 ((h u).2 (Fba _ hu))with e|e
   ·have:=hb.1 _ (Fag.2 ⟨u,hu,rfl⟩);rw[e]at this;omega
   ·exact e
def nV(v:Vc):Prop:=(-9223372036854775807<=v.1/\v.1<=9223372036854775807)/\(-9223372036854775807<=v.2/\v.2<=9223372036854775807)
def uu(a b:Vc):nV (xn a b):=⟨gu _ _,gu _ _⟩
def Sg{v:Vc}(h:nV v):v.ok:=by unfold nV at h;exact⟨⟨θ,θ⟩,⟨θ,θ⟩⟩
theorem zcg{a:Int}(h:-9223372036854775807<=a/\a<=9223372036854775807):qp a 0=a:=by
 unfold qp;rw[Ff θ,Ff θ];unfold vp;split
 ·omega
 ·split<;>omega
theorem zf3{v:Vc}(h:nV v):xn v (0,0)=v:=by unfold xn;rw[zcg h.1,zcg h.2]
def Ar(u:Unt)(v:Vc)(x:Unt):Vc:=if x.id≠u.id then xn v (ky u.pos (z6 u.kind+z6 x.kind+16384) x.pos)else v
def ut{x:Unt}{v:Vc}(h:nV v):nV (Ar u v x):=by
 unfold Ar;split
 ·exact uu _ _
 ·exact h
def ur:∀(l:List Unt) {v:Vc},nV v->nV (l.foldl (Ar u) v)
 |[],_,h=>h
 |x::l,_,h=>ur l (ut h)
theorem yd0{p q:Vc}{r:Int}(h:near p q r=false):ky p r q=(0,0):=by unfold ky;rw[h];simp
theorem Sx(u:Unt)(r:Int)(hr:∀k,z6 u.kind+z6 k+16384<=r):∀(l:List Unt) (v:Vc),nV v->
  l.foldl (λv x=>if x.inn=0/\x.id≠u.id then xn v (ky u.pos (z6 u.kind+z6 x.kind+16384) x.pos)else v) v=(l.filter λx=>decide (x.inn=0)&&near u.pos x.pos r).foldl (Ar u) v
 |[],v,_=>rfl
 |x::l,v,h=>by
  rw[Fc7,Fdl];by_cases h0:x.inn=0
  ·cases hn:near u.pos x.pos r with
   |true=>
    simp only[h0,decide_true,Bool.and_self,if_true,Fc7,true_and];exact Sx u r hr l _ (ut h)
   |false=>
    have hf:near u.pos x.pos (z6 u.kind+z6 x.kind+16384)=false:=by
     cases hc:near u.pos x.pos (z6 u.kind+z6 x.kind+16384)with
     |false=>rfl
     |true=>rw[uk (hr x.kind) hc]at hn;cases hn
    simp only[h0,decide_true,Fed,Fah,if_false,true_and];rw[yd0 hf,zf3 h,ite_self];exact Sx u r hr l _ h
  ·simp only[h0,decide_false,Fdx,Fah,if_false,false_and];exact Sx u r hr l _ h
def yhg(hr:yr w.U){us:List Unt}(hn:K0 w u.pos (z6 u.kind+16384+81920) us)(hs:(us.map (·.id)).Pairwise (·<·)):Be w u=us.foldl (Ar u) (0,0):=by
 unfold Be;rw[Sx u (z6 u.kind+16384+81920) (λk=>by have:=(Bm k).2;omega) w.U (0,0) ⟨⟨ψ,ψ⟩,⟨ψ,ψ⟩⟩]
 congr 1
 refine zco ?_ hs λx=>?_
 ·have:(w.U.map (·.id)).Pairwise (·<·):=by
   rw[Fcn];intro i j hi hj hij;rw[Fas]at hi hj;simp only[Fbp];exact Fa hr hij hj
  exact this.sublist (List.filter_sublist.map _)
 ·rw[Fb4,hn x,Fay,decide_eq_true_iff];constructor
  ·rintro⟨h1,h2,h3⟩;exact⟨⟨h1,h2⟩,h3⟩
  ·rintro⟨⟨h1,h2⟩,h3⟩;exact⟨h1,h2,h3⟩
def zbj{v:Vc}(h:nV v)(k:Nat):nV (vd v k):=by obtain⟨h1,h2⟩:=h;have e1:=zbi v.1 k;have e2:=zbi v.2 k;unfold nV vd;dsimp only;omega
def mn{v:Vc}(h:v.ok):nV (qu v):=by obtain⟨h1,h2⟩:=h;have e1:=Ad h1;have e2:=Ad h2;unfold nV qu;dsimp only;omega
def zgu{v:Vc}(h0:vd v k≠(0,0))(hc:¬qh w u.id u.kind (xn u.pos (vd v k))):qk w u v (n+1) k=qk w u v n (k+1):=by show(if _ then _ else if _ then _ else _)=_;rw[if_neg h0,if_neg hc]
def zgs{v:Vc}(h0:vd v k=(0,0)):qk w u v (n+1) k=none:=by show(if _ then _ else if _ then _ else _)=_;rw[if_pos h0]
def zgt{v:Vc}(h0:vd v k≠(0,0))(hc:qh w u.id u.kind (xn u.pos (vd v k))):qk w u v (n+1) k=some (k,xn u.pos (vd v k)):=by show(if _ then _ else if _ then _ else _)=_;rw[if_neg h0,if_pos hc]
def po(hk:k<5):IntKind.i64.wrap (1*2^(min ((k:Int)).toNat IntKind.i64.bits))=((2^k:Nat):Int):=by have:k=0\/k=1\/k=2\/k=3\/k=4:=θ;rcases this with rfl|rfl|rfl|rfl|rfl<;>decide
end
section
variable {u n t:Nat} {x c:Int}
def wt:Nat->(Nat->Nat)->Nat
 |0,_=>0
 |n+1,f=>wt n f+f n
theorem bk{f g:Nat->Nat}:∀n,(∀t,t<n->f t=g t)->wt n f=wt n g
 |0,_=>rfl
 |n+1,h=>by show wt n f+f n=wt n g+g n;rw[bk n λt ht=>h t θ,h n θ]
def Rh{f g:Nat->Nat}:∀n,(∀t,t<n->f t<=g t)->wt n f<=wt n g
 |0,_=>Fal _
 |n+1,h=>by show wt n f+f n<=wt n g+g n;have:=Rh n λt ht=>h t θ;have:=h n θ;omega
theorem Ri(c:Nat):∀n,wt n (λ_=>c)=n*c
 |0=>by simp[wt]
 |n+1=>by show wt n (λ_=>c)+c=_;rw[Ri c n,Fdy]
def L7{f g:Nat->Nat}:∀n,u<n->(∀t,t<n->t≠u->f t=g t)->wt n f+g u=wt n g+f u
 |0,hu,_=>θ
 |n+1,hu,h=>by
  show wt n f+f n+g u=wt n g+g n+f u;by_cases e:u=n
  ·subst e;rw[bk u (λt ht=>h t θ θ)];omega
  ·have:=L7 (f:=f) (g:=g) n θ λt ht hne=>h t θ hne;have:=h n θ (Ne.symm e);omega
def D8(n:Nat)(d:Nat->Int):Nat:=wt n λt=>if 0<=d t then 1 else 0
def zg3(n:Nat)(d:Nat->Int):D8 n d<=n:=by have:=Rh (f:=λt=>if 0<=d t then 1 else 0) (g:=λ_=>1) n (λt _=>by split<;>omega);rw[Ri]at this;unfold D8;omega
def zg2{d:Nat->Int}(hu:u<n)(h:d u<0)(hx:0<=x):D8 n (z7 d u x)=D8 n d+1:=by have:=L7 (f:=λt=>if 0<=z7 d u x t then 1 else 0) (g:=λt=>if 0<=d t then 1 else 0) n hu (λt _ hne=>by simp only[jo hne]);simp only[vl,if_pos hx,if_neg (show¬0<=d u by omega)]at this;unfold D8;omega
def zg1{d:Nat->Int}(h:0<=d u)(hx:0<=x):D8 n (z7 d u x)=D8 n d:=by
 unfold D8;refine bk n λt _=>?_;by_cases e:t=u
 ·subst e;rw[vl,if_pos hx,if_pos h]
 ·rw[jo e]
def Fv(n:Nat)(d:Nat->Int):Prop:=∀t,d t<=84*(D8 n d:Int)-84\/d t<0
def zc8{goal:Nat}(hg:goal<n){d:Nat->Int}(hd:∀u,d u=if u=goal then 0 else -1):Fv n d:=by
 intro t;have h1:1<=D8 n d:=by
  have:=L7 (f:=λt=>if 0<=d t then 1 else 0) (g:=λt=>if t=goal then 0 else if 0<=d t then 1 else 0) n hg (λt _ hne=>by rw[if_neg hne]);have h0:(if 0<=d goal then 1 else 0)=1:=by rw[hd,if_pos rfl];rfl
  simp only[if_true,h0]at this;unfold D8;omega
 rw[hd];split
 ·left;omega
 ·right;omega
def Vw{d:Nat->Int}(h:Fv n d)(hu:u<n)(ht:0<=d t)(hc:0<c/\c<=84)(hl:d u<0\/d t+c<d u):Fv n (z7 d u (d t+c)):=by
 have hdt:=h t;by_cases hn:d u<0
 ·have e:=zg2 (n:=n) hu hn (show 0<=d t+c by omega);intro v;rw[e];by_cases ev:v=u
  ·subst ev;rw[vl];omega
  ·rw[jo ev];have:=h v;omega
 ·have e:=zg1 (n:=n) (d:=d) (u:=u) θ (show 0<=d t+c by omega);intro v;rw[e];by_cases ev:v=u
  ·subst ev;rw[vl];have:=h v;omega
  ·rw[jo ev];exact h v
def M9{d:Nat->Int}(h:Fv n d)(t:Nat):d t<=84*(n:Int):=by have:=h t;have:=zg3 n d;omega
def He(n:Nat)(d:Nat->Int):Nat:=wt n λt=>if 0<=d t then(d t).toNat else 84*n+1
def ygi{d:Nat->Int}(h:Fv n d)(hu:u<n)(ht:0<=d t)(hc:0<c/\c<=84)(hl:d u<0\/d t+c<d u):He n (z7 d u (d t+c))<He n d:=by have hb:=M9 (Vw h hu ht hc hl) u;rw[vl]at hb;have:=L7 (f:=λv=>if 0<=z7 d u (d t+c) v then(z7 d u (d t+c) v).toNat else 84*n+1) (g:=λv=>if 0<=d v then(d v).toNat else 84*n+1) n hu (λv _ hne=>by simp only[jo hne]);simp only[vl,if_pos (show 0<=d t+c by omega)]at this;unfold He;split at this<;>omega
def Fe(n:Nat)(dn:Nat->Bool):Nat:=wt n λt=>if dn t then 0 else 1
def yep{dn:Nat->Bool}(ht:t<n)(h:dn t=false):Fe n (z7 dn t true)+1=Fe n dn:=by have:=L7 (f:=λv=>if z7 dn t true v=true then 0 else 1) (g:=λv=>if dn v=true then 0 else 1) n ht (λv _ hne=>by simp only[jo hne]);simp only[vl,h,if_true,Fah,if_false]at this;unfold Fe;omega
end
section
variable {i n k:Nat}
def ydf{l:List (Int×Int)}(h:wx l)(x:Int×Int):UpF (qat (l++[x])) (l++[x]).length l.length:=by
 have h2:Ln (qat (l++[x])) l.length:=λj h0 hj=>by rw[sx l x j hj,sx l x (par j) (by have:=C0 h0;omega)];exact h j h0 hj
 have:=zf6 h2;simpa using this
def ydc{l:List (Int×Int)}(h:UpF (qat l) l.length i)(h0:0<i)(hi:i<l.length)(hl:qlt (qat l i) (qat l (par i))):
  UpF (qat (wq l i (par i))) (wq l i (par i)).length (par i)/\(wq l i (par i)).Perm l:=by
 have hp:=C0 h0;rw[sw hi θ,L6];exact⟨zf5 h h0 hi hl,oh hi θ⟩
def ss{l:List (Int×Int)}(h:UpF (qat l) l.length i)(hi:i=0\/¬qlt (qat l i) (qat l (par i))):wx l:=zf7 h hi
def yde(l:List (Int×Int))(x:Int×Int):(l++[x]).Perm (x::l):=List.perm_append_singleton x l
def ydh{l:List (Int×Int)}(hl:l.length=n+1):l.Perm (qat l 0::(l.set 0 (qat l n)).take n):=by
 obtain⟨a,t,rfl⟩:∃a t,l=a::t:=by
  cases l with
  |nil=>simp at hl
  |cons a t=>exact⟨a,t,rfl⟩
 simp only[Fbz,Nat.add_right_cancel_iff]at hl;have e0:qat (a::t) 0=a:=rfl;rw[e0];refine List.Perm.cons a ?_;cases n with
 |zero=>
  have:t=[]:=Fa4 hl;subst this;simp
 |succ n=>
  have e1:qat (a::t) (n+1)=t[n]'θ:=by rw[R3 χ];rfl
  rw[e1];show t.Perm ((t[n]'θ::t).take (n+1));rw[List.take_succ_cons];have e2:t=t.take n++[t[n]'θ]:=by
   have h1:=Fb9 n t;have h2:t.drop n=[t[n]'θ]:=by rw[Fdj θ,List.drop_eq_nil_of_le θ]
   rw[h2]at h1;exact h1.symm
  exact(List.Perm.of_eq e2).trans (List.perm_append_singleton _ _)
def ydj{l:List (Int×Int)}(hl:l.length=n+1)(h:wx l):Hu (qat ((l.set 0 (qat l n)).take n)) ((l.set 0 (qat l n)).take n).length 0:=by
 have hlen:((l.set 0 (qat l n)).take n).length=n:=χ;rw[hlen];have h2:Ln (qat l) (n+1):=by rw[<-hl];exact h
 have key:∀j,0<j->j<n->qat ((l.set 0 (qat l n)).take n) j=qat l j:=λj h0 hj=>by unfold qat;simp only[List.getD,Fb1 hj];rw[List.getElem?_set_ne θ]
 refine⟨λj h0 hj hp=>?_,λj h0 hj hp h1=>θ⟩;rw[key j h0 hj,key (par j) θ (by have:=C0 h0;omega)];exact h2 j h0 θ
theorem ydi{l:List (Int×Int)}(h:wx l):∀e∈l,¬qlt e (qat l 0):=λe he=>by obtain⟨j,hj,rfl⟩:=Fai he;rw[<-R3 hj];exact yhp h j hj
def ydk{l:List (Int×Int)}(h:Hu (qat l) l.length i)(hc:l.length<=2*i+1):wx l:=
 zcx h λj h0 hj hp=>by rcases(Oo h0).1 hp with e|e<;>omega
def dh{l:List (Int×Int)}(h:Hu (qat l) l.length i)(hk:∀j,0<j->j<l.length->par j=i->¬qlt (qat l j) (qat l k))(hs:¬qlt (qat l k) (qat l i)):wx l:=
 zcx h λj h0 hj hp=>R0 hs (hk j h0 hj hp)
def di{l:List (Int×Int)}(h:Hu (qat l) l.length i)(hk0:0<k)(hk:k<l.length)(hki:par k=i)(hmin:∀j,0<j->j<l.length->par j=i->¬qlt (qat l j) (qat l k))(hl:qlt (qat l k) (qat l i)):
  Hu (qat (wq l i k)) (wq l i k).length k/\(wq l i k).Perm l:=by
 have hp:=C0 hk0;rw[sw θ hk,L6];exact⟨ykp h hk0 hk hki hmin hl,oh θ hk⟩
def iw{f:Nat->Int×Int}(hk:k=2*i+1/\(2*i+2<n->¬qlt (f (2*i+2)) (f (2*i+1)))\/k=2*i+2/\qlt (f (2*i+2)) (f (2*i+1))):∀j,0<j->j<n->par j=i->¬qlt (f j) (f k):=by
 intro j h0 hj hp;rcases(Oo h0).1 hp with e|e
 ·subst e;rcases hk with⟨rfl,_⟩|⟨rfl,h2⟩
  ·exact dl _
  ·exact R1 h2
 ·subst e;rcases hk with⟨rfl,h1⟩|⟨rfl,h2⟩
  ·exact h1 hj
  ·exact dl _
end
section
variable {F:Store} {p i b cap:Nat}
def itC(x:Int×Int):List AV:=[int x.1,int x.2]
theorem K8(x:Int×Int):(itC x).length=2:=rfl
structure QAt(F:Store)(p b cap:Nat)(l:List (Int×Int))(L:List AV):Prop where
 hp:F.obj p=some (.cells [.s (.slice (some ⟨b,0,none⟩) l.length cap)])
 hb:F.obj b=some (.cells ((rws itC l).flatten++L))
 ne:b≠p
 h1:l.length<=cap
 h2:cap*2<=l.length*2+L.length
 h3:cap<=9223372036854775807
def QOf(F:Store)(p:Nat)(l:List (Int×Int)):Prop:=(F.obj p=some (.cells [.s (.slice none 0 0)])/\l=[])\/∃b cap L,QAt F p b cap l L
def QOf.rows{l:List (Int×Int)}(h:QOf F p l):∃v,F.obj p=some (.cells [v])/\RowsO 2 itC F v l/\∀b c0,v=.s (.slice (some ⟨b,0,none⟩) l.length c0)->b≠p:=by
 rcases h with⟨h,rfl⟩|⟨b,cap,L,h⟩
 ·exact⟨_,h,.inl ⟨rfl,rfl⟩,λb c0 e=>by simp at e⟩
 ·refine⟨_,h.hp,.inr ⟨b,cap,L,rfl,h.hb,h.h1,h.h2,h.h3⟩,λb' c0 e=>?_⟩;simp only[AV.s.injEq,Value.slice.injEq,Faj,Addr.mk.injEq]at e;exact e.1.1▸h.ne
theorem QOf.pos{l:List (Int×Int)}(h:QOf F p l)(hl:0<l.length):∃b cap L,QAt F p b cap l L:=by
 rcases h with⟨h,rfl⟩|h
 ·exact absurd hl (Fdp 0)
 ·exact h
theorem ygs{l:List (Int×Int)}(hi:i<l.length)(x:Int×Int)(L:List AV):zv ((rws itC l).flatten++L) (0+i*2) (itC x)=(rws itC (l.set i x)).flatten++L:=by have:=Gz (f:=itC) (k:=2) K8 hi (j:=0) (x':=x) (ys:=itC x) (L:=L) (by show 0+2<=2;omega) (by unfold zv;rw[K8];rfl);rw[Nat.add_zero]at this;rw[Fbg];exact this
def wv{l:List (Int×Int)}{L:List AV}(hi:i<l.length):List.drop (0+i*2) ((rws itC l).flatten++L)=itC (qat l i)++((rws itC (l.drop (i+1))).flatten++L):=by
 have h1:(rws itC (l.take i)).flatten.length=i*2:=by rw[qr K8,Fam,Fdo θ]
 rw[Fbg,Rq hi,Faw,<-h1,List.drop_left,Faw,R3 hi]
def Hg{l:List (Int×Int)}{L:List AV}(hi:i<l.length)(x:Int×Int):0+i*2+(itC x).length<=((rws itC l).flatten++L).length:=by rw[Fae,qr K8,K8];omega
def QAt.set{l:List (Int×Int)}{L:List AV}(h:QAt F p b cap l L)(hi:i<l.length)(x:Int×Int):QAt (F.sO b (.cells (zv ((rws itC l).flatten++L) (0+i*2) (itC x)))) p b cap (l.set i x) L:=by rw[ygs hi];exact⟨by rw[zj (Ne.symm h.ne),Faf];exact h.hp,zd _ _ _,h.ne,by rw[Faf];exact h.h1,by rw[Faf];exact h.h2,h.h3⟩
theorem QAt.cut{l:List (Int×Int)}{L:List AV}(h:QAt F p b cap l L){n:Nat}(hn:n<=l.length):QAt (F.sO p (.cells [.s (.slice (some ⟨b,0,none⟩) n cap)])) p b cap (l.take n) ((rws itC (l.drop n)).flatten++L):=by
 have e:(rws itC (l.take n)).flatten++((rws itC (l.drop n)).flatten++L)=(rws itC l).flatten++L:=by rw[<-Faw,<-G6,Fb9]
 have hl:(l.take n).length=n:=θe;refine⟨by rw[zd,hl],by rw[zj h.ne,e];exact h.hb,h.ne,by rw[hl];have:=h.h1;omega,?_,h.h3⟩;have:=h.h2;rw[hl,Fae,qr K8,Fcg];omega
end
section
variable {i:Nat}
def vy(v:Int)(k:Nat)(t:Nat):Int:=if t<k then v else 0
def yb9{n k m:Nat}{v:Int}(hk:m<=k)(hn:k+m<=n):zv (il n (vy v k)) (0+k*1) ((List.drop (0+0*1) (il n (vy v k))).take (m*1))=il n (vy v (k+m)):=by
 have e:(List.drop (0+0*1) (il n (vy v k))).take (m*1)=List.replicate m (int v):=by
  rw[show 0+0*1=0 from rfl,Fcb,Fej];apply Fdm
  ·rw[Fam,xi,Fbh];omega
  ·intro i h1 h2;rw[Fbh]at h2;rw[Fdt,List.getElem_replicate];simp only[il,Fbp,List.getElem_range];rw[vy,if_pos θ]
 rw[e];unfold zv;rw[Fbh,show 0+k*1=k by omega];apply Fcd;intro i;by_cases h1:i<k
 ·rw[Faw,Fap (by rw[Fam,xi];omega),Fb1 h1,Fm θ,Fm θ,vy,vy,if_pos h1,if_pos θ]
 ·by_cases h2:i<k+m
  ·rw[Faw,Fa2 (by rw[Fam,xi];omega),Fam,xi,Fap (by rw[Fbh];omega),Fbw,if_pos θ,Fm θ,vy,if_pos h2]
  ·rw[Fa2 (by rw[Fae,Fam,xi,Fbh];omega),Fae,Fam,xi,Fbh,Fcq,show k+m+(i-(min k n+m))=i by omega];by_cases h3:i<n
   ·rw[Fm h3,Fm h3,vy,vy,if_neg h1,if_neg h2]
   ·rw[Fb3 θb,Fb3 θb]
theorem za9(n:Nat)(v:Int):il n (vy v n)=il n λ_=>v:=Hj λt ht=>if_pos ht
def Ng(g:Gnd)(t:Nat):AV:=.agg (il 8 (yj g t))
def Fy(g:Gnd)(t i:Nat)(j:Nat):Int:=if j<i then yj g t j else 0
def yni(g:Gnd)(t:Nat):il 8 (Fy g t 8)=il 8 (yj g t):=Hj λj hj=>if_pos hj
def ynj(g:Gnd)(t:Nat)(hi:i<8):yj g t i=we g ((t:Int)%g.W) ((t:Int)/g.W) (dirL.getD i (0,0)):=by unfold yj jz;rw[Fbb,Far,Fbb,Fac (show i<dirL.length from hi)];rfl
def ynh(g:Gnd)(t:Nat)(v:Int)(hv:v=yj g t i):setI (Fy g t i) i v=Fy g t (i+1):=funext λj=>by
 unfold setI Fy;by_cases h:j=i
 ·subst h;rw[if_pos rfl,if_pos θ,hv]
 ·rw[if_neg h];by_cases h2:j<i
  ·rw[if_pos h2,if_pos θ]
  ·rw[if_neg h2,if_neg θ]
def dirC:List AV:=(dirL.map Kh).flatten
def yla(hi:i<8):dirC.drop (i*2)=Kh (dirL.getD i (0,0))++dirC.drop (i*2+2):=by have h:i=0\/i=1\/i=2\/i=3\/i=4\/i=5\/i=6\/i=7:=θ;rcases h with rfl|rfl|rfl|rfl|rfl|rfl|rfl|rfl<;>rfl
def yk9(hi:i<8):(-1<=(dirL.getD i (0,0)).1/\(dirL.getD i (0,0)).1<=1)/\-1<=(dirL.getD i (0,0)).2/\(dirL.getD i (0,0)).2<=1:=by have h:i=0\/i=1\/i=2\/i=3\/i=4\/i=5\/i=6\/i=7:=θ;rcases h with rfl|rfl|rfl|rfl|rfl|rfl|rfl|rfl<;>decide
end
def Cf(g:Gnd)(ok:Nat->Bool)(c:Int)(t i:Nat):Nat->Nat->Int->Prop:=λa u k=>a=t/\∃w,i<=w/\w<8/\yj g t w=(u:Int)/\k=qj g ok c t w
def ia{E:Nat->Nat->Int->Prop}{n goal:Nat}{d:Nat->Int}{dn:Nat->Bool}{q q':List (Int×Int)}{cur:Int}{O:Nat->Nat->Int->Prop}(h:DJ E n goal d dn q cur O)(hp:q.Perm q'):DJ E n goal d dn q' cur O:=
 ⟨h.lab,h.gl,h.pre,h.rel,h.mono,λe he=>h.ent e (hp.mem_iff.2 he),λu hu hn=>hp.mem_iff.1 (h.wait u hu hn)⟩
section
variable {g:Gnd} {ok:Nat->Bool} {c:Int} {n goal:Nat} {d:Nat->Int} {dn:Nat->Bool} {q:List (Int×Int)} {cur:Int}
def zfv{t:Nat}(h:DJ (jl g ok c) n goal d dn q cur λa _ _=>a=t):DJ (jl g ok c) n goal d dn q cur (Cf g ok c t 0):=
 ib h λa u k ha hn hE=>ψ1
def zfw{t:Nat}(h:DJ (jl g ok c) n goal d dn q cur (Cf g ok c t 8)):DJ (jl g ok c) n goal d dn q cur Ds:=
 ib h λa u k ha hn hE=>by obtain⟨_,w,h1,h2,_⟩:=ha;omega
def Wr{t i:Nat}(h:DJ (jl g ok c) n goal d dn q cur (Cf g ok c t i))(hp:∀u:Nat,yj g t i=u->0<qj g ok c t i->0<=d u/\d u<=d t+qj g ok c t i):DJ (jl g ok c) n goal d dn q cur (Cf g ok c t (i+1)):=
 ib h λa u k ha hn hE=>by
  obtain⟨rfl,w,h1,h2,h3,rfl⟩:=ha;by_cases hw:w=i
  ·subst hw;exact hp u h3 (M5 _ _ _ hE)
  ·exact absurd ⟨rfl,w,θ,h2,h3,rfl⟩ hn
def yky{O:Nat->Nat->Int->Prop}(h:DJ (jl g ok c) n goal d dn q cur O)(hgoal:ok goal=true){u:Nat}(hu:0<=d u):ok u=true:=by
 by_cases e:u=goal
 ·rw[e];exact hgoal
 ·obtain⟨t,k,_,_,hE,_⟩:=h.pre u e hu;obtain⟨_,_,_,_,_,h1,_⟩:=hE;exact h1
end
def fk:Option (Int×Int)->Int
 |none=>0
 |some x=>x.1
def Pz:Option (Int×Int)->Int
 |none=>0
 |some x=>x.2
def xl(S:Store)(b b2 n:Nat)(d:Nat->Int)(dn:Nat->Bool):Store:=(S.sO b (.cells (il n d))).sO b2 (.cells (bl n dn))
section
variable {S:Store} {b b2 n:Nat}
def zbz(hb:b≠b2)(d:Nat->Int)(dn:Nat->Bool):(xl S b b2 n d dn).obj b=some (.cells (il n d)):=by unfold xl;rw[zj hb,zd]
def yja(d:Nat->Int)(dn:Nat->Bool):(xl S b b2 n d dn).obj b2=some (.cells (bl n dn)):=zd _ _ _
def yi9{i:Nat}{x:AObj}(hf:Fresh S b)(hf2:Fresh (S.sO b x) b2){y:AObj}(h:S.obj i=some y)(d:Nat->Int)(dn:Nat->Bool):(xl S b b2 n d dn).obj i=some y:=by
 have h1:i≠b:=λe=>by rw[e,hf.1]at h;cases h
 have h2:i≠b2:=λe=>by have:=hf2.1;rw[<-e,zj h1,h]at this;cases this
 unfold xl;rw[zj h2,zj h1];exact h
theorem zby(hb:b≠b2)(d d':Nat->Int)(dn:Nat->Bool):(xl S b b2 n d dn).sO b (.cells (il n d'))=xl S b b2 n d' dn:=by unfold xl;rw[F7 hb,yy]
def yi8(d:Nat->Int)(dn dn':Nat->Bool):(xl S b b2 n d dn).sO b2 (.cells (bl n dn'))=xl S b b2 n d dn':=yy _ _ _ _
def fld_has{d:Nat->Int}{dn:Nat->Bool}{i:Nat}:(xl S b b2 n d dn).has i↔i=b2\/i=b\/S.has i:=by unfold xl;rw[has_setObj_iff,has_setObj_iff]
def yjb{F:Store}{d d':Nat->Int}{dn dn':Nat->Bool}(h:zk F (xl S b b2 n d dn)):zk F (xl S b b2 n d' dn'):=λi h1 h2=>h i h1 (fld_has.2 (fld_has.1 h2))
def yjc(hf:Fresh S b){x:AObj}(hf2:Fresh (S.sO b x) b2){F:Store}(hb:b≠b2){d:Nat->Int}{dn:Nat->Bool}:(F.un (xl S b b2 n d dn)).Has (S.sO b (.cells (il n d))):=by
 have hn:(S.sO b (.cells (il n d))).obj b2=none:=by have:=hf2.1;rw[zj (Ne.symm hb)]at this⊢;exact this
 exact⟨λi y hi=>zg ((Hl hn).obj i y hi),λi y hi=>F5 hi⟩
end
theorem Hh(n:Nat)(d:Nat->Int)(u:Nat)(v:Int)(hu:u<n):zv (il n d) (0+u*1) [int v]=il n (z7 d u v):=by rw[show 0+u*1=u by omega,Hi hu];rfl
theorem lb(n:Nat)(d:Nat->Bool)(u:Nat)(v:Bool)(hu:u<n):zv (bl n d) (0+u*1) [bool v]=bl n (z7 d u v):=by rw[show 0+u*1=u by omega];have:=Fx (f:=d) hu (z7 d u v) λs hs=>jo hs;rw[vl]at this;exact this
def Sw{n:Nat}{f:Nat->Int}{t:Nat}(h:t<n):((il n f).drop (t*1)).head?=some (int (f t)):=by
 have:=k9 (f:=f) h
 rwa [Fbg]at this
def yeq(n:Nat)(dn:Nat->Bool):Fe n dn<=n:=by have:=Rh (f:=λt=>if dn t=true then 0 else 1) (g:=λ_=>1) n (λt _=>by split<;>omega);rw[Ri]at this;unfold Fe;omega
def wh(g:Gnd)(ok:Nat->Bool)(c:Int)(d:Nat->Int)(t w:Nat):Prop:=0<qj g ok c t w/\0<=d (yj g t w).toNat/\qj g ok c t w+d (yj g t w).toNat=d t
theorem yjq{p:Nat->Bool}{n j:Nat}(hj:j<n)(hp:p j=true)(hn:∀w,w<j->p w=false):(List.range n).find? p=some j:=by rw[List.find?_range_eq_some];exact⟨hp,Fbd.2 hj,λw hw=>by rw[hn w hw];rfl⟩
theorem yjp{p:Nat->Bool}{n:Nat}(hn:∀w,w<n->p w=false):(List.range n).find? p=none:=by rw[List.find?_eq_none];intro w hw;rw[hn w (Fbd.1 hw)];decide
section
variable {g:Gnd} {ok:Nat->Bool} {c:Int} {d:Nat->Int} {t:Nat}
theorem l7(h:d t<=0):xc g ok c d t=-1:=by unfold xc;rw[if_pos h]
theorem l5(h:¬d t<=0){j:Nat}(hj:j<8)(hp:wh g ok c d t j)(hn:∀w,w<j->¬wh g ok c d t w):xc g ok c d t=(j:Int):=by unfold xc;rw[if_neg h,yjq hj (by exact decide_eq_true hp) (λw hw=>by exact decide_eq_false (hn w hw))]
theorem l6(h:¬d t<=0)(hn:∀w,w<8->¬wh g ok c d t w):xc g ok c d t=-1:=by unfold xc;rw[if_neg h,yjp (λw hw=>by exact decide_eq_false (hn w hw))]
end
def zfx(g:Gnd)(ok:Nat->Bool)(c:Int)(d:Nat->Int)(t:Nat):xc g ok c d t=-1\/∃j:Nat,j<8/\xc g ok c d t=(j:Int)/\wh g ok c d t j:=by
 unfold xc;split
 ·exact .inl rfl
 ·cases h:(List.range 8).find? λway=>decide (0<qj g ok c t way/\0<=d (yj g t way).toNat/\qj g ok c t way+d (yj g t way).toNat=d t)with
  |none=>exact .inl rfl
  |some j=>
   have h1:=Feb h;have h2:=List.find?_some h;exact .inr ⟨j,Fbd.1 h1,rfl,by simp only[decide_eq_true_eq]at h2;exact h2⟩
noncomputable def Bg(g:Gnd)(ok:Nat->Bool)(c:Int)(d:Nat->Int)(i t:Nat):Int:=if t<i then xc g ok c d t else -1
theorem lz{g:Gnd}{ok:Nat->Bool}{c:Int}{d:Nat->Int}{i:Nat}:Bg g ok c d (i+1)=z7 (Bg g ok c d i) i (xc g ok c d i):=funext λt=>by
 unfold Bg z7;dsimp only;by_cases h:t=i
 ·subst h;rw[if_pos θ,if_pos rfl]
 ·rw[if_neg h];by_cases h2:t<i
  ·rw[if_pos h2,if_pos θ]
  ·rw[if_neg h2,if_neg θ]
def ly{g:Gnd}{ok:Nat->Bool}{c:Int}{d:Nat->Int}{i:Nat}(h:xc g ok c d i=-1):Bg g ok c d (i+1)=Bg g ok c d i:=by
 rw[lz,h]
 funext t
 unfold z7 Bg;by_cases h:t=i
 ·subst h;rw[if_pos rfl,if_neg θ]
 ·rw[if_neg h]
theorem zfr(g:Gnd)(ok:Nat->Bool)(c:Int)(d:Nat->Int):Bg g ok c d 0=λ_=>-1:=funext λt=>if_neg (Fau t)
theorem zfs(g:Gnd)(ok:Nat->Bool)(c:Int)(d:Nat->Int)(n:Nat):il n (Bg g ok c d n)=il n (xc g ok c d):=Hj λt ht=>if_pos ht
def wn(S:Store)(b b2 n:Nat)(d f:Nat->Int):Store:=(S.sO b (.cells (il n d))).sO b2 (.cells (il n f))
section
variable {S:Store} {b b2 n:Nat}
def zgm(hb:b≠b2)(d f:Nat->Int):(wn S b b2 n d f).obj b=some (.cells (il n d)):=by unfold wn;rw[zj hb,zd]
def zgl(d f:Nat->Int):(wn S b b2 n d f).obj b2=some (.cells (il n f)):=zd _ _ _
def zgj{i:Nat}{x:AObj}(hf:Fresh S b)(hf2:Fresh (S.sO b x) b2){y:AObj}(h:S.obj i=some y)(d f:Nat->Int):(wn S b b2 n d f).obj i=some y:=by
 have h1:i≠b:=λe=>by rw[e,hf.1]at h;cases h
 have h2:i≠b2:=λe=>by have:=hf2.1;rw[<-e,zj h1,h]at this;cases this
 unfold wn;rw[zj h2,zj h1];exact h
def zgi(d f f':Nat->Int):(wn S b b2 n d f).sO b2 (.cells (il n f'))=wn S b b2 n d f':=yy _ _ _ _
def zgk{x:AObj}(hb:b≠b2)(hf2:Fresh (S.sO b x) b2):Fresh S b2:=by have:=hf2;unfold Fresh at this⊢;rw[zj (Ne.symm hb)]at this;exact this
def zgn(hf:Fresh S b)(hb:b≠b2)(d f:Nat->Int):(wn S b b2 n d f).Has (S.sO b2 (.cells (il n f))):=by unfold wn;rw[F7 (Ne.symm hb)];refine Hl ?_;rw[zj hb];exact hf.1
end
theorem yff(g:Gnd)(t:Nat):jz g t=(List.range 8).map (yj g t):=by
 apply Fdm
 ·rw[K1,Fas,Fds]
 ·intro i h1 h2;rw[K1]at h1;simp only[Fbp,List.getElem_range];unfold yj;rw[Fbb,Fac (by rw[K1];exact h1)];rfl
theorem yfh(g:Gnd)(t:Nat)(x:Int):(jz g t).contains x=(List.range 8).any λj=>yj g t j==x:=by
 rw[yff,List.contains_eq_any_beq,List.any_map]
 congr 1
 funext j
 show(x==yj g t j)=_;rw[Fbq,beq_iff_eq,beq_iff_eq];exact eq_comm
theorem yn6{p:Nat->Bool}{n k:Nat}(hk:k<n)(hp:p k=true):(List.range n).any p=true:=Fdn.2 ⟨k,Fbd.2 hk,hp⟩
theorem yn5{p:Nat->Bool}{n:Nat}(hp:∀k,k<n->p k=false):(List.range n).any p=false:=by rw[Fdg];intro k hk;rw[hp k (Fbd.1 hk)];decide
end Go.V
