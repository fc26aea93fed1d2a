/- Ground of laws of thronglaw25: contracts and plain lemmas; no condition beyond the row's own. -/
import Derived.Test.YtdfpifbbcigelaaGreatKF
set_option linter.unusedSimpArgs false
set_option linter.unusedVariables false
namespace Go.V
section
variable {n i:Nat} {w:Wld}
def Mi(l:List Cmd):List AV:=[lst 10 qs l]
def Gm(l:List Cmd)(n i:Nat):List Cmd:=(l.take (min (i*n+n) l.length)).drop (min (i*n) l.length)
def G4(l:List Cmd)(n:Nat):List (List Cmd):=(List.range 8).map (Gm l n)
theorem zb1(l:List Cmd)(n:Nat):(G4 l n).length=8:=by simp[G4]
theorem yez{l:List Cmd}{c:Cmd}(h:c∈Gm l n i):c∈l:=List.mem_of_mem_take (List.mem_of_mem_drop h)
theorem ye0{l:List Cmd}:(Gm l n i).length<=n:=by
 unfold Gm
 rw[Fcf,Fan]
 omega
theorem ed{l:List Cmd}{cs:List Cmd}(h:cs∈G4 l n):cs.length<=n/\∀c∈cs,c∈l:=by
 obtain⟨i,_,rfl⟩:=Fad.1 h
 exact⟨ye0,λc hc=>yez hc⟩
open Classical in
noncomputable def F8(w:Wld)(l:List Cmd):Wld:=if w.tick=1099511627776 then w else Ch w l
open Classical in
noncomputable def Oi(w:Wld)(l:List Cmd):List Int:=if w.tick=1099511627776 then []else ko w l
open Classical in
noncomputable def Vh(w:Wld):Int:=if w.tick=1099511627776 then 10 else 0
theorem Vf(h:w.tick=1099511627776)(l:List Cmd):F8 w l=w/\Oi w l=[]/\Vh w=10:=⟨if_pos h,if_pos h,if_pos h⟩
theorem Vg(h:¬w.tick=1099511627776)(l:List Cmd):F8 w l=Ch w l/\Oi w l=ko w l/\Vh w=0:=⟨if_neg h,if_neg h,if_neg h⟩
theorem zw8(h:playW w)(l:List Cmd):playW (F8 w l):=by
 have ht:=h.1.1.1.1.1.2
 by_cases e:w.tick=1099511627776
 ·rw[(Vf e l).1];exact h
 ·rw[(Vg e l).1];exact zxa h (by omega) l
theorem zxw(w:Wld)(l:List Cmd):(Oi w l).length<=l.length:=by
 by_cases e:w.tick=1099511627776
 ·rw[(Vf e l).2.1];exact Fai _
 ·rw[(Vg e l).2.1,bc];exact Fak _
end
theorem ACalls.frozenLe{P:Program}{f:FuncId}{xs:List AV}{st0:Store}{Q:Ja}{R:Ja}(h:ACalls P f xs st0 Q)
  (hQ:∀r S,Q r S->∃r2 S2,R r2 S2/\(∀b x,S2.obj b=some x->S.obj b≠none)/\(∀b x,S2.tok b≠some x)∧
   ∀(Oth M:Nat->Nat->Prop) (w:World),StoreOK S Oth M w->(∀b x,S2.obj b=some x->ObjRel w (λb o=>(M b o\/Oth b o)/\(S.obj b=none\/S2.obj b≠none)) x b)∧
    ∀v,VRel w (λb o=>M b o\/Oth b o) r v->VRel w (λb o=>(M b o\/Oth b o)/\(S.obj b=none\/S2.obj b≠none)) r2 v):
  ACalls P f xs st0 R:=by
 refine⟨λOth M w vs sto hr=>?_⟩
 have h1:=h.out Oth M w vs sto hr
 have key:∀v w',qn st0 Q Oth M w v w'->qn st0 R Oth M w v w':=by
  rintro v w' ⟨r,S,M',hq,hv,hs,hc⟩
  obtain⟨r2,S2,hr2,hsub,htok,hk⟩:=hQ r S hq
  obtain⟨hk1,hk2⟩:=hk Oth M' w' hs
  have hT:∀b o,((M' b o/\(S.obj b=none\/S2.obj b≠none))\/Oth b o)->((M' b o\/Oth b o)/\(S.obj b=none\/S2.obj b≠none)):=λb o h=>by
   rcases h with⟨h1,h2⟩|h1
   ·exact⟨.inl h1,h2⟩
   ·refine⟨.inr h1,?_⟩
    cases hb:S.obj b with
    |none=>exact .inl rfl
    |some y=>exact absurd ((hs.obj b y hb).2 o) (hs.dis b o h1)
  refine⟨r2,S2,λb o=>M' b o/\(S.obj b=none\/S2.obj b≠none),hr2,(hk2 v hv).mono hT,?_,?_⟩
  ·refine{obj:=λb x hx=>⟨(hk1 b x hx).mono hT,λo=>⟨?_,.inr (by rw[hx];simp)⟩⟩,tok:=λb x hx=>absurd hx (htok b x),mlt:=λb o hm=>hs.mlt b o hm.1,olt:=hs.olt,dis:=λb o ho hm=>hs.dis b o ho hm.1}
   cases hb:S.obj b with
   |none=>exact absurd hb (hsub b x hx)
   |some y=>exact(hs.obj b y hb).2 o
  ·exact{size:=hc.size,keep:=hc.keep,blk:=hc.blk,shp:=hc.shp,sub:=λb o hm hb=>hc.sub b o hm.1 hb,tape:=hc.tape,os:=hc.os,output:=hc.output}
 generalize(callFunc f vs).run P w=res at h1
 cases res with
 |ok n w'=>
  cases n with
  |enter g args=>exact Calls.mono h1 λe w'' ⟨v,he,hv⟩=>⟨v,he,key _ _ hv⟩
  |value v=>exact key _ _ h1
  |_=>exact h1
 |_=>exact h1
def Wl(x:AObj):Prop:=∀w T T' b,ObjRel w T x b->ObjRel w T' x b
theorem yce{l:List AV}(h:∀y∈l,flat y):Wl (.cells l):=by
 rintro w T T' b ⟨c,e,fr,h1,h2,h3,h4⟩
 exact⟨c,e,fr,h1,h2,h3,λi x y hx hy=>h x (Fau hx) _ _ _ _ _ (h4 i x y hx hy)⟩
theorem ycd:flat .any:=λ_ _ _ _ _ _=>.any _
theorem Sj{st:Store}{p b:Nat}{x y:AObj}(h:(st.sO p x).obj b=some y):(b=p/\y=x)\/(b≠p/\st.obj b=some y):=by
 by_cases e:b=p
 ·subst e;rw[zd]at h;exact .inl ⟨rfl,(Option.some.inj h).symm⟩
 ·rw[zg e]at h;exact .inr ⟨e,h⟩
theorem RowsQ.flatten{α:Type}{k:Nat}{f:α->List AV}{N:Store}{v:AV}{l:List α}(hs:∀x,∀y∈f x,∃u,y=AV.s u/\qp u=true)(h:RowsQ k f N v l):
  ∃N2,N.Le N2/\RowsQ k f N2 v l/\flat v/\∀b x,N2.obj b=some x->Wl x:=by
 have none:v=.s (.slice none 0 0)/\l=[]\/(∃a,Iu a/\v=.s (.slice a 0 0)/\l=[])->∃N2,N.Le N2/\RowsQ k f N2 v l/\flat v/\∀b x,N2.obj b=some x->Wl x:=λhh=>⟨Store.empty,⟨λb y hy=>(by cases hy),λb x hx=>(by cases hx)⟩,hh.elim (λe=>.inl (.inl e)) .inr,(by rcases hh with⟨rfl,_⟩|⟨a,_,rfl,_⟩<;>exact Pk _),λb x hx=>(by cases hx)⟩
 rcases h with(h|⟨b,cap,L,rfl,ho,h1,h2,h3⟩)|h
 ·exact none (.inl h)
 ·refine⟨Store.empty.sO b (.cells ((rws f l).flatten++List.replicate L.length .any)),⟨λb' y hy=>?_,λb x hx=>(by cases hx)⟩,.inl (.inr ⟨b,cap,List.replicate L.length .any,rfl,zd _ _ _,h1,by rw[Fbl];exact h2,h3⟩),Pk _,λb' x hx=>?_⟩
  ·rcases Sj hy with⟨rfl,rfl⟩|⟨_,hy⟩
   ·refine⟨_,ho,AObj.le_cells (by simp) λi x y hx hy=>?_⟩
    by_cases hi:i<(rws f l).flatten.length
    ·rw[Fam hi]at hx hy
     rw[hx]at hy;cases hy;exact Tt
    ·rw[Fax (Nat.le_of_not_lt hi)]at hy
     have:=(List.mem_replicate.1 (Fau hy)).2
     rw[this];exact AV.le_any _
   ·cases hy
  ·rcases Sj hx with⟨rfl,rfl⟩|⟨_,hx⟩
   ·refine yce λy hy=>?_
    rcases Fal.1 hy with hy|hy
    ·obtain⟨r,hr,hy⟩:=List.mem_flatten.1 hy
     obtain⟨a,_,rfl⟩:=Fad.1 hr
     obtain⟨u,rfl,_⟩:=hs a y hy
     exact Pk _
    ·rw[(List.mem_replicate.1 hy).2];exact ycd
   ·cases hx
 ·exact none (.inr h)
theorem VRel.tup2{w:World}{T T':Nat->Nat->Prop}{a b a' b':AV}{v:Value}(h:VRel w T (.tup [a,b]) v)(ha:∀x,VRel w T a x->VRel w T' a' x)(hb:∀x,VRel w T b x->VRel w T' b' x):VRel w T' (.tup [a',b']) v:=by
 cases h with
 |tup _ c hl hc=>
  refine .tup _ c hl λi x y hx hy=>?_
  match i with
  |0=>cases hx;exact ha _ (hc 0 _ y rfl hy)
  |1=>cases hx;exact hb _ (hc 1 _ y rfl hy)
  |i+2=>cases hx
theorem ye5{W:World}{T T':Nat->Nat->Prop}{l l' r:List AV}{b:Nat}(hl:l.length=l'.length)(h:∀x,VRel W T (.agg l) x->VRel W T' (.agg l') x)(hr:∀y∈r,flat y)(hc:CellsRel W T (l++r) b):CellsRel W T' (l'++r) b:=by
 obtain⟨c,e,fr,h1,h2,h3,h4⟩:=hc
 rw[Fag]at h3
 have hx:=h (.agg (c.extract 0 l.length)) (.agg _ _ (by simp;omega) λi x y hx hy=>by
  have hi:=(Faf.1 hx).1
  refine h4 i x y (by rw[Fam hi];exact hx) ?_
  rw[Array.getElem?_extract]at hy
  split at hy
  ·simpa using hy
  ·cases hy)
 cases hx with
 |agg _ _ hl2 hc2=>
  refine⟨c,e,fr,h1,h2,by rw[Fag];omega,λi x y hx hy=>?_⟩
  by_cases hi:i<l'.length
  ·rw[Fam hi]at hx
   refine hc2 i x y hx ?_
   rw[Array.getElem?_extract,if_pos (by omega)]
   simpa using hy
  ·rw[Fax (by omega)]at hx
   refine hr x (Fau hx) _ _ _ _ _ (h4 i x y ?_ hy)
   rw[Fax (by omega),hl]
   exact hx
theorem RowsQ.has{α:Type}{k:Nat}{f:α->List AV}{S:Store}{v:AV}{l:List α}(h:RowsQ k f S v l){b n c:Nat}(hv:v=.s (.slice (some ⟨b,0,none⟩) n c))(hc:0<c):S.has b:=by
 rcases h with(⟨rfl,_⟩|⟨b',cap,L,rfl,ho,_⟩)|⟨a,_,rfl,_⟩
 ·cases hv
 ·cases hv;exact xu ho
 ·cases hv;omega
def Store.objs0(S:Store):Store:=⟨S.obj,λ_=>none⟩
theorem ACalls.frozenEng{P:Program}{f:FuncId}{xs:List AV}{st0:Store}{Q:Ja}{R:Ja}(h:ACalls P f xs st0 Q)
  (hQ:∀r S,Q r S->R r Store.empty\/∃r2 X N eb raw plain p,zh X N/\¬X.has eb/\¬N.has eb/\S=(X.un N).sO eb (.cells (raw++[.s p]))/\raw.length=plain.length/\R r2 (N.objs0.sO eb (.cells (plain++[.s p])))∧
   ∀(Oth M:Nat->Nat->Prop) (W:World),StoreOK X Oth M W->(∀x,VRel W (λb o=>M b o\/Oth b o) (.agg raw) x->VRel W (λb o=>(M b o\/Oth b o)/\X.obj b=none) (.agg plain) x)∧
    ∀x,VRel W (λb o=>M b o\/Oth b o) r x->VRel W (λb o=>(M b o\/Oth b o)/\X.obj b=none) r2 x):ACalls P f xs st0 R:=by
 refine h.frozenLe ?_
 intro r S hq
 rcases hQ r S hq with hR|⟨r2,X,N,eb,raw,plain,p,hd,hx,hn,rfl,hl,hR,hb⟩
 ·exact⟨r,Store.empty,hR,λb x hx=>(by cases hx),λb x hx=>(by cases hx),λOth M w sto=>⟨λb x hx=>(by cases hx),λv hv=>hv.mono λb o h=>h.1⟩⟩
 have hS2:∀b x,(N.objs0.sO eb (.cells (plain++[.s p]))).obj b=some x->(b=eb/\x=.cells (plain++[.s p]))\/(b≠eb/\N.obj b=some x):=λb x hx=>Sj hx
 refine⟨r2,_,hR,λb x hx=>?_,λb x hx=>(by cases hx),λOth M w sto=>?_⟩
 ·rcases hS2 b x hx with⟨rfl,rfl⟩|⟨h1,h2⟩
  ·rw[zd];simp
  ·rw[zg h1,zf h2];simp
 have sX:StoreOK X Oth M w:=sto.weaken ⟨λb y hy=>by
  have e:b≠eb:=λe=>hx (by rw[<-e];exact xu hy)
  rw[zg e];exact ya hd hy,λb y hy=>K8 hd hy⟩
 obtain⟨k1,k2⟩:=hb Oth M w sX
 have hT:∀b o,((M b o\/Oth b o)/\(((X.un N).sO eb (.cells (raw++[.s p]))).obj b=none\/(N.objs0.sO eb (.cells (plain++[.s p]))).obj b≠none))->(M b o\/Oth b o)/\X.obj b=none:=λb o ⟨h1,h2⟩=>by
  refine⟨h1,?_⟩
  by_cases e:b=eb
  ·subst e;exact(wu hx).1
  ·rw[zg e,zg e]at h2
   cases hxb:X.obj b with
   |none=>rfl
   |some y=>
    rcases h2 with h2|h2
    ·rw[ya hd hxb]at h2;cases h2
    ·exact absurd (wu (hd b (xu hxb))).1 h2
 refine⟨λb x hx2=>?_,λv hv=>(k2 v hv).mono hT⟩
 rcases hS2 b x hx2 with⟨rfl,rfl⟩|⟨h1,h2⟩
 ·have ho:=(sto.obj b _ (zd _ _ _)).1
  have:=ye5 hl k1 (λy hy=>by rw[Fcb.1 hy];exact Pk p) ho
  exact ObjRel.mono hT (show ObjRel w (λb o=>(M b o\/Oth b o)/\X.obj b=none) (.cells (plain++[.s p])) b from this)
 ·exact(sto.obj b x (by rw[zg h1];exact zf h2)).1.mono λb o h=>h.1
section
variable {P:Program} {c:Cfg} {w:World} {st:Store} {Oth M:Nat->Nat->Prop}
theorem ygs{o:Oper}{t:TypeId}{x:Operand}(ho:o.op=.makeInterface t x){d:TypeDesc}(hd:yq P c.I->P.underlying t=some d)(hn:∀m,d≠.interface m){y:AV}{u:Value}
    (hy:∀(w:World) (T:Nat->Nat->Prop) (v:Value),VRel w T y v->v=u) {R:Ja} (h:R (.s (.iface t u)) st):AEff P c o [y] st R:=by
  refine⟨λOth M w ρ hI sto hr=>?_⟩
  rw[ho]at hr
  have hr:Reads w (λb o=>M b o\/Oth b o) [y] [ρ x]:=by simpa [Op.operands]using hr
  obtain⟨v,he,h1⟩:=I5 hr
  simp only[Fcq,and_true]at he
  rw[<-he]at h1
  have h1:=hy _ _ _ h1
  have hund:=ye (P:=P) (hd hI)
  have hrun:(execOp ρ o).run P w=.ok (.value (.iface t u)) w:=by
    simp only[execOp,ho,Instr.makeInterface,Sem.run_bind,hund,Result.andThen_ok,h1]
    cases d<;>simp at hn⊢
  rw[hrun]
  exact⟨_,_,_,h,.s _,sto,Chg.refl M w⟩
theorem ygr{o:Oper}{t:TypeId}{x:Operand}(ho:o.op=.makeInterface t x){it:TI}{e:TypeId}(hit:c.I t=some it)(hty:it.ty=.ptr e){u:Value}{R:Ja}(h:R (.s (.iface t u)) st):AEff P c o [.s u] st R:=
  ygs ho (λhI=>M9 (hI _ _ hit) hty) (λm h=>by cases h) (λw T v hv=>VRel.eq_s hv) h
end
section
variable {P:Program} {v:Value} {x:AV}
theorem gz{t:TypeId}{inf:TypeInfo}(h:P.info? t=some inf)(w:World):(typeInfo t).run P w=.ok inf w:=by
  simp[typeInfo,run_program,h]
theorem Meets.val{t:TypeId}{m:String}{g:FuncId}{inf:TypeInfo}{row:Method}{d:TypeDesc}(hi:P.info? t=some inf)(hf:inf.methods.find? (·.name==m)=some row)(hp:row.path=#[])
    (hr:row.func=some (g,false)) (hu:P.underlying t=some d) (hd:∀e,d≠.pointer e) (hx:∀w T,VRel w T x v):Meets P t v m g x:=by
  refine⟨v,λw=>?_,hx⟩
  have hdep:P.types.size+Made.depth=(P.types.size+99)+1:=rfl
  rw[hdep]
  generalize P.types.size+99=n
  have e:row.path.toList=[]:=by rw[hp]
  unfold method
  rw[Sem.run_bind,gz hi,Result.andThen_ok,hf]
  dsimp only
  rw[e]
  unfold follow
  rw[Sem.run_bind,Sem.run_pure,Result.andThen_ok]
  dsimp only
  rw[hr]
  dsimp only
  unfold receiverAt
  cases d<;>simp[ye hu,Place.get]at hd⊢
theorem Meets.ptr{t:TypeId}{m:String}{g:FuncId}{inf:TypeInfo}{row:Method}{e:TypeId}(hi:P.info? t=some inf)(hf:inf.methods.find? (·.name==m)=some row)(hp:row.path=#[])
    (hr:row.func=some (g,true)) (hu:P.underlying t=some (.pointer e)) (hx:∀w T,VRel w T x v):Meets P t v m g x:=by
  refine⟨v,λw=>?_,hx⟩
  have hdep:P.types.size+Made.depth=(P.types.size+99)+1:=rfl
  rw[hdep]
  generalize P.types.size+99=n
  have e:row.path.toList=[]:=by rw[hp]
  unfold method
  rw[Sem.run_bind,gz hi,Result.andThen_ok,hf]
  dsimp only
  rw[e]
  unfold follow
  rw[Sem.run_bind,Sem.run_pure,Result.andThen_ok]
  dsimp only
  rw[hr]
  dsimp only
  unfold receiverAt
  simp[ye hu,Place.get]
def Lu(P:Program)(t:TypeId)(m:String)(g:FuncId)(ptr:Bool):Bool:=
  match P.info? t,P.underlying t with
  | some inf,some d=>(match inf.methods.find? (·.name==m)with
    |some row=>row.path.isEmpty&&(match row.func with|some (f,b)=>Nat.beq f g&&(b==ptr)|none=>false)
    |none=>false)&&(match d with|.pointer _=>ptr|_=> !ptr)
  |_,_=>false
theorem zyp{t:TypeId}{m:String}{g:FuncId}{ptr:Bool}(h:Lu P t m g ptr=true):∃inf row d,P.info? t=some inf/\inf.methods.find? (·.name==m)=some row/\row.path=#[]/\row.func=some (g,ptr)/\P.underlying t=some d/\(match d with|.pointer _=>ptr|_=> !ptr)=true:=by
  unfold Lu at h
  split at h
  · rename_i inf d h1 h2
    rw[Faz]at h
    obtain⟨h3,h4⟩:=h
    split at h3
    · rename_i row h5
      rw[Faz]at h3
      obtain⟨h6,h7⟩:=h3
      split at h7
      · rename_i f b h8
        rw[Faz]at h7
        obtain⟨h9,h10⟩:=h7
        have e1:f=g:=Nat.eq_of_beq_eq_true h9
        have e2:b=ptr:=eq_of_beq h10
        subst e1 e2
        exact⟨inf,row,d,h1,h5,Array.isEmpty_iff.1 h6,h8,h2,h4⟩
      · cases h7
    · cases h3
  · cases h
theorem Meets.ptrB{t:TypeId}{m:String}{g:FuncId}(h:Lu P t m g true=true)(hx:∀w T,VRel w T x v):Meets P t v m g x:=by
  obtain⟨inf,row,d,h1,h2,h3,h4,h5,h6⟩:=zyp h
  cases d with
  |pointer e=>exact Meets.ptr h1 h2 h3 h4 h5 hx
  |_=>cases h6
end
def wn(v:Vc):Prop:=(-1099511627776<=v.1/\v.1<=1099511627776)/\(-1099511627776<=v.2/\v.2<=1099511627776)
theorem G8{v:Vc}(h:wn v):wg v:=by unfold wn at h;unfold wg;omega
theorem zcd{v:Vc}(h:wn v):v.ok:=by
 unfold wn at h
 exact⟨⟨by omega,by omega⟩,⟨by omega,by omega⟩⟩
theorem Mz{p q:Vc}(hp:qw p)(hq:qw q):wn (qr q p):=by
 rw[(Rl hp hq).1]
 unfold qw at hp hq
 unfold wn
 dsimp only
 omega
theorem yaj{w:Wld}{u:Unt}(hu:qw u.pos)(h:∀x∈w.U,x.inn=0->qw x.pos)(hl:w.U.length<=4096):wn (Ge w u):=by
 have key:∀(l:List Unt) (v:Vc) (B:Nat),(∀x∈l,x.inn=0->qw x.pos)->B+l.length<=4096->(v.1.natAbs<=B*16777216/\v.2.natAbs<=B*16777216)->
   wn (l.foldl (λv x=>if x.inn=0/\x.id≠u.id then ja v (wh u.pos (zr u.kind+zr x.kind+16384) x.pos)else v) v):=by
  intro l
  induction l with
  |nil=>
   intro v B _ hB hv
   unfold wn
   simp only[List.length_nil]at hB
   simp only[List.foldl_nil]
   omega
  |cons x l ih=>
   intro v B hx hB hv
   simp only[Fbh]at hB
   rw[Fcp]
   refine ih _ (B+1) (λy hy=>hx y (Fa3 _ hy)) (by omega) ?_
   split
   ·rename_i hc
    have r1:=Hf u.kind
    have r2:=Hf x.kind
    have:=Sz hu (hx x Fbi hc.1) (r:=zr u.kind+zr x.kind+16384) (by omega)
    generalize wh u.pos (zr u.kind+zr x.kind+16384) x.pos=z at*
    have e:ja v z=(v.1+z.1,v.2+z.2):=by
     unfold ja
     rw[Me (by omega) (by omega),Me (by omega) (by omega)]
    rw[e]
    dsimp only
    omega
   ·exact⟨Fda hv.1 (Fa5 _ (Fd5 B)),Fda hv.2 (Fa5 _ (Fd5 B))⟩
 unfold Ge
 refine key w.U (0,0) 0 h (by omega) ⟨?_,?_⟩
 ·show(0:Int).natAbs<=_;simp
 ·show(0:Int).natAbs<=_;simp
section
variable {u:Unt} {w:Wld} {n k:Nat}
theorem p9:∀{a b:List Unt},(a.map (·.id)).Pairwise (·<·)->(b.map (·.id)).Pairwise (·<·)->(∀u,u∈a↔u∈b)->a=b
 |[],[],_,_,_=>rfl
 |[],y::b,_,_,h=>absurd ((h y).2 Fbi) (by simp)
 |x::a,[],_,_,h=>absurd ((h x).1 Fbi) (by simp)
 |x::a,y::b,ha,hb,h=>by
  rw[Fb5,Fc5]at ha hb
  have hx:=(h x).1 Fbi
  have hy:=(h y).2 Fbi
  have e:x=y:=by
   rcases Faw.1 hx with e|hx
   ·exact e
   ·rcases Faw.1 hy with e|hy
    ·exact e.symm
    ·have h1:=hb.1 _ (Fad.2 ⟨x,hx,rfl⟩)
     have h2:=ha.1 _ (Fad.2 ⟨y,hy,rfl⟩)
     omega
  subst e
  refine congrArg _ (p9 ha.2 hb.2 λu=>⟨λhu=>?_,λhu=>?_⟩)
  ·rcases Faw.1 ((h u).1 (Fa3 _ hu))with e|e
   ·have:=ha.1 _ (Fad.2 ⟨u,hu,rfl⟩)
    rw[e]at this
    omega
   ·exact e
  ·rcases Faw.1 ((h u).2 (Fa3 _ hu))with e|e
   ·have:=hb.1 _ (Fad.2 ⟨u,hu,rfl⟩)
    rw[e]at this
    omega
   ·exact e
def nV(v:Vc):Prop:=(-9223372036854775807<=v.1/\v.1<=9223372036854775807)/\(-9223372036854775807<=v.2/\v.2<=9223372036854775807)
theorem mg(a b:Vc):nV (ja a b):=⟨Hz _ _,Hz _ _⟩
theorem Vl{v:Vc}(h:nV v):v.ok:=by
 unfold nV at h
 exact⟨⟨by omega,by omega⟩,⟨by omega,by omega⟩⟩
theorem pu{a:Int}(h:-9223372036854775807<=a/\a<=9223372036854775807):yx a 0=a:=by
 unfold yx
 rw[jc (by omega),jc (by omega)]
 unfold xm
 split
 ·omega
 ·split<;>omega
theorem zbc{v:Vc}(h:nV v):ja v (0,0)=v:=by
 unfold ja
 rw[pu h.1,pu h.2]
def vo(u:Unt)(v:Vc)(x:Unt):Vc:=if x.id≠u.id then ja v (wh u.pos (zr u.kind+zr x.kind+16384) x.pos)else v
theorem mc{x:Unt}{v:Vc}(h:nV v):nV (vo u v x):=by
 unfold vo
 split
 ·exact mg _ _
 ·exact h
theorem l9:∀(l:List Unt) {v:Vc},nV v->nV (l.foldl (vo u) v)
 |[],_,h=>h
 |x::l,_,h=>l9 l (mc h)
theorem zw3{p q:Vc}{r:Int}(h:near p q r=false):wh p r q=(0,0):=by
 unfold wh
 rw[h]
 simp
theorem O9(u:Unt)(r:Int)(hr:∀k,zr u.kind+zr k+16384<=r):∀(l:List Unt) (v:Vc),nV v->
  l.foldl (λv x=>if x.inn=0/\x.id≠u.id then ja v (wh u.pos (zr u.kind+zr x.kind+16384) x.pos)else v) v=(l.filter λx=>decide (x.inn=0)&&near u.pos x.pos r).foldl (vo u) v
 |[],v,_=>rfl
 |x::l,v,h=>by
  rw[Fcp,Fcv]
  by_cases h0:x.inn=0
  ·cases hn:near u.pos x.pos r with
   |true=>
    simp only[h0,decide_true,Bool.and_self,if_true,Fcp,true_and]
    exact O9 u r hr l _ (mc h)
   |false=>
    have hf:near u.pos x.pos (zr u.kind+zr x.kind+16384)=false:=by
     cases hc:near u.pos x.pos (zr u.kind+zr x.kind+16384)with
     |false=>rfl
     |true=>rw[l5 (hr x.kind) hc]at hn;cases hn
    simp only[h0,decide_true,Bool.and_false,Fae,if_false,true_and]
    rw[zw3 hf,zbc h,ite_self]
    exact O9 u r hr l _ h
  ·simp only[h0,decide_false,Bool.false_and,Fae,if_false,false_and]
   exact O9 u r hr l _ h
theorem yai(hr:yf w.U){us:List Unt}(hn:Hl w u.pos (zr u.kind+16384+81920) us)(hs:(us.map (·.id)).Pairwise (·<·)):Ge w u=us.foldl (vo u) (0,0):=by
 unfold Ge
 rw[O9 u (zr u.kind+16384+81920) (λk=>by have:=(Bh k).2;omega) w.U (0,0) ⟨⟨by decide,by decide⟩,⟨by decide,by decide⟩⟩]
 congr 1
 refine p9 ?_ hs λx=>?_
 ·have:(w.U.map (·.id)).Pairwise (·<·):=by
   rw[Fco]
   intro i j hi hj hij
   rw[Faq]at hi hj
   simp only[Fbw]
   exact D4 hr hij hj
  exact this.sublist (List.filter_sublist.map _)
 ·rw[Fbn,hn x,Faz,decide_eq_true_iff]
  constructor
  ·rintro⟨h1,h2,h3⟩;exact⟨⟨h1,h2⟩,h3⟩
  ·rintro⟨⟨h1,h2⟩,h3⟩;exact⟨h1,h2,h3⟩
theorem yas{v:Vc}(h:nV v)(k:Nat):nV (Ax v k):=by
 obtain⟨h1,h2⟩:=h
 have e1:=oi v.1 k
 have e2:=oi v.2 k
 unfold nV Ax
 dsimp only
 omega
theorem za7{v:Vc}(h:v.ok):nV (j3 v):=by
 obtain⟨h1,h2⟩:=h
 have e1:=ju h1
 have e2:=ju h2
 unfold nV j3
 dsimp only
 omega
theorem zb5{v:Vc}(h0:Ax v k≠(0,0))(hc:¬qm w u.id u.kind (ja u.pos (Ax v k))):v8 w u v (n+1) k=v8 w u v n (k+1):=by
 show(if _ then _ else if _ then _ else _)=_
 rw[if_neg h0,if_neg hc]
theorem zb3{v:Vc}(h0:Ax v k=(0,0)):v8 w u v (n+1) k=none:=by
 show(if _ then _ else if _ then _ else _)=_
 rw[if_pos h0]
theorem zb4{v:Vc}(h0:Ax v k≠(0,0))(hc:qm w u.id u.kind (ja u.pos (Ax v k))):v8 w u v (n+1) k=some (k,ja u.pos (Ax v k)):=by
 show(if _ then _ else if _ then _ else _)=_
 rw[if_neg h0,if_pos hc]
theorem zrc(hk:k<5):IntKind.i64.wrap (1*2^(min ((k:Int)).toNat IntKind.i64.bits))=((2^k:Nat):Int):=by
 have:k=0\/k=1\/k=2\/k=3\/k=4:=by omega
 rcases this with rfl|rfl|rfl|rfl|rfl<;>decide
end
section
variable {u n t:Nat} {x:Int}
def vn:Nat->(Nat->Nat)->Nat
 |0,_=>0
 |n+1,f=>vn n f+f n
theorem Sd{f g:Nat->Nat}:∀n,(∀t,t<n->f t=g t)->vn n f=vn n g
 |0,_=>rfl
 |n+1,h=>by
  show vn n f+f n=vn n g+g n
  rw[Sd n (λt ht=>h t (by omega)),h n (by omega)]
theorem R8{f g:Nat->Nat}:∀n,(∀t,t<n->f t<=g t)->vn n f<=vn n g
 |0,_=>Fak _
 |n+1,h=>by
  show vn n f+f n<=vn n g+g n
  have:=R8 n (λt ht=>h t (by omega))
  have:=h n (by omega)
  omega
theorem R9(c:Nat):∀n,vn n (λ_=>c)=n*c
 |0=>by simp[vn]
 |n+1=>by
  show vn n (λ_=>c)+c=_
  rw[R9 c n,Fea]
theorem Nh{f g:Nat->Nat}:∀n,u<n->(∀t,t<n->t≠u->f t=g t)->vn n f+g u=vn n g+f u
 |0,hu,_=>by omega
 |n+1,hu,h=>by
  show vn n f+f n+g u=vn n g+g n+f u
  by_cases e:u=n
  ·subst e
   rw[Sd u (λt ht=>h t (by omega) (by omega))]
   omega
  ·have:=Nh (f:=f) (g:=g) n (by omega) (λt ht hne=>h t (by omega) hne)
   have:=h n (by omega) (Ne.symm e)
   omega
def Cm(n:Nat)(d:Nat->Int):Nat:=vn n λt=>if 0<=d t then 1 else 0
theorem zcb(n:Nat)(d:Nat->Int):Cm n d<=n:=by
 have:=R8 (f:=λt=>if 0<=d t then 1 else 0) (g:=λ_=>1) n (λt _=>by split<;>omega)
 rw[R9]at this
 unfold Cm
 omega
theorem zca{d:Nat->Int}(hu:u<n)(h:d u<0)(hx:0<=x):Cm n (yu d u x)=Cm n d+1:=by
 have:=Nh (f:=λt=>if 0<=yu d u x t then 1 else 0) (g:=λt=>if 0<=d t then 1 else 0) n hu (λt _ hne=>by simp only[jl hne])
 simp only[wz,if_pos hx,if_neg (show¬0<=d u by omega)]at this
 unfold Cm
 omega
theorem zb9{d:Nat->Int}(h:0<=d u)(hx:0<=x):Cm n (yu d u x)=Cm n d:=by
 unfold Cm
 refine Sd n λt _=>?_
 by_cases e:t=u
 ·subst e;rw[wz,if_pos hx,if_pos h]
 ·rw[jl e]
def H1(n:Nat)(d:Nat->Int):Prop:=∀t,d t<=84*(Cm n d:Int)-84\/d t<0
theorem yeg{goal:Nat}(hg:goal<n){d:Nat->Int}(hd:∀u,d u=if u=goal then 0 else -1):H1 n d:=by
 intro t
 have h1:1<=Cm n d:=by
  have:=Nh (f:=λt=>if 0<=d t then 1 else 0) (g:=λt=>if t=goal then 0 else if 0<=d t then 1 else 0) n hg (λt _ hne=>by rw[if_neg hne])
  have h0:(if 0<=d goal then 1 else 0)=1:=by rw[hd,if_pos rfl];rfl
  simp only[if_true,h0]at this
  unfold Cm
  omega
 rw[hd]
 split
 ·left;omega
 ·right;omega
theorem r9{d:Nat->Int}(h:H1 n d){c:Int}(hu:u<n)(ht:0<=d t)(hc:0<c/\c<=84)(hl:d u<0\/d t+c<d u):H1 n (yu d u (d t+c)):=by
 have hdt:=h t
 by_cases hn:d u<0
 ·have e:=zca (n:=n) hu hn (show 0<=d t+c by omega)
  intro v
  rw[e]
  by_cases ev:v=u
  ·subst ev;rw[wz];omega
  ·rw[jl ev]
   have:=h v
   omega
 ·have e:=zb9 (n:=n) (d:=d) (u:=u) (by omega) (show 0<=d t+c by omega)
  intro v
  rw[e]
  by_cases ev:v=u
  ·subst ev;rw[wz]
   have:=h v
   omega
  ·rw[jl ev];exact h v
theorem W7{d:Nat->Int}(h:H1 n d)(t:Nat):d t<=84*(n:Int):=by
 have:=h t
 have:=zcb n d
 omega
def Cp(n:Nat)(dn:Nat->Bool):Nat:=vn n λt=>if dn t then 0 else 1
theorem zxq{dn:Nat->Bool}(ht:t<n)(h:dn t=false):Cp n (yu dn t true)+1=Cp n dn:=by
 have:=Nh (f:=λv=>if yu dn t true v=true then 0 else 1) (g:=λv=>if dn v=true then 0 else 1) n ht (λv _ hne=>by simp only[jl hne])
 simp only[wz,h,if_true,Fae,if_false]at this
 unfold Cp
 omega
end
section
variable {i n k:Nat}
theorem zwo{l:List (Int×Int)}(h:kx l)(x:Int×Int):UpF (qat (l++[x])) (l++[x]).length l.length:=by
 have h2:H8 (qat (l++[x])) l.length:=λj h0 hj=>by
  rw[i6 l x j hj,i6 l x (par j) (by have:=At h0;omega)]
  exact h j h0 hj
 have:=zbe h2
 simpa using this
theorem zwl{l:List (Int×Int)}(h:UpF (qat l) l.length i)(h0:0<i)(hi:i<l.length)(hl:qlt (qat l i) (qat l (par i))):
  UpF (qat (j7 l i (par i))) (j7 l i (par i)).length (par i)/\(j7 l i (par i)).Perm l:=by
 have hp:=At h0
 rw[iy hi (by omega),Ip]
 exact⟨zbd h h0 hi hl,fc hi (by omega)⟩
theorem iv{l:List (Int×Int)}(h:UpF (qat l) l.length i)(hi:i=0\/¬qlt (qat l i) (qat l (par i))):kx l:=zbf h hi
theorem zwn(l:List (Int×Int))(x:Int×Int):(l++[x]).Perm (x::l):=List.perm_append_singleton x l
theorem zwq{l:List (Int×Int)}(hl:l.length=n+1):l.Perm (qat l 0::(l.set 0 (qat l n)).take n):=by
 obtain⟨a,t,rfl⟩:∃a t,l=a::t:=by
  cases l with
  |nil=>simp at hl
  |cons a t=>exact⟨a,t,rfl⟩
 simp only[Fbh,Nat.add_right_cancel_iff]at hl
 have e0:qat (a::t) 0=a:=rfl
 rw[e0]
 refine List.Perm.cons a ?_
 cases n with
 |zero=>
  have:t=[]:=Fa0 hl
  subst this
  simp
 |succ n=>
  have e1:qat (a::t) (n+1)=t[n]'(by omega):=by
   rw[Lp (by simp;omega)]
   rfl
  rw[e1]
  show t.Perm ((t[n]'(by omega)::t).take (n+1))
  rw[List.take_succ_cons]
  have e2:t=t.take n++[t[n]'(by omega)]:=by
   have h1:=Fb7 n t
   have h2:t.drop n=[t[n]'(by omega)]:=by
    rw[Fem (by omega),List.drop_eq_nil_of_le (by omega)]
   rw[h2]at h1
   exact h1.symm
  exact(List.Perm.of_eq e2).trans (List.perm_append_singleton _ _)
theorem zws{l:List (Int×Int)}(hl:l.length=n+1)(h:kx l):Fq (qat ((l.set 0 (qat l n)).take n)) ((l.set 0 (qat l n)).take n).length 0:=by
 have hlen:((l.set 0 (qat l n)).take n).length=n:=by simp;omega
 rw[hlen]
 have h2:H8 (qat l) (n+1):=by rw[<-hl];exact h
 have key:∀j,0<j->j<n->qat ((l.set 0 (qat l n)).take n) j=qat l j:=λj h0 hj=>by
  unfold qat
  simp only[List.getD,Fb6 hj]
  rw[Fdq (by omega)]
 refine⟨λj h0 hj hp=>?_,λj h0 hj hp h1=>by omega⟩
 rw[key j h0 hj,key (par j) (by omega) (by have:=At h0;omega)]
 exact h2 j h0 (by omega)
theorem zwr{l:List (Int×Int)}(h:kx l):∀e∈l,¬qlt e (qat l 0):=λe he=>by
 obtain⟨j,hj,rfl⟩:=Faj he
 rw[<-Lp hj]
 exact yaq h j hj
theorem zwt{l:List (Int×Int)}(h:Fq (qat l) l.length i)(hc:l.length<=2*i+1):kx l:=
 ri h λj h0 hj hp=>by
  rcases(Lr h0).1 hp with e|e<;>omega
theorem Ss{l:List (Int×Int)}(h:Fq (qat l) l.length i)(hk:∀j,0<j->j<l.length->par j=i->¬qlt (qat l j) (qat l k))(hs:¬qlt (qat l k) (qat l i)):kx l:=
 ri h λj h0 hj hp=>Nz hs (hk j h0 hj hp)
theorem Su{l:List (Int×Int)}(h:Fq (qat l) l.length i)(hk0:0<k)(hk:k<l.length)(hki:par k=i)(hmin:∀j,0<j->j<l.length->par j=i->¬qlt (qat l j) (qat l k))(hl:qlt (qat l k) (qat l i)):
  Fq (qat (j7 l i k)) (j7 l i k).length k/\(j7 l i k).Perm l:=by
 have hp:=At hk0
 rw[iy (by omega) hk,Ip]
 exact⟨ydf h hk0 hk hki hmin hl,fc (by omega) hk⟩
theorem bf{f:Nat->Int×Int}(hk:k=2*i+1/\(2*i+2<n->¬qlt (f (2*i+2)) (f (2*i+1)))\/k=2*i+2/\qlt (f (2*i+2)) (f (2*i+1))):∀j,0<j->j<n->par j=i->¬qlt (f j) (f k):=by
 intro j h0 hj hp
 rcases(Lr h0).1 hp with e|e
 ·subst e
  rcases hk with⟨rfl,_⟩|⟨rfl,h2⟩
  ·exact Sw _
  ·exact N6 h2
 ·subst e
  rcases hk with⟨rfl,h1⟩|⟨rfl,h2⟩
  ·exact h1 hj
  ·exact Sw _
end
section
variable {F:Store} {p i b cap:Nat}
def itC(x:Int×Int):List AV:=[int x.1,int x.2]
theorem Ht(x:Int×Int):(itC x).length=2:=rfl
structure QAt(F:Store)(p b cap:Nat)(l:List (Int×Int))(L:List AV):Prop where
 hp:F.obj p=some (.cells [.s (.slice (some ⟨b,0,none⟩) l.length cap)])
 hb:F.obj b=some (.cells ((rws itC l).flatten++L))
 ne:b≠p
 h1:l.length<=cap
 h2:cap*2<=l.length*2+L.length
 h3:cap<=9223372036854775807
def QOf(F:Store)(p:Nat)(l:List (Int×Int)):Prop:=(F.obj p=some (.cells [.s (.slice none 0 0)])/\l=[])\/∃b cap L,QAt F p b cap l L
theorem QOf.rows{l:List (Int×Int)}(h:QOf F p l):∃v,F.obj p=some (.cells [v])/\RowsO 2 itC F v l/\∀b c0,v=.s (.slice (some ⟨b,0,none⟩) l.length c0)->b≠p:=by
 rcases h with⟨h,rfl⟩|⟨b,cap,L,h⟩
 ·exact⟨_,h,.inl ⟨rfl,rfl⟩,λb c0 e=>by simp at e⟩
 ·refine⟨_,h.hp,.inr ⟨b,cap,L,rfl,h.hb,h.h1,h.h2,h.h3⟩,λb' c0 e=>?_⟩
  simp only[AV.s.injEq,Value.slice.injEq,Fah,Addr.mk.injEq]at e
  exact e.1.1▸h.ne
theorem QOf.pos{l:List (Int×Int)}(h:QOf F p l)(hl:0<l.length):∃b cap L,QAt F p b cap l L:=by
 rcases h with⟨h,rfl⟩|h
 ·exact absurd hl (Fes 0)
 ·exact h
theorem zzr{l:List (Int×Int)}(hi:i<l.length)(x:Int×Int)(L:List AV):zw ((rws itC l).flatten++L) (0+i*2) (itC x)=(rws itC (l.set i x)).flatten++L:=by
 have:=fq (f:=itC) (k:=2) Ht hi (j:=0) (x':=x) (ys:=itC x) (L:=L) (by show 0+2<=2;omega) (by
  unfold zw
  rw[Ht]
  rfl)
 rw[Fek]at this
 rw[Fbd]
 exact this
theorem kk{l:List (Int×Int)}{L:List AV}(hi:i<l.length):List.drop (0+i*2) ((rws itC l).flatten++L)=itC (qat l i)++((rws itC (l.drop (i+1))).flatten++L):=by
 have h1:(rws itC (l.take i)).flatten.length=i*2:=by rw[j9 Ht,Fan,Fdw (by omega)]
 rw[Fbd,No hi,Fat,<-h1,Fd9,Fat,Lp hi]
theorem Fc{l:List (Int×Int)}{L:List AV}(hi:i<l.length)(x:Int×Int):0+i*2+(itC x).length<=((rws itC l).flatten++L).length:=by
 rw[Fag,j9 Ht,Ht]
 omega
theorem QAt.set{l:List (Int×Int)}{L:List AV}(h:QAt F p b cap l L)(hi:i<l.length)(x:Int×Int):QAt (F.sO b (.cells (zw ((rws itC l).flatten++L) (0+i*2) (itC x)))) p b cap (l.set i x) L:=by
 rw[zzr hi]
 exact⟨by rw[zg (Ne.symm h.ne),Fa6];exact h.hp,zd _ _ _,h.ne,by rw[Fa6];exact h.h1,by rw[Fa6];exact h.h2,h.h3⟩
theorem QAt.cut{l:List (Int×Int)}{L:List AV}(h:QAt F p b cap l L){n:Nat}(hn:n<=l.length):QAt (F.sO p (.cells [.s (.slice (some ⟨b,0,none⟩) n cap)])) p b cap (l.take n) ((rws itC (l.drop n)).flatten++L):=by
 have e:(rws itC (l.take n)).flatten++((rws itC (l.drop n)).flatten++L)=(rws itC l).flatten++L:=by
  rw[<-Fat,<-F4,Fb7]
 have hl:(l.take n).length=n:=by rw[Fan];omega
 refine⟨by rw[zd,hl],by rw[zg h.ne,e];exact h.hb,h.ne,by rw[hl];have:=h.h1;omega,?_,h.h3⟩
 have:=h.h2
 rw[hl,Fag,j9 Ht,Fcf]
 omega
end
section
variable {i:Nat}
def wk(v:Int)(k:Nat)(t:Nat):Int:=if t<k then v else 0
theorem zwc{n k m:Nat}{v:Int}(hk:m<=k)(hn:k+m<=n):zw (il n (wk v k)) (0+k*1) ((List.drop (0+0*1) (il n (wk v k))).take (m*1))=il n (wk v (k+m)):=by
 have e:(List.drop (0+0*1) (il n (wk v k))).take (m*1)=List.replicate m (int v):=by
  rw[show 0+0*1=0 from rfl,Fce,Fer]
  apply Fdt
  ·rw[Fan,qy,Fbl];omega
  ·intro i h1 h2
   rw[Fbl]at h2
   rw[Fdl,List.getElem_replicate]
   simp only[il,Fbw,List.getElem_range]
   rw[wk,if_pos (by omega)]
 rw[e]
 unfold zw
 rw[Fbl,show 0+k*1=k by omega]
 apply Fb9
 intro i
 by_cases h1:i<k
 ·rw[Fat,Fam (by rw[Fan,qy];omega),Fb6 h1,Cy (by omega),Cy (by omega),wk,wk,if_pos h1,if_pos (by omega)]
 ·by_cases h2:i<k+m
  ·rw[Fat,Fax (by rw[Fan,qy];omega),Fan,qy,Fam (by rw[Fbl];omega),Fb3,if_pos (by omega),Cy (by omega),wk,if_pos h2]
  ·rw[Fax (by rw[Fag,Fan,qy,Fbl];omega),Fag,Fan,qy,Fbl,Fck,show k+m+(i-(min k n+m))=i by omega]
   by_cases h3:i<n
   ·rw[Cy h3,Cy h3,wk,wk,if_neg h1,if_neg h2]
   ·rw[Fbo (by rw[qy];omega),Fbo (by rw[qy];omega)]
theorem yaf(n:Nat)(v:Int):il n (wk v n)=il n λ_=>v:=L4 λt ht=>if_pos ht
def K0(g:Gnd)(t:Nat):AV:=.agg (il 8 (yi g t))
def C8(g:Gnd)(t i:Nat)(j:Nat):Int:=if j<i then yi g t j else 0
theorem yfu(g:Gnd)(t:Nat):il 8 (C8 g t 8)=il 8 (yi g t):=L4 λj hj=>if_pos hj
theorem yfv(g:Gnd)(t:Nat)(hi:i<8):yi g t i=Hm g ((t:Int)%g.W) ((t:Int)/g.W) (dirL.getD i (0,0)):=by
 unfold yi Dp
 rw[Fbb,Fap,Fbb,Fab (show i<dirL.length from hi)]
 rfl
theorem yft(g:Gnd)(t:Nat)(v:Int)(hv:v=yi g t i):setI (C8 g t i) i v=C8 g t (i+1):=funext λj=>by
 unfold setI C8
 by_cases h:j=i
 ·subst h
  rw[if_pos rfl,if_pos (by omega),hv]
 ·rw[if_neg h]
  by_cases h2:j<i
  ·rw[if_pos h2,if_pos (by omega)]
  ·rw[if_neg h2,if_neg (by omega)]
def dirC:List AV:=(dirL.map Gv).flatten
theorem ydw(hi:i<8):dirC.drop (i*2)=Gv (dirL.getD i (0,0))++dirC.drop (i*2+2):=by
 have h:i=0\/i=1\/i=2\/i=3\/i=4\/i=5\/i=6\/i=7:=by omega
 rcases h with rfl|rfl|rfl|rfl|rfl|rfl|rfl|rfl<;>rfl
theorem ydv(hi:i<8):(-1<=(dirL.getD i (0,0)).1/\(dirL.getD i (0,0)).1<=1)/\-1<=(dirL.getD i (0,0)).2/\(dirL.getD i (0,0)).2<=1:=by
 have h:i=0\/i=1\/i=2\/i=3\/i=4\/i=5\/i=6\/i=7:=by omega
 rcases h with rfl|rfl|rfl|rfl|rfl|rfl|rfl|rfl<;>decide
end
def Ie(g:Gnd)(ok:Nat->Bool)(c:Int)(t i:Nat):Nat->Nat->Int->Prop:=λa u k=>a=t/\∃w,i<=w/\w<8/\yi g t w=(u:Int)/\k=qo g ok c t w
theorem Wy{E:Nat->Nat->Int->Prop}{n goal:Nat}{d:Nat->Int}{dn:Nat->Bool}{q q':List (Int×Int)}{cur:Int}{O:Nat->Nat->Int->Prop}(h:DJ E n goal d dn q cur O)(hp:q.Perm q'):DJ E n goal d dn q' cur O:=
 ⟨h.lab,h.gl,h.pre,h.rel,h.mono,λe he=>h.ent e (hp.mem_iff.2 he),λu hu hn=>hp.mem_iff.1 (h.wait u hu hn)⟩
section
variable {g:Gnd} {ok:Nat->Bool} {c:Int} {n goal:Nat} {d:Nat->Int} {dn:Nat->Bool} {q:List (Int×Int)} {cur:Int}
theorem zaw{t:Nat}(h:DJ (wy g ok c) n goal d dn q cur (λa _ _=>a=t)):DJ (wy g ok c) n goal d dn q cur (Ie g ok c t 0):=
 Wz h λa u k ha hn hE=>by
  obtain⟨_,_,w,hw,h1,_,h2,_⟩:=hE
  subst ha
  exact absurd ⟨rfl,w,Fai _,hw,h1,h2⟩ hn
theorem zax{t:Nat}(h:DJ (wy g ok c) n goal d dn q cur (Ie g ok c t 8)):DJ (wy g ok c) n goal d dn q cur Hk:=
 Wz h λa u k ha hn hE=>by
  obtain⟨_,w,h1,h2,_⟩:=ha
  omega
theorem Rm{t i:Nat}(h:DJ (wy g ok c) n goal d dn q cur (Ie g ok c t i))(hp:∀u:Nat,yi g t i=u->0<qo g ok c t i->0<=d u/\d u<=d t+qo g ok c t i):DJ (wy g ok c) n goal d dn q cur (Ie g ok c t (i+1)):=
 Wz h λa u k ha hn hE=>by
  obtain⟨rfl,w,h1,h2,h3,rfl⟩:=ha
  by_cases hw:w=i
  ·subst hw
   exact hp u h3 (Pr _ _ _ hE)
  ·exact absurd ⟨rfl,w,by omega,h2,h3,rfl⟩ hn
theorem ydo{O:Nat->Nat->Int->Prop}(h:DJ (wy g ok c) n goal d dn q cur O)(hgoal:ok goal=true){u:Nat}(hu:0<=d u):ok u=true:=by
 by_cases e:u=goal
 ·rw[e];exact hgoal
 ·obtain⟨t,k,_,_,hE,_⟩:=h.pre u e hu
  obtain⟨_,_,_,_,_,h1,_⟩:=hE
  exact h1
end
def V1:Option (Int×Int)->Int
 |none=>0
 |some x=>x.1
def M5:Option (Int×Int)->Int
 |none=>0
 |some x=>x.2
def qq(S:Store)(b b2 n:Nat)(d:Nat->Int)(dn:Nat->Bool):Store:=(S.sO b (.cells (il n d))).sO b2 (.cells (bl n dn))
section
variable {S:Store} {b b2 n:Nat}
theorem o8(hb:b≠b2)(d:Nat->Int)(dn:Nat->Bool):(qq S b b2 n d dn).obj b=some (.cells (il n d)):=by
 unfold qq
 rw[zg hb,zd]
theorem yb8(d:Nat->Int)(dn:Nat->Bool):(qq S b b2 n d dn).obj b2=some (.cells (bl n dn)):=zd _ _ _
theorem yb7{i:Nat}{x:AObj}(hf:Fresh S b)(hf2:Fresh (S.sO b x) b2){y:AObj}(h:S.obj i=some y)(d:Nat->Int)(dn:Nat->Bool):(qq S b b2 n d dn).obj i=some y:=by
 have h1:i≠b:=λe=>by rw[e,hf.1]at h;cases h
 have h2:i≠b2:=λe=>by
  have:=hf2.1
  rw[<-e,zg h1,h]at this;cases this
 unfold qq
 rw[zg h2,zg h1]
 exact h
theorem o7(hb:b≠b2)(d d':Nat->Int)(dn:Nat->Bool):(qq S b b2 n d dn).sO b (.cells (il n d'))=qq S b b2 n d' dn:=by
 unfold qq
 rw[D3 hb,yr]
theorem yb6(d:Nat->Int)(dn dn':Nat->Bool):(qq S b b2 n d dn).sO b2 (.cells (bl n dn'))=qq S b b2 n d dn':=yr _ _ _ _
theorem fld_has{d:Nat->Int}{dn:Nat->Bool}{i:Nat}:(qq S b b2 n d dn).has i↔i=b2\/i=b\/S.has i:=by
 unfold qq
 rw[has_setObj_iff,has_setObj_iff]
theorem yb9{F:Store}{d d':Nat->Int}{dn dn':Nat->Bool}(h:zh F (qq S b b2 n d dn)):zh F (qq S b b2 n d' dn'):=λi h1 h2=>h i h1 (fld_has.2 (fld_has.1 h2))
theorem yca(hf:Fresh S b){x:AObj}(hf2:Fresh (S.sO b x) b2){F:Store}(hb:b≠b2){d:Nat->Int}{dn:Nat->Bool}:(F.un (qq S b b2 n d dn)).Has (S.sO b (.cells (il n d))):=by
 have hn:(S.sO b (.cells (il n d))).obj b2=none:=by
  have:=hf2.1
  rw[zg (Ne.symm hb)]at this⊢
  exact this
 exact⟨λi y hi=>zf ((Fe hn).obj i y hi),λi y hi=>Dy hi⟩
end
theorem O6(n:Nat)(d:Nat->Int)(u:Nat)(v:Int)(hu:u<n):zw (il n d) (0+u*1) [int v]=il n (yu d u v):=by
 rw[show 0+u*1=u by omega,Gd hu]
 rfl
theorem yfp(n:Nat)(d:Nat->Bool)(u:Nat)(v:Bool)(hu:u<n):zw (bl n d) (0+u*1) [bool v]=bl n (yu d u v):=by
 rw[show 0+u*1=u by omega]
 have:=Fl (f:=d) hu (yu d u v) (λs hs=>jl hs)
 rw[wz]at this
 exact this
theorem O7{n:Nat}{f:Nat->Int}{t:Nat}(h:t<n):((il n f).drop (t*1)).head?=some (int (f t)):=by
 have:=Aw (f:=f) h
 rwa [Fbd]at this
theorem zxr(n:Nat)(dn:Nat->Bool):Cp n dn<=n:=by
 have:=R8 (f:=λt=>if dn t=true then 0 else 1) (g:=λ_=>1) n (λt _=>by split<;>omega)
 rw[R9]at this
 unfold Cp
 omega
def Ff(g:Gnd)(ok:Nat->Bool)(c:Int)(d:Nat->Int)(t w:Nat):Prop:=0<qo g ok c t w/\0<=d (yi g t w).toNat/\qo g ok c t w+d (yi g t w).toNat=d t
theorem yck{p:Nat->Bool}{n j:Nat}(hj:j<n)(hp:p j=true)(hn:∀w,w<j->p w=false):(List.range n).find? p=some j:=by
 rw[List.find?_range_eq_some]
 exact⟨hp,Fa8.2 hj,λw hw=>by rw[hn w hw];rfl⟩
theorem ycj{p:Nat->Bool}{n:Nat}(hn:∀w,w<n->p w=false):(List.range n).find? p=none:=by
 rw[Fct]
 intro w hw
 rw[hn w (Fa8.1 hw)]
 decide
section
variable {g:Gnd} {ok:Nat->Bool} {c:Int} {d:Nat->Int} {t:Nat}
theorem za0(h:d t<=0):xk g ok c d t=-1:=by
 unfold xk
 rw[if_pos h]
theorem zay(h:¬d t<=0){j:Nat}(hj:j<8)(hp:Ff g ok c d t j)(hn:∀w,w<j->¬Ff g ok c d t w):xk g ok c d t=(j:Int):=by
 unfold xk
 rw[if_neg h,yck hj (by exact decide_eq_true hp) (λw hw=>by exact decide_eq_false (hn w hw))]
theorem zaz(h:¬d t<=0)(hn:∀w,w<8->¬Ff g ok c d t w):xk g ok c d t=-1:=by
 unfold xk
 rw[if_neg h,ycj (λw hw=>by exact decide_eq_false (hn w hw))]
end
theorem za1(g:Gnd)(ok:Nat->Bool)(c:Int)(d:Nat->Int)(t:Nat):xk g ok c d t=-1\/∃j:Nat,j<8/\xk g ok c d t=(j:Int)/\Ff g ok c d t j:=by
 unfold xk
 split
 ·exact .inl rfl
 ·cases h:(List.range 8).find? λway=>decide (0<qo g ok c t way/\0<=d (yi g t way).toNat/\qo g ok c t way+d (yi g t way).toNat=d t)with
  |none=>exact .inl rfl
  |some j=>
   have h1:=Fc7 h
   have h2:=Feh h
   exact .inr ⟨j,Fa8.1 h1,rfl,by simp only[decide_eq_true_eq]at h2;exact h2⟩
noncomputable def wj(g:Gnd)(ok:Nat->Bool)(c:Int)(d:Nat->Int)(i t:Nat):Int:=if t<i then xk g ok c d t else -1
theorem cx{g:Gnd}{ok:Nat->Bool}{c:Int}{d:Nat->Int}{i:Nat}:wj g ok c d (i+1)=yu (wj g ok c d i) i (xk g ok c d i):=funext λt=>by
 unfold wj yu
 dsimp only
 by_cases h:t=i
 ·subst h;rw[if_pos (by omega),if_pos rfl]
 ·rw[if_neg h]
  by_cases h2:t<i
  ·rw[if_pos h2,if_pos (by omega)]
  ·rw[if_neg h2,if_neg (by omega)]
theorem cw{g:Gnd}{ok:Nat->Bool}{c:Int}{d:Nat->Int}{i:Nat}(h:xk g ok c d i=-1):wj g ok c d (i+1)=wj g ok c d i:=by
 rw[cx,h]
 funext t
 unfold yu wj
 by_cases h:t=i
 ·subst h;rw[if_pos rfl,if_neg (by omega)]
 ·rw[if_neg h]
theorem zau(g:Gnd)(ok:Nat->Bool)(c:Int)(d:Nat->Int):wj g ok c d 0=λ_=>-1:=funext λt=>if_neg (Fbe t)
theorem zav(g:Gnd)(ok:Nat->Bool)(c:Int)(d:Nat->Int)(n:Nat):il n (wj g ok c d n)=il n (xk g ok c d):=L4 λt ht=>if_pos ht
def j5(S:Store)(b b2 n:Nat)(d f:Nat->Int):Store:=(S.sO b (.cells (il n d))).sO b2 (.cells (il n f))
section
variable {S:Store} {b b2 n:Nat}
theorem zbz(hb:b≠b2)(d f:Nat->Int):(j5 S b b2 n d f).obj b=some (.cells (il n d)):=by
 unfold j5
 rw[zg hb,zd]
theorem zby(d f:Nat->Int):(j5 S b b2 n d f).obj b2=some (.cells (il n f)):=zd _ _ _
theorem zbw{i:Nat}{x:AObj}(hf:Fresh S b)(hf2:Fresh (S.sO b x) b2){y:AObj}(h:S.obj i=some y)(d f:Nat->Int):(j5 S b b2 n d f).obj i=some y:=by
 have h1:i≠b:=λe=>by rw[e,hf.1]at h;cases h
 have h2:i≠b2:=λe=>by
  have:=hf2.1
  rw[<-e,zg h1,h]at this;cases this
 unfold j5
 rw[zg h2,zg h1]
 exact h
theorem zbv(d f f':Nat->Int):(j5 S b b2 n d f).sO b2 (.cells (il n f'))=j5 S b b2 n d f':=yr _ _ _ _
theorem zbx{x:AObj}(hb:b≠b2)(hf2:Fresh (S.sO b x) b2):Fresh S b2:=by
 have:=hf2
 unfold Fresh at this⊢
 rw[zg (Ne.symm hb)]at this
 exact this
theorem zb0(hf:Fresh S b)(hb:b≠b2)(d f:Nat->Int):(j5 S b b2 n d f).Has (S.sO b2 (.cells (il n f))):=by
 unfold j5
 rw[D3 (Ne.symm hb)]
 refine Fe ?_
 rw[zg hb]
 exact hf.1
end
theorem zya(g:Gnd)(t:Nat):Dp g t=(List.range 8).map (yi g t):=by
 apply Fdt
 ·rw[Ok,Faq,Fdk]
 ·intro i h1 h2
  rw[Ok]at h1
  simp only[Fbw,List.getElem_range]
  unfold yi
  rw[Fbb,Fab (by rw[Ok];exact h1)]
  rfl
theorem zyc(g:Gnd)(t:Nat)(x:Int):(Dp g t).contains x=(List.range 8).any λj=>yi g t j==x:=by
 rw[zya,List.contains_eq_any_beq,List.any_map]
 congr 1
 funext j
 show(x==yi g t j)=_
 rw[Fbq,beq_iff_eq,beq_iff_eq]
 exact eq_comm
theorem ygi{p:Nat->Bool}{n k:Nat}(hk:k<n)(hp:p k=true):(List.range n).any p=true:=Fdu.2 ⟨k,Fa8.2 hk,hp⟩
theorem ygh{p:Nat->Bool}{n:Nat}(hp:∀k,k<n->p k=false):(List.range n).any p=false:=by
 rw[Fdm]
 intro k hk
 rw[hp k (Fa8.1 hk)]
 decide
end Go.V
