/- Ground of laws of throngtop: contracts and plain lemmas; no condition beyond the row's own. -/
import Derived.Test.YtkahacegdhllcaaGreatKO
set_option linter.unusedSimpArgs false
set_option linter.unusedVariables false
set_option linter.defProp false
namespace Go.V
def ACalls.frozenLe{P:Program}{f:FuncId}{xs:List AV}{st0:Store}{Q:Ja}{R:Ja}(h:ACalls P f xs st0 Q)
  (hQ:∀r S,Q r S->∃r2 S2,R r2 S2/\(∀b x,S2.obj b=some x->S.obj b≠none)/\(∀b x,S2.tok b≠some x)∧
   ∀(Oth M:BB) (w:World),StoreOK S Oth M w->(∀b x,S2.obj b=some x->ObjRel w (λb o=>(M b o\/Oth b o)/\(S.obj b=none\/S2.obj b≠none)) x b)∧
    ∀v,VRel w (λb o=>M b o\/Oth b o) r v->VRel w (λb o=>(M b o\/Oth b o)/\(S.obj b=none\/S2.obj b≠none)) r2 v):
  ACalls P f xs st0 R:=by
 refine⟨λOth M w vs sto hr=>?_⟩;have h1:=h.out Oth M w vs sto hr;have key:∀v w',xm st0 Q Oth M w v w'->xm st0 R Oth M w v w':=by
  rintro v w' ⟨r,S,M',hq,hv,hs,hc⟩;have⟨r2,S2,hr2,hsub,htok,hk⟩:=hQ r S hq;have⟨hk1,hk2⟩:=hk Oth M' w' hs;have hT:∀b o,((M' b o/\(S.obj b=none\/S2.obj b≠none))\/Oth b o)->((M' b o\/Oth b o)/\(S.obj b=none\/S2.obj b≠none)):=λb o h=>by
   rcases h with⟨h1,h2⟩|h1
   ·exact⟨.inl h1,h2⟩
   ·refine⟨.inr h1,?_⟩;cases hb:S.obj b with
    |none=>exact .inl rfl
    |some y=>exact absurd ((hs.obj b y hb).2 o) (hs.dis b o h1)
  refine⟨r2,S2,λb o=>M' b o/\(S.obj b=none\/S2.obj b≠none),hr2,(hk2 v hv).mono hT,?_,?_⟩
  ·refine{obj:=λb x hx=>⟨(hk1 b x hx).mono hT,λo=>⟨?_,.inr (by rw[hx];simp)⟩⟩,tok:=λb x hx=>absurd hx (htok b x),mlt:=λb o hm=>hs.mlt b o hm.1,olt:=hs.olt,dis:=λb o ho hm=>hs.dis b o ho hm.1};cases hb:S.obj b with
   |none=>grind
   |some y=>exact(hs.obj b y hb).2 o
  ·exact{size:=hc.size,keep:=hc.keep,blk:=hc.blk,shp:=hc.shp,sub:=λb o hm hb=>hc.sub b o hm.1 hb,tape:=hc.tape,os:=hc.os,output:=hc.output}
 generalize(callFunc f vs).run P w=res at h1;cases res with
 |ok n w'=>
  cases n with
  |enter g args=>exact Calls.mono h1 λe w'' ⟨v,he,hv⟩=>⟨v,he,key _ _ hv⟩
  |value v=>exact key _ _ h1
  |_=>exact h1
 |_=>exact h1
def su(x:AObj):Prop:=∀w T T' b,ObjRel w T x b->ObjRel w T' x b
def yph{l:List AV}(h:∀y∈l,flat y):su (.cells l):=by rintro w T T' b ⟨c,e,fr,h1,h2,h3,h4⟩;exact⟨c,e,fr,h1,h2,h3,λi x y hx hy=>h x (Fa4 hx) _ _ _ _ _ (h4 i x y hx hy)⟩
theorem ypg:flat .any:=λ_ _ _ _ _ _=>.any _
def mj{st:Store}{p b:Nat}{x y:AObj}(h:(st.sO p x).obj b=some y):(b=p/\y=x)\/(b≠p/\st.obj b=some y):=by
 by_cases e:b=p
 ·simp_all[zd]
 grind[zf]
theorem RowsQ.flatten{α:Type}{k:Nat}{f:α->List AV}{N:Store}{v:AV}{l:List α}(hs:∀x,∀y∈f x,∃u,y=AV.s u/\xe u=true)(h:RowsQ k f N v l):
  ∃N2,N.Le N2/\RowsQ k f N2 v l/\flat v/\∀b x,N2.obj b=some x->su x:=by
 have none:v=.s (.slice none 0 0)/\l=[]\/(∃a,Ia a/\v=.s (.slice a 0 0)/\l=[])->∃N2,N.Le N2/\RowsQ k f N2 v l/\flat v/\∀b x,N2.obj b=some x->su x:=λhh=>⟨Store.empty,⟨λb y hy=>(by cases hy),λb x hx=>γ⟩,hh.elim (λe=>.inl (.inl e)) .inr,(by grind[Sn]),λb x hx=>γ⟩
 rcases h with(h|⟨b,cap,L,rfl,ho,h1,h2,h3⟩)|h
 ·exact none (.inl h)
 ·refine⟨Store.empty.sO b (.cells ((rws f l).flatten++List.replicate L.length .any)),⟨λb' y hy=>?_,λb x hx=>γ⟩,.inl (.inr ⟨b,cap,List.replicate L.length .any,rfl,zd _ _ _,h1,δ,h3⟩),Sn _,λb' x hx=>?_⟩
  ·rcases mj hy with⟨rfl,rfl⟩|⟨_,hy⟩
   ·refine⟨_,ho,AObj.le_cells φ λi x y hx hy=>?_⟩;grind[AV.le_refl,AV.le_any]
   ·cases hy
  ·rcases mj hx with⟨rfl,rfl⟩|⟨_,hx⟩
   ·refine yph λy hy=>?_;rcases Faq.1 hy with hy|hy
    ·have⟨r,hr,hy⟩:=Fdw.1 hy;obtain⟨a,_,rfl⟩:=Fag.1 hr;obtain⟨u,rfl,_⟩:=hs a y hy;exact Sn _
    grind[ypg]
   ·cases hx
 ·exact none (.inr h)
def VRel.tup2{w:World}{T T':BB}{a b a' b':AV}{v:Value}(h:VRel w T (.tup [a,b]) v)(ha:∀x,VRel w T a x->VRel w T' a' x)(hb:∀x,VRel w T b x->VRel w T' b' x):VRel w T' (.tup [a',b']) v:=by
 cases h with
 |tup _ c hl hc=>
  refine .tup _ c hl λi x y hx hy=>?_;grind
def ys1{W:World}{T T':BB}{l l' r:List AV}{b:Nat}(hl:l.length=l'.length)(h:∀x,VRel W T (.agg l) x->VRel W T' (.agg l') x)(hr:∀y∈r,flat y)(hc:CellsRel W T (l++r) b):CellsRel W T' (l'++r) b:=by
 have⟨c,e,fr,h1,h2,h3,h4⟩:=hc;rw[Fac]at h3;have hx:=h (.agg (c.extract 0 l.length)) (.agg _ _ χ λi x y hx hy=>by
  have hi:=(Fax.1 hx).1;refine h4 i x y (by rw[Fa5 hi];exact hx) ?_;rw[Array.getElem?_extract]at hy;split at hy
  ·simpa using hy
  ·cases hy)
 cases hx with
 |agg _ _ hl2 hc2=>
  refine⟨c,e,fr,h1,h2,by rw[Fac];omega,λi x y hx hy=>?_⟩;by_cases hi:i<l'.length
  ·rw[Fa5 hi]at hx;refine hc2 i x y hx ?_;rw[Array.getElem?_extract,if_pos θ];simpa using hy
  ·rw[Fa7 θ]at hx;refine hr x (Fa4 hx) _ _ _ _ _ (h4 i x y ?_ hy);rw[Fa7 θ,hl];exact hx
theorem RowsQ.has{α:Type}{k:Nat}{f:α->List AV}{S:Store}{v:AV}{l:List α}(h:RowsQ k f S v l){b n c:Nat}(hv:v=.s (.slice (some ⟨b,0,none⟩) n c))(hc:0<c):S.has b:=by
 rcases h with(⟨rfl,_⟩|⟨b',cap,L,rfl,ho,_⟩)|⟨a,_,rfl,_⟩
 ·cases hv
 ·cases hv;exact j6 ho
 ·cases hv;omega
def Store.objs0(S:Store):Store:=⟨S.obj,λ_=>none⟩
def ACalls.frozenEng{P:Program}{f:FuncId}{xs:List AV}{st0:Store}{Q:Ja}{R:Ja}(h:ACalls P f xs st0 Q)
  (hQ:∀r S,Q r S->(∃S2:Store,R r S2/\(∀b x,S2.obj b=some x->S.obj b=some x)/\∀b,S2.tok b=none)\/∃r2 X N eb raw plain p,zj X N/\¬X.has eb/\¬N.has eb/\S=(X.un N).sO eb (.cells (raw++[.s p]))/\raw.length=plain.length/\R r2 (N.objs0.sO eb (.cells (plain++[.s p])))∧
   ∀(Oth M:BB) (W:World),StoreOK X Oth M W->(∀x,VRel W (λb o=>M b o\/Oth b o) (.agg raw) x->VRel W (λb o=>(M b o\/Oth b o)/\X.obj b=none) (.agg plain) x)∧
    ∀x,VRel W (λb o=>M b o\/Oth b o) r x->VRel W (λb o=>(M b o\/Oth b o)/\X.obj b=none) r2 x):ACalls P f xs st0 R:=by
 refine h.frozenLe ?_;intro r S hq;rcases hQ r S hq with⟨S2,hR,h2,h3⟩|⟨r2,X,N,eb,raw,plain,p,hd,hx,hn,rfl,hl,hR,hb⟩
 ·exact⟨r,S2,hR,λb x hx=>(by rw[h2 b x hx];simp),λb x hx=>(by rw[h3 b]at hx;cases hx),λOth M w sto=>⟨λb x hx=>(sto.obj b x (h2 b x hx)).1.mono λb o h=>h.1,λv hv=>hv.mono λb o h=>h.1⟩⟩
 have hS2:∀b x,(N.objs0.sO eb (.cells (plain++[.s p]))).obj b=some x->(b=eb/\x=.cells (plain++[.s p]))\/(b≠eb/\N.obj b=some x):=λb x hx=>mj hx;refine⟨r2,_,hR,λb x hx=>?_,λb x hx=>γ,λOth M w sto=>?_⟩
 ·rcases hS2 b x hx with⟨rfl,rfl⟩|⟨h1,h2⟩
  ·rw[zd];simp
  ·rw[zf h1,zg h2];simp
 have sX:StoreOK X Oth M w:=sto.weaken ⟨λb y hy=>by have e:b≠eb:=λe=>hx (by rw[<-e];exact j6 hy);rw[zf e];exact yf hd hy,λb y hy=>K7 hd hy⟩;have⟨k1,k2⟩:=hb Oth M w sX;have hT:∀b o,((M b o\/Oth b o)/\(((X.un N).sO eb (.cells (raw++[.s p]))).obj b=none\/(N.objs0.sO eb (.cells (plain++[.s p]))).obj b≠none))->(M b o\/Oth b o)/\X.obj b=none:=λb o ⟨h1,h2⟩=>by
  refine⟨h1,?_⟩;by_cases e:b=eb
  ·subst e;exact(vj hx).1
  ·rw[zf e,zf e]at h2;cases hxb:X.obj b with
   |none=>rfl
   |some y=>
    rcases h2 with h2|h2
    ·rw[yf hd hxb]at h2;cases h2
    ·exact absurd (vj (hd b (j6 hxb))).1 h2
 refine⟨λb x hx2=>?_,λv hv=>(k2 v hv).mono hT⟩;rcases hS2 b x hx2 with⟨rfl,rfl⟩|⟨h1,h2⟩
 ·have ho:=(sto.obj b _ (zd _ _ _)).1;have:=ys1 hl k1 (λy hy=>by rw[Fbl.1 hy];exact Sn p) ho;exact ObjRel.mono hT (show ObjRel w (λb o=>(M b o\/Oth b o)/\X.obj b=none) (.cells (plain++[.s p])) b from this)
 ·exact(sto.obj b x (by rw[zf h1];exact zg h2)).1.mono λb o h=>h.1
section
variable {P:Program} {c:Cfg} {w:World} {st:Store} {Oth M:BB}
def yuw{o:Oper}{t:TypeId}{x:Operand}(ho:o.op=.makeInterface t x){d:TypeDesc}(hd:qe P c.I->P.underlying t=some d)(hn:∀m,d≠.interface m){y:AV}{u:Value}
    (hy:∀(w:World) (T:BB) (v:Value),VRel w T y v->v=u) {R:Ja} (h:R (.s (.iface t u)) st):AEff P c o [y] st R:=by
  refine⟨λOth M w ρ hI sto hr=>?_⟩;rw[ho]at hr;have hr:Reads w (λb o=>M b o\/Oth b o) [y] [ρ x]:=θx;have⟨v,he,h1⟩:=Kh hr;simp only[Fcm,and_true]at he;rw[<-he]at h1;have h1:=hy _ _ _ h1;have hund:=yk (P:=P) (hd hI);have hrun:(execOp ρ o).run P w=.ok (.value (.iface t u)) w:=by simp only[execOp,ho,Instr.makeInterface,Sem.run_bind,hund,Result.andThen_ok,h1];cases d<;>simp at hn⊢
  rw[hrun];exact⟨_,_,_,h,.s _,sto,Chg.refl M w⟩
def yuv{o:Oper}{t:TypeId}{x:Operand}(ho:o.op=.makeInterface t x){it:TI}{e:TypeId}(hit:c.I t=some it)(hty:it.ty=.ptr e){u:Value}{R:Ja}(h:R (.s (.iface t u)) st):AEff P c o [.s u] st R:=
  yuw ho (λhI=>Vx (hI _ _ hit) hty) (λm h=>ω) (λw T v hv=>VRel.eq_s hv) h
end
section
variable {P:Program} {v:Value} {x:AV}
theorem zdy{t:TypeId}{inf:TypeInfo}(h:P.info? t=some inf)(w:World):(typeInfo t).run P w=.ok inf w:=by simp[typeInfo,run_program,h]
def Meets.val{t:TypeId}{m:String}{g:FuncId}{inf:TypeInfo}{row:Method}{d:TypeDesc}(hi:P.info? t=some inf)(hf:inf.methods.find? (·.name==m)=some row)(hp:row.path=#[])
    (hr:row.func=some (g,false)) (hu:P.underlying t=some d) (hd:∀e,d≠.pointer e) (hx:∀w T,VRel w T x v):Meets P t v m g x:=by
  refine⟨v,λw=>?_,hx⟩;have hdep:P.types.size+Made.depth=(P.types.size+99)+1:=rfl;rw[hdep];generalize P.types.size+99=n;have e:row.path.toList=[]:=by rw[hp]
  unfold method;rw[Sem.run_bind,zdy hi,Result.andThen_ok,hf];dsimp only;rw[e];unfold follow;rw[Sem.run_bind,Sem.run_pure,Result.andThen_ok];dsimp only;rw[hr];dsimp only;unfold receiverAt;cases d<;>simp[yk hu,Place.get]at hd⊢
theorem Meets.ptr{t:TypeId}{m:String}{g:FuncId}{inf:TypeInfo}{row:Method}{e:TypeId}(hi:P.info? t=some inf)(hf:inf.methods.find? (·.name==m)=some row)(hp:row.path=#[])
    (hr:row.func=some (g,true)) (hu:P.underlying t=some (.pointer e)) (hx:∀w T,VRel w T x v):Meets P t v m g x:=by
  refine⟨v,λw=>?_,hx⟩;have hdep:P.types.size+Made.depth=(P.types.size+99)+1:=rfl;rw[hdep];generalize P.types.size+99=n;have e:row.path.toList=[]:=by rw[hp]
  unfold method;rw[Sem.run_bind,zdy hi,Result.andThen_ok,hf];dsimp only;rw[e];unfold follow;rw[Sem.run_bind,Sem.run_pure,Result.andThen_ok];dsimp only;rw[hr];dsimp only;unfold receiverAt;simp[yk hu,Place.get]
def R1(P:Program)(t:TypeId)(m:String)(g:FuncId)(ptr:Bool):Bool:=
  match P.info? t,P.underlying t with
  | some inf,some d=>(match inf.methods.find? (·.name==m)with
    |some row=>row.path.isEmpty&&(match row.func with|some (f,b)=>Nat.beq f g&&(b==ptr)|none=>false)
    |none=>false)&&(match d with|.pointer _=>ptr|_=> !ptr)
  |_,_=>false
def ykp{t:TypeId}{m:String}{g:FuncId}{ptr:Bool}(h:R1 P t m g ptr=true):∃inf row d,P.info? t=some inf/\inf.methods.find? (·.name==m)=some row/\row.path=#[]/\row.func=some (g,ptr)/\P.underlying t=some d/\(match d with|.pointer _=>ptr|_=> !ptr)=true:=by
  unfold R1 at h;split at h
  · rename_i inf d h1 h2
    rw[Fa6]at h;have⟨h3,h4⟩:=h;split at h3
    · rename_i row h5
      rw[Fa6]at h3;have⟨h6,h7⟩:=h3;split at h7
      · rename_i f b h8
        rw[Fa6]at h7;have⟨h9,h10⟩:=h7;have e1:f=g:=Nat.eq_of_beq_eq_true h9;have e2:b=ptr:=eq_of_beq h10;subst e1 e2;exact⟨inf,row,d,h1,h5,Array.isEmpty_iff.1 h6,h8,h2,h4⟩
      · cases h7
    · cases h3
  · cases h
def Meets.ptrB{t:TypeId}{m:String}{g:FuncId}(h:R1 P t m g true=true)(hx:∀w T,VRel w T x v):Meets P t v m g x:=by
  have⟨inf,row,d,h1,h2,h3,h4,h5,h6⟩:=ykp h;cases d with
  |pointer e=>exact Meets.ptr h1 h2 h3 h4 h5 hx
  |_=>cases h6
end
def Cf(v:Vc):Prop:=(-1099511627776<=v.1/\v.1<=1099511627776)/\(-1099511627776<=v.2/\v.2<=1099511627776)
def Lb{v:Vc}(h:Cf v):Bs v:=by unfold Cf at h;unfold Bs;omega
def zny{v:Vc}(h:Cf v):v.ok:=by unfold Cf at h;exact⟨⟨θ,θ⟩,⟨θ,θ⟩⟩
def Vp{p q:Vc}(hp:jm p)(hq:jm q):Cf (jd q p):=by rw[(ia hp hq).1];unfold jm at hp hq;unfold Cf;dsimp only;omega
def yna{w:Wld}{u:Unt}(hu:jm u.pos)(h:∀x∈w.U,x.inn=0->jm x.pos)(hl:w.U.length<=4096):Cf (Kp w u):=by
 have key:∀(l:List Unt) (v:Vc) (B:Nat),(∀x∈l,x.inn=0->jm x.pos)->B+l.length<=4096->(v.1.natAbs<=B*16777216/\v.2.natAbs<=B*16777216)->
   Cf (l.foldl (λv x=>if x.inn=0/\x.id≠u.id then kx v (Bv u.pos (z6 u.kind+z6 x.kind+16384) x.pos)else v) v):=by
  intro l;induction l with
  |nil=>
   intro v B _ hB hv;unfold Cf;simp only[Fdb]at hB;simp only[List.foldl_nil];omega
  |cons x l ih=>
   intro v B hx hB hv;simp only[Fbf]at hB;rw[Fcy];refine ih _ (B+1) (λy hy=>hx y (Fau _ hy)) θ ?_;split
   ·rename_i hc;have r1:=Rk u.kind;have r2:=Rk x.kind;have:=ni hu (hx x Fa1 hc.1) (r:=z6 u.kind+z6 x.kind+16384) θ;generalize Bv u.pos (z6 u.kind+z6 x.kind+16384) x.pos=z at*;have e:kx v z=(v.1+z.1,v.2+z.2):=by
     unfold kx;rw[Sr θ θ,Sr θ θ]
    rw[e];dsimp only;omega
   ·exact⟨Fbx hv.1 (Fa2 _ (Fd6 B)),Fbx hv.2 (Fa2 _ (Fd6 B))⟩
 unfold Kp;refine key w.U (0,0) 0 h θ ⟨?_,?_⟩
 ·show(0:Int).natAbs<=_;simp
 ·show(0:Int).natAbs<=_;simp
section
variable {u:Unt} {w:Wld} {n k:Nat}
def zim:∀{a b:List Unt},(a.map (·.id)).Pairwise (·<·)->(b.map (·.id)).Pairwise (·<·)->(∀u,u∈a↔u∈b)->a=b
 |[],[],_,_,_=>rfl
 |[],y::b,_,_,h=>absurd ((h y).2 Fa1) φ
 |x::a,[],_,_,h=>absurd ((h x).1 Fa1) φ
 |x::a,y::b,ha,hb,h=>by
  rw[Fci,Fb6]at ha hb;have hx:=(h x).1 Fa1;have hy:=(h y).2 Fa1;have e:x=y:=by
   rcases Faw.1 hx with e|hx
   ·exact e
   ·rcases Faw.1 hy with e|hy
    ·exact e.symm
    ·have h1:=hb.1 _ (Fag.2 ⟨x,hx,rfl⟩);have h2:=ha.1 _ (Fag.2 ⟨y,hy,rfl⟩);omega
  subst e;refine congrArg _ (zim ha.2 hb.2 λu=>⟨λhu=>?_,λhu=>?_⟩)
  ·rcases Faw.1 ((h u).1 (Fau _ hu))with e|e
   ·have:=ha.1 _ (Fag.2 ⟨u,hu,rfl⟩);rw[e]at this;omega
   ·exact e
  ·rcases Faw.1 ((h u).2 (Fau _ hu))with e|e
   ·have:=hb.1 _ (Fag.2 ⟨u,hu,rfl⟩);rw[e]at this;omega
   ·exact e
def nV(v:Vc):Prop:=(-9223372036854775807<=v.1/\v.1<=9223372036854775807)/\(-9223372036854775807<=v.2/\v.2<=9223372036854775807)
def zfv(a b:Vc):nV (kx a b):=⟨ta _ _,ta _ _⟩
def pd{v:Vc}(h:nV v):v.ok:=by unfold nV at h;exact⟨⟨θ,θ⟩,⟨θ,θ⟩⟩
theorem zii{a:Int}(h:-9223372036854775807<=a/\a<=9223372036854775807):qs a 0=a:=by
 unfold qs;rw[Hl θ,Hl θ];unfold Bj;split
 ·omega
 ·split<;>omega
theorem zmr{v:Vc}(h:nV v):kx v (0,0)=v:=by unfold kx;rw[zii h.1,zii h.2]
def Ay(u:Unt)(v:Vc)(x:Unt):Vc:=if x.id≠u.id then kx v (Bv u.pos (z6 u.kind+z6 x.kind+16384) x.pos)else v
def zfu{x:Unt}{v:Vc}(h:nV v):nV (Ay u v x):=by
 unfold Ay;split
 ·exact zfv _ _
 ·exact h
def zft:∀(l:List Unt) {v:Vc},nV v->nV (l.foldl (Ay u) v)
 |[],_,h=>h
 |x::l,_,h=>zft l (zfu h)
theorem yh9{p q:Vc}{r:Int}(h:near p q r=false):Bv p r q=(0,0):=by unfold Bv;rw[h];simp
theorem dl(u:Unt)(r:Int)(hr:∀k,z6 u.kind+z6 k+16384<=r):∀(l:List Unt) (v:Vc),nV v->
  l.foldl (λv x=>if x.inn=0/\x.id≠u.id then kx v (Bv u.pos (z6 u.kind+z6 x.kind+16384) x.pos)else v) v=(l.filter λx=>decide (x.inn=0)&&near u.pos x.pos r).foldl (Ay u) v
 |[],v,_=>rfl
 |x::l,v,h=>by
  rw[Fcy,Fdx];by_cases h0:x.inn=0
  ·cases hn:near u.pos x.pos r with
   |true=>
    simp only[h0,decide_true,Fd4,if_true,Fcy,true_and];exact dl u r hr l _ (zfu h)
   |false=>
    have hf:near u.pos x.pos (z6 u.kind+z6 x.kind+16384)=false:=by
     cases hc:near u.pos x.pos (z6 u.kind+z6 x.kind+16384)with
     |false=>rfl
     |true=>rw[zfp (hr x.kind) hc]at hn;cases hn
    simp only[h0,decide_true,Bool.and_false,Fap,if_false,true_and];rw[yh9 hf,zmr h,ite_self];exact dl u r hr l _ h
  ·simp only[h0,decide_false,Bool.false_and,Fap,if_false,false_and];exact dl u r hr l _ h
def ym9(hr:yl w.U){us:List Unt}(hn:L8 w u.pos (z6 u.kind+16384+81920) us)(hs:(us.map (·.id)).Pairwise (·<·)):Kp w u=us.foldl (Ay u) (0,0):=by
 unfold Kp;rw[dl u (z6 u.kind+16384+81920) (λk=>by have:=(Gv k).2;omega) w.U (0,0) ⟨⟨ψ,ψ⟩,⟨ψ,ψ⟩⟩]
 congr 1
 refine zim ?_ hs λx=>?_
 ·have:(w.U.map (·.id)).Pairwise (·<·):=by
   rw[Fbz];intro i j hi hj hij;rw[Fal]at hi hj;simp only[Fb0];exact Ig hr hij hj
  exact this.sublist (List.filter_sublist.map _)
 ·rw[Fbd,hn x,Fa6,decide_eq_true_iff];constructor
  ·rintro⟨h1,h2,h3⟩;exact⟨⟨h1,h2⟩,h3⟩
  ·rintro⟨⟨h1,h2⟩,h3⟩;exact⟨h1,h2,h3⟩
def yno{v:Vc}(h:nV v)(k:Nat):nV (Dq v k):=by have⟨h1,h2⟩:=h;have e1:=zhj v.1 k;have e2:=zhj v.2 k;unfold nV Dq;dsimp only;omega
def zml{v:Vc}(h:v.ok):nV (wn v):=by have⟨h1,h2⟩:=h;have e1:=F5 h1;have e2:=F5 h2;unfold nV wn;dsimp only;omega
def zno{v:Vc}(h0:Dq v k≠(0,0))(hc:¬xz w u.id u.kind (kx u.pos (Dq v k))):Bo w u v (n+1) k=Bo w u v n (k+1):=by show(if _ then _ else if _ then _ else _)=_;rw[if_neg h0,if_neg hc]
def znm{v:Vc}(h0:Dq v k=(0,0)):Bo w u v (n+1) k=none:=by show(if _ then _ else if _ then _ else _)=_;rw[if_pos h0]
def znn{v:Vc}(h0:Dq v k≠(0,0))(hc:xz w u.id u.kind (kx u.pos (Dq v k))):Bo w u v (n+1) k=some (k,kx u.pos (Dq v k)):=by show(if _ then _ else if _ then _ else _)=_;rw[if_neg h0,if_pos hc]
def yba(hk:k<5):IntKind.i64.wrap (1*2^(min ((k:Int)).toNat IntKind.i64.bits))=((2^k:Nat):Int):=by have:k=0\/k=1\/k=2\/k=3\/k=4:=θ;rcases this with rfl|rfl|rfl|rfl|rfl<;>decide
end
section
variable {u n t:Nat} {x:Int}
def Aw:Nat->(Nat->Nat)->Nat
 |0,_=>0
 |n+1,f=>Aw n f+f n
theorem l5{f g:Nat->Nat}:∀n,(∀t,t<n->f t=g t)->Aw n f=Aw n g
 |0,_=>rfl
 |n+1,h=>by show Aw n f+f n=Aw n g+g n;rw[l5 n (λt ht=>h t θ),h n θ]
def ly{f g:Nat->Nat}:∀n,(∀t,t<n->f t<=g t)->Aw n f<=Aw n g
 |0,_=>Fah _
 |n+1,h=>by show Aw n f+f n<=Aw n g+g n;have:=ly n (λt ht=>h t θ);have:=h n θ;omega
theorem lz(c:Nat):∀n,Aw n (λ_=>c)=n*c
 |0=>by simp[Aw]
 |n+1=>by show Aw n (λ_=>c)+c=_;rw[lz c n,Fd1]
def V7{f g:Nat->Nat}:∀n,u<n->(∀t,t<n->t≠u->f t=g t)->Aw n f+g u=Aw n g+f u
 |0,hu,_=>θ
 |n+1,hu,h=>by
  show Aw n f+f n+g u=Aw n g+g n+f u;by_cases e:u=n
  ·subst e;rw[l5 u (λt ht=>h t θ θ)];omega
  ·have:=V7 (f:=f) (g:=g) n θ (λt ht hne=>h t θ hne);have:=h n θ (Ne.symm e);omega
def Gl(n:Nat)(d:Nat->Int):Nat:=Aw n λt=>if 0<=d t then 1 else 0
def znw(n:Nat)(d:Nat->Int):Gl n d<=n:=by have:=ly (f:=λt=>if 0<=d t then 1 else 0) (g:=λ_=>1) n (λt _=>by split<;>omega);rw[lz]at this;unfold Gl;omega
def znv{d:Nat->Int}(hu:u<n)(h:d u<0)(hx:0<=x):Gl n (yh d u x)=Gl n d+1:=by have:=V7 (f:=λt=>if 0<=yh d u x t then 1 else 0) (g:=λt=>if 0<=d t then 1 else 0) n hu (λt _ hne=>by simp only[wo hne]);simp only[Cx,if_pos hx,if_neg (show¬0<=d u by omega)]at this;unfold Gl;omega
def znu{d:Nat->Int}(h:0<=d u)(hx:0<=x):Gl n (yh d u x)=Gl n d:=by
 unfold Gl;refine l5 n λt _=>?_;by_cases e:t=u
 ·subst e;rw[Cx,if_pos hx,if_pos h]
 ·rw[wo e]
def Ms(n:Nat)(d:Nat->Int):Prop:=∀t,d t<=84*(Gl n d:Int)-84\/d t<0
def yr7{goal:Nat}(hg:goal<n){d:Nat->Int}(hd:∀u,d u=if u=goal then 0 else -1):Ms n d:=by
 intro t;have h1:1<=Gl n d:=by
  have:=V7 (f:=λt=>if 0<=d t then 1 else 0) (g:=λt=>if t=goal then 0 else if 0<=d t then 1 else 0) n hg (λt _ hne=>by rw[if_neg hne]);have h0:(if 0<=d goal then 1 else 0)=1:=by rw[hd,if_pos rfl];rfl
  simp only[if_true,h0]at this;unfold Gl;omega
 rw[hd];split
 ·left;omega
 ·right;omega
def zjd{d:Nat->Int}(h:Ms n d){c:Int}(hu:u<n)(ht:0<=d t)(hc:0<c/\c<=84)(hl:d u<0\/d t+c<d u):Ms n (yh d u (d t+c)):=by
 have hdt:=h t;by_cases hn:d u<0
 ·have e:=znv (n:=n) hu hn (show 0<=d t+c by omega);intro v;rw[e];by_cases ev:v=u
  ·subst ev;rw[Cx];omega
  ·rw[wo ev];have:=h v;omega
 ·have e:=znu (n:=n) (d:=d) (u:=u) θ (show 0<=d t+c by omega);intro v;rw[e];by_cases ev:v=u
  ·subst ev;rw[Cx];have:=h v;omega
  ·rw[wo ev];exact h v
def uc{d:Nat->Int}(h:Ms n d)(t:Nat):d t<=84*(n:Int):=by have:=h t;have:=znw n d;omega
def Gp(n:Nat)(dn:Nat->Bool):Nat:=Aw n λt=>if dn t then 0 else 1
def yi7{dn:Nat->Bool}(ht:t<n)(h:dn t=false):Gp n (yh dn t true)+1=Gp n dn:=by have:=V7 (f:=λv=>if yh dn t true v=true then 0 else 1) (g:=λv=>if dn v=true then 0 else 1) n ht (λv _ hne=>by simp only[wo hne]);simp only[Cx,h,if_true,Fap,if_false]at this;unfold Gp;omega
end
section
variable {i n k:Nat}
def yho{l:List (Int×Int)}(h:Ad l)(x:Int×Int):UpF (qat (l++[x])) (l++[x]).length l.length:=by
 have h2:M6 (qat (l++[x])) l.length:=λj h0 hj=>by rw[zej l x j hj,zej l x (par j) (by have:=D6 h0;omega)];exact h j h0 hj
 have:=zmu h2;simpa using this
def yhl{l:List (Int×Int)}(h:UpF (qat l) l.length i)(h0:0<i)(hi:i<l.length)(hl:qlt (qat l i) (qat l (par i))):
  UpF (qat (wt l i (par i))) (wt l i (par i)).length (par i)/\(wt l i (par i)).Perm l:=by
 have hp:=D6 h0;rw[zei hi θ,Nl];exact⟨zmt h h0 hi hl,zcj hi θ⟩
def zeg{l:List (Int×Int)}(h:UpF (qat l) l.length i)(hi:i=0\/¬qlt (qat l i) (qat l (par i))):Ad l:=zmv h hi
def yhn(l:List (Int×Int))(x:Int×Int):(l++[x]).Perm (x::l):=List.perm_append_singleton x l
def yhq{l:List (Int×Int)}(hl:l.length=n+1):l.Perm (qat l 0::(l.set 0 (qat l n)).take n):=by
 obtain⟨a,t,rfl⟩:∃a t,l=a::t:=by
  cases l with
  |nil=>simp at hl
  |cons a t=>exact⟨a,t,rfl⟩
 simp only[Fbf,Nat.add_right_cancel_iff]at hl;have e0:qat (a::t) 0=a:=rfl;rw[e0];refine List.Perm.cons a ?_;cases n with
 |zero=>
  have:t=[]:=Fa0 hl;subst this;simp
 |succ n=>
  have e1:qat (a::t) (n+1)=t[n]'θ:=by rw[Wy χ];rfl
  rw[e1];show t.Perm ((t[n]'θ::t).take (n+1));rw[List.take_succ_cons];have e2:t=t.take n++[t[n]'θ]:=by
   have h1:=Fbu n t;have h2:t.drop n=[t[n]'θ]:=by rw[Fcl θ,List.drop_eq_nil_of_le θ]
   rw[h2]at h1;exact h1.symm
  exact(List.Perm.of_eq e2).trans (List.perm_append_singleton _ _)
def yhs{l:List (Int×Int)}(hl:l.length=n+1)(h:Ad l):I1 (qat ((l.set 0 (qat l n)).take n)) ((l.set 0 (qat l n)).take n).length 0:=by
 have hlen:((l.set 0 (qat l n)).take n).length=n:=χ;rw[hlen];have h2:M6 (qat l) (n+1):=by rw[<-hl];exact h
 have key:∀j,0<j->j<n->qat ((l.set 0 (qat l n)).take n) j=qat l j:=λj h0 hj=>by unfold qat;simp only[List.getD,Fcg hj];rw[Fc2 θ]
 refine⟨λj h0 hj hp=>?_,λj h0 hj hp h1=>θ⟩;rw[key j h0 hj,key (par j) θ (by have:=D6 h0;omega)];exact h2 j h0 θ
theorem yhr{l:List (Int×Int)}(h:Ad l):∀e∈l,¬qlt e (qat l 0):=λe he=>by obtain⟨j,hj,rfl⟩:=Faf he;rw[<-Wy hj];exact ynj h j hj
def yht{l:List (Int×Int)}(h:I1 (qat l) l.length i)(hc:l.length<=2*i+1):Ad l:=
 ziu h λj h0 hj hp=>by rcases(Rr h0).1 hp with e|e<;>omega
def m7{l:List (Int×Int)}(h:I1 (qat l) l.length i)(hk:∀j,0<j->j<l.length->par j=i->¬qlt (qat l j) (qat l k))(hs:¬qlt (qat l k) (qat l i)):Ad l:=
 ziu h λj h0 hj hp=>Ww hs (hk j h0 hj hp)
def m8{l:List (Int×Int)}(h:I1 (qat l) l.length i)(hk0:0<k)(hk:k<l.length)(hki:par k=i)(hmin:∀j,0<j->j<l.length->par j=i->¬qlt (qat l j) (qat l k))(hl:qlt (qat l k) (qat l i)):
  I1 (qat (wt l i k)) (wt l i k).length k/\(wt l i k).Perm l:=by
 have hp:=D6 hk0;rw[zei θ hk,Nl];exact⟨yq7 h hk0 hk hki hmin hl,zcj θ hk⟩
def ui{f:Nat->Int×Int}(hk:k=2*i+1/\(2*i+2<n->¬qlt (f (2*i+2)) (f (2*i+1)))\/k=2*i+2/\qlt (f (2*i+2)) (f (2*i+1))):∀j,0<j->j<n->par j=i->¬qlt (f j) (f k):=by
 intro j h0 hj hp;rcases(Rr h0).1 hp with e|e
 ·subst e;rcases hk with⟨rfl,_⟩|⟨rfl,h2⟩
  ·exact na _
  ·exact Wx h2
 ·subst e;rcases hk with⟨rfl,h1⟩|⟨rfl,h2⟩
  ·exact h1 hj
  ·exact na _
end
section
variable {F:Store} {p i b cap:Nat}
def itC(x:Int×Int):List AV:=[int x.1,int x.2]
theorem Mi(x:Int×Int):(itC x).length=2:=rfl
structure QAt(F:Store)(p b cap:Nat)(l:List (Int×Int))(L:List AV):Prop where
 hp:F.obj p=some (.cells [.s (.slice (some ⟨b,0,none⟩) l.length cap)])
 hb:F.obj b=some (.cells ((rws itC l).flatten++L))
 ne:b≠p
 h1:l.length<=cap
 h2:cap*2<=l.length*2+L.length
 h3:cap<=9223372036854775807
def QOf(F:Store)(p:Nat)(l:List (Int×Int)):Prop:=(F.obj p=some (.cells [.s (.slice none 0 0)])/\l=[])\/∃b cap L,QAt F p b cap l L
theorem QOf.rows{l:List (Int×Int)}(h:QOf F p l):∃v,F.obj p=some (.cells [v])/\RowsO 2 itC F v l/\∀b c0,v=.s (.slice (some ⟨b,0,none⟩) l.length c0)->b≠p:=by
 rcases h with⟨h,rfl⟩|⟨b,cap,L,h⟩
 ·exact⟨_,h,.inl ⟨rfl,rfl⟩,λb c0 e=>by simp at e⟩
 ·refine⟨_,h.hp,.inr ⟨b,cap,L,rfl,h.hb,h.h1,h.h2,h.h3⟩,λb' c0 e=>?_⟩;simp only[AV.s.injEq,Value.slice.injEq,Fam,Addr.mk.injEq]at e;exact e.1.1▸h.ne
theorem QOf.pos{l:List (Int×Int)}(h:QOf F p l)(hl:0<l.length):∃b cap L,QAt F p b cap l L:=by
 rcases h with⟨h,rfl⟩|h
 ·exact absurd hl (Nat.lt_irrefl 0)
 ·exact h
theorem yl2{l:List (Int×Int)}(hi:i<l.length)(x:Int×Int)(L:List AV):zq ((rws itC l).flatten++L) (0+i*2) (itC x)=(rws itC (l.set i x)).flatten++L:=by have:=l9 (f:=itC) (k:=2) Mi hi (j:=0) (x':=x) (ys:=itC x) (L:=L) (by show 0+2<=2;omega) (by unfold zq;rw[Mi];rfl);rw[Nat.add_zero]at this;rw[Fa9];exact this
def wy{l:List (Int×Int)}{L:List AV}(hi:i<l.length):List.drop (0+i*2) ((rws itC l).flatten++L)=itC (qat l i)++((rws itC (l.drop (i+1))).flatten++L):=by
 have h1:(rws itC (l.take i)).flatten.length=i*2:=by rw[qc Mi,Fai,Fdm θ]
 rw[Fa9,Wj hi,Fas,<-h1,Fdg,Fas,Wy hi]
def Iq{l:List (Int×Int)}{L:List AV}(hi:i<l.length)(x:Int×Int):0+i*2+(itC x).length<=((rws itC l).flatten++L).length:=by rw[Fac,qc Mi,Mi];omega
theorem QAt.set{l:List (Int×Int)}{L:List AV}(h:QAt F p b cap l L)(hi:i<l.length)(x:Int×Int):QAt (F.sO b (.cells (zq ((rws itC l).flatten++L) (0+i*2) (itC x)))) p b cap (l.set i x) L:=by rw[yl2 hi];exact⟨by rw[zf (Ne.symm h.ne),Fak];exact h.hp,zd _ _ _,h.ne,by rw[Fak];exact h.h1,by rw[Fak];exact h.h2,h.h3⟩
theorem QAt.cut{l:List (Int×Int)}{L:List AV}(h:QAt F p b cap l L){n:Nat}(hn:n<=l.length):QAt (F.sO p (.cells [.s (.slice (some ⟨b,0,none⟩) n cap)])) p b cap (l.take n) ((rws itC (l.drop n)).flatten++L):=by
 have e:(rws itC (l.take n)).flatten++((rws itC (l.drop n)).flatten++L)=(rws itC l).flatten++L:=by rw[<-Fas,<-Gm,Fbu]
 have hl:(l.take n).length=n:=θq;refine⟨by rw[zd,hl],by rw[zf h.ne,e];exact h.hb,h.ne,by rw[hl];have:=h.h1;omega,?_,h.h3⟩;have:=h.h2;rw[hl,Fac,qc Mi,Fbk];omega
end
section
variable {i:Nat}
def Cd(v:Int)(k:Nat)(t:Nat):Int:=if t<k then v else 0
def yg9{n k m:Nat}{v:Int}(hk:m<=k)(hn:k+m<=n):zq (il n (Cd v k)) (0+k*1) ((List.drop (0+0*1) (il n (Cd v k))).take (m*1))=il n (Cd v (k+m)):=by
 have e:(List.drop (0+0*1) (il n (Cd v k))).take (m*1)=List.replicate m (int v):=by
  rw[show 0+0*1=0 from rfl,Fda,Feu];apply Fco
  ·rw[Fai,jo,Faz];omega
  ·intro i h1 h2;rw[Faz]at h2;rw[Fdr,Fdi];simp only[il,Fb0,List.getElem_range];rw[Cd,if_pos θ]
 rw[e];unfold zq;rw[Faz,show 0+k*1=k by omega];apply Fb4;intro i;by_cases h1:i<k
 ·rw[Fas,Fa5 (by rw[Fai,jo];omega),Fcg h1,Gx θ,Gx θ,Cd,Cd,if_pos h1,if_pos θ]
 ·by_cases h2:i<k+m
  ·rw[Fas,Fa7 (by rw[Fai,jo];omega),Fai,jo,Fa5 (by rw[Faz];omega),Fby,if_pos θ,Gx θ,Cd,if_pos h2]
  ·rw[Fa7 (by rw[Fac,Fai,jo,Faz];omega),Fac,Fai,jo,Faz,Fbq,show k+m+(i-(min k n+m))=i by omega];by_cases h3:i<n
   ·rw[Gx h3,Gx h3,Cd,Cd,if_neg h1,if_neg h2]
   ·rw[Fbe θf,Fbe θf]
theorem ym4(n:Nat)(v:Int):il n (Cd v n)=il n λ_=>v:=Sd λt ht=>if_pos ht
def Pb(g:Gnd)(t:Nat):AV:=.agg (il 8 (yn g t))
def G6(g:Gnd)(t i:Nat)(j:Nat):Int:=if j<i then yn g t j else 0
def yts(g:Gnd)(t:Nat):il 8 (G6 g t 8)=il 8 (yn g t):=Sd λj hj=>if_pos hj
def ytt(g:Gnd)(t:Nat)(hi:i<8):yn g t i=L9 g ((t:Int)%g.W) ((t:Int)/g.W) (dirL.getD i (0,0)):=by unfold yn Hp;rw[Fao,Far,Fao,Fab (show i<dirL.length from hi)];rfl
def ytr(g:Gnd)(t:Nat)(v:Int)(hv:v=yn g t i):setI (G6 g t i) i v=G6 g t (i+1):=funext λj=>by
 unfold setI G6;by_cases h:j=i
 ·subst h;rw[if_pos rfl,if_pos θ,hv]
 ·rw[if_neg h];by_cases h2:j<i
  ·rw[if_pos h2,if_pos θ]
  ·rw[if_neg h2,if_neg θ]
def dirC:List AV:=(dirL.map K5).flatten
def yrp(hi:i<8):dirC.drop (i*2)=K5 (dirL.getD i (0,0))++dirC.drop (i*2+2):=by have h:i=0\/i=1\/i=2\/i=3\/i=4\/i=5\/i=6\/i=7:=θ;rcases h with rfl|rfl|rfl|rfl|rfl|rfl|rfl|rfl<;>rfl
def yro(hi:i<8):(-1<=(dirL.getD i (0,0)).1/\(dirL.getD i (0,0)).1<=1)/\-1<=(dirL.getD i (0,0)).2/\(dirL.getD i (0,0)).2<=1:=by have h:i=0\/i=1\/i=2\/i=3\/i=4\/i=5\/i=6\/i=7:=θ;rcases h with rfl|rfl|rfl|rfl|rfl|rfl|rfl|rfl<;>decide
end
def M9(g:Gnd)(ok:Nat->Bool)(c:Int)(t i:Nat):Nat->Nat->Int->Prop:=λa u k=>a=t/\∃w,i<=w/\w<8/\yn g t w=(u:Int)/\k=xh g ok c t w
def tp{E:Nat->Nat->Int->Prop}{n goal:Nat}{d:Nat->Int}{dn:Nat->Bool}{q q':List (Int×Int)}{cur:Int}{O:Nat->Nat->Int->Prop}(h:DJ E n goal d dn q cur O)(hp:q.Perm q'):DJ E n goal d dn q' cur O:=
 ⟨h.lab,h.gl,h.pre,h.rel,h.mono,λe he=>h.ent e (hp.mem_iff.2 he),λu hu hn=>hp.mem_iff.1 (h.wait u hu hn)⟩
section
variable {g:Gnd} {ok:Nat->Bool} {c:Int} {n goal:Nat} {d:Nat->Int} {dn:Nat->Bool} {q:List (Int×Int)} {cur:Int}
def zma{t:Nat}(h:DJ (Cs g ok c) n goal d dn q cur (λa _ _=>a=t)):DJ (Cs g ok c) n goal d dn q cur (M9 g ok c t 0):=
 tq h λa u k ha hn hE=>by have⟨_,_,w,hw,h1,_,h2,_⟩:=hE;subst ha;exact absurd ⟨rfl,w,Fae _,hw,h1,h2⟩ hn
def zmb{t:Nat}(h:DJ (Cs g ok c) n goal d dn q cur (M9 g ok c t 8)):DJ (Cs g ok c) n goal d dn q cur L7:=
 tq h λa u k ha hn hE=>by have⟨_,w,h1,h2,_⟩:=ha;omega
def ib{t i:Nat}(h:DJ (Cs g ok c) n goal d dn q cur (M9 g ok c t i))(hp:∀u:Nat,yn g t i=u->0<xh g ok c t i->0<=d u/\d u<=d t+xh g ok c t i):DJ (Cs g ok c) n goal d dn q cur (M9 g ok c t (i+1)):=
 tq h λa u k ha hn hE=>by
  obtain⟨rfl,w,h1,h2,h3,rfl⟩:=ha;by_cases hw:w=i
  ·subst hw;exact hp u h3 (fc _ _ _ hE)
  ·exact absurd ⟨rfl,w,θ,h2,h3,rfl⟩ hn
def yrh{O:Nat->Nat->Int->Prop}(h:DJ (Cs g ok c) n goal d dn q cur O)(hgoal:ok goal=true){u:Nat}(hu:0<=d u):ok u=true:=by
 by_cases e:u=goal
 ·rw[e];exact hgoal
 ·have⟨t,k,_,_,hE,_⟩:=h.pre u e hu;have⟨_,_,_,_,_,h1,_⟩:=hE;exact h1
end
def rk:Option (Int×Int)->Int
 |none=>0
 |some x=>x.1
def Vs:Option (Int×Int)->Int
 |none=>0
 |some x=>x.2
def xn(S:Store)(b b2 n:Nat)(d:Nat->Int)(dn:Nat->Bool):Store:=(S.sO b (.cells (il n d))).sO b2 (.cells (bl n dn))
section
variable {S:Store} {b b2 n:Nat}
def zh5(hb:b≠b2)(d:Nat->Int)(dn:Nat->Bool):(xn S b b2 n d dn).obj b=some (.cells (il n d)):=by unfold xn;rw[zf hb,zd]
def ypb(d:Nat->Int)(dn:Nat->Bool):(xn S b b2 n d dn).obj b2=some (.cells (bl n dn)):=zd _ _ _
def ypa{i:Nat}{x:AObj}(hf:Fresh S b)(hf2:Fresh (S.sO b x) b2){y:AObj}(h:S.obj i=some y)(d:Nat->Int)(dn:Nat->Bool):(xn S b b2 n d dn).obj i=some y:=by
 have h1:i≠b:=λe=>by rw[e,hf.1]at h;cases h
 have h2:i≠b2:=λe=>by have:=hf2.1;rw[<-e,zf h1,h]at this;cases this
 unfold xn;rw[zf h2,zf h1];exact h
theorem zh4(hb:b≠b2)(d d':Nat->Int)(dn:Nat->Bool):(xn S b b2 n d dn).sO b (.cells (il n d'))=xn S b b2 n d' dn:=by unfold xn;rw[Ic hb,yw]
def yo9(d:Nat->Int)(dn dn':Nat->Bool):(xn S b b2 n d dn).sO b2 (.cells (bl n dn'))=xn S b b2 n d dn':=yw _ _ _ _
def fld_has{d:Nat->Int}{dn:Nat->Bool}{i:Nat}:(xn S b b2 n d dn).has i↔i=b2\/i=b\/S.has i:=by unfold xn;rw[has_setObj_iff,has_setObj_iff]
def ypc{F:Store}{d d':Nat->Int}{dn dn':Nat->Bool}(h:zj F (xn S b b2 n d dn)):zj F (xn S b b2 n d' dn'):=λi h1 h2=>h i h1 (fld_has.2 (fld_has.1 h2))
def ypd(hf:Fresh S b){x:AObj}(hf2:Fresh (S.sO b x) b2){F:Store}(hb:b≠b2){d:Nat->Int}{dn:Nat->Bool}:(F.un (xn S b b2 n d dn)).Has (S.sO b (.cells (il n d))):=by
 have hn:(S.sO b (.cells (il n d))).obj b2=none:=by have:=hf2.1;rw[zf (Ne.symm hb)]at this⊢;exact this
 exact⟨λi y hi=>zg ((Fe hn).obj i y hi),λi y hi=>Ft hi⟩
end
theorem dh(n:Nat)(d:Nat->Int)(u:Nat)(v:Int)(hu:u<n):zq (il n d) (0+u*1) [int v]=il n (yh d u v):=by rw[show 0+u*1=u by omega,Kn hu];rfl
theorem ytm(n:Nat)(d:Nat->Bool)(u:Nat)(v:Bool)(hu:u<n):zq (bl n d) (0+u*1) [bool v]=bl n (yh d u v):=by rw[show 0+u*1=u by omega];have:=Pa (f:=d) hu (yh d u v) (λs hs=>wo hs);rw[Cx]at this;exact this
def di{n:Nat}{f:Nat->Int}{t:Nat}(h:t<n):((il n f).drop (t*1)).head?=some (int (f t)):=by
 have:=Dp (f:=f) h
 rwa [Fa9]at this
def yi8(n:Nat)(dn:Nat->Bool):Gp n dn<=n:=by have:=ly (f:=λt=>if dn t=true then 0 else 1) (g:=λ_=>1) n (λt _=>by split<;>omega);rw[lz]at this;unfold Gp;omega
def Ir(g:Gnd)(ok:Nat->Bool)(c:Int)(d:Nat->Int)(t w:Nat):Prop:=0<xh g ok c t w/\0<=d (yn g t w).toNat/\xh g ok c t w+d (yn g t w).toNat=d t
theorem ypo{p:Nat->Bool}{n j:Nat}(hj:j<n)(hp:p j=true)(hn:∀w,w<j->p w=false):(List.range n).find? p=some j:=by rw[List.find?_range_eq_some];exact⟨hp,Fbj.2 hj,λw hw=>by rw[hn w hw];rfl⟩
theorem ypn{p:Nat->Bool}{n:Nat}(hn:∀w,w<n->p w=false):(List.range n).find? p=none:=by rw[Fem];intro w hw;rw[hn w (Fbj.1 hw)];decide
section
variable {g:Gnd} {ok:Nat->Bool} {c:Int} {d:Nat->Int} {t:Nat}
def zme(h:d t<=0):jz g ok c d t=-1:=by unfold jz;rw[if_pos h]
def zmc(h:¬d t<=0){j:Nat}(hj:j<8)(hp:Ir g ok c d t j)(hn:∀w,w<j->¬Ir g ok c d t w):jz g ok c d t=(j:Int):=by unfold jz;rw[if_neg h,ypo hj (by exact decide_eq_true hp) (λw hw=>by exact decide_eq_false (hn w hw))]
def zmd(h:¬d t<=0)(hn:∀w,w<8->¬Ir g ok c d t w):jz g ok c d t=-1:=by unfold jz;rw[if_neg h,ypn (λw hw=>by exact decide_eq_false (hn w hw))]
end
def zmf(g:Gnd)(ok:Nat->Bool)(c:Int)(d:Nat->Int)(t:Nat):jz g ok c d t=-1\/∃j:Nat,j<8/\jz g ok c d t=(j:Int)/\Ir g ok c d t j:=by
 unfold jz;split
 ·exact .inl rfl
 ·cases h:(List.range 8).find? λway=>decide (0<xh g ok c t way/\0<=d (yn g t way).toNat/\xh g ok c t way+d (yn g t way).toNat=d t)with
  |none=>exact .inl rfl
  |some j=>
   have h1:=Fc9 h;have h2:=List.find?_some h;exact .inr ⟨j,Fbj.1 h1,rfl,by simp only[decide_eq_true_eq]at h2;exact h2⟩
noncomputable def Cc(g:Gnd)(ok:Nat->Bool)(c:Int)(d:Nat->Int)(i t:Nat):Int:=if t<i then jz g ok c d t else -1
theorem za7{g:Gnd}{ok:Nat->Bool}{c:Int}{d:Nat->Int}{i:Nat}:Cc g ok c d (i+1)=yh (Cc g ok c d i) i (jz g ok c d i):=funext λt=>by
 unfold Cc yh;dsimp only;by_cases h:t=i
 ·subst h;rw[if_pos θ,if_pos rfl]
 ·rw[if_neg h];by_cases h2:t<i
  ·rw[if_pos h2,if_pos θ]
  ·rw[if_neg h2,if_neg θ]
def za6{g:Gnd}{ok:Nat->Bool}{c:Int}{d:Nat->Int}{i:Nat}(h:jz g ok c d i=-1):Cc g ok c d (i+1)=Cc g ok c d i:=by
 rw[za7,h]
 funext t
 unfold yh Cc;by_cases h:t=i
 ·subst h;rw[if_pos rfl,if_neg θ]
 ·rw[if_neg h]
theorem zl8(g:Gnd)(ok:Nat->Bool)(c:Int)(d:Nat->Int):Cc g ok c d 0=λ_=>-1:=funext λt=>if_neg (Fa3 t)
theorem zl9(g:Gnd)(ok:Nat->Bool)(c:Int)(d:Nat->Int)(n:Nat):il n (Cc g ok c d n)=il n (jz g ok c d):=Sd λt ht=>if_pos ht
def wq(S:Store)(b b2 n:Nat)(d f:Nat->Int):Store:=(S.sO b (.cells (il n d))).sO b2 (.cells (il n f))
section
variable {S:Store} {b b2 n:Nat}
def znj(hb:b≠b2)(d f:Nat->Int):(wq S b b2 n d f).obj b=some (.cells (il n d)):=by unfold wq;rw[zf hb,zd]
def zni(d f:Nat->Int):(wq S b b2 n d f).obj b2=some (.cells (il n f)):=zd _ _ _
def zng{i:Nat}{x:AObj}(hf:Fresh S b)(hf2:Fresh (S.sO b x) b2){y:AObj}(h:S.obj i=some y)(d f:Nat->Int):(wq S b b2 n d f).obj i=some y:=by
 have h1:i≠b:=λe=>by rw[e,hf.1]at h;cases h
 have h2:i≠b2:=λe=>by have:=hf2.1;rw[<-e,zf h1,h]at this;cases this
 unfold wq;rw[zf h2,zf h1];exact h
def znf(d f f':Nat->Int):(wq S b b2 n d f).sO b2 (.cells (il n f'))=wq S b b2 n d f':=yw _ _ _ _
def znh{x:AObj}(hb:b≠b2)(hf2:Fresh (S.sO b x) b2):Fresh S b2:=by have:=hf2;unfold Fresh at this⊢;rw[zf (Ne.symm hb)]at this;exact this
def znk(hf:Fresh S b)(hb:b≠b2)(d f:Nat->Int):(wq S b b2 n d f).Has (S.sO b2 (.cells (il n f))):=by unfold wq;rw[Ic (Ne.symm hb)];refine Fe ?_;rw[zf hb];exact hf.1
end
theorem yj2(g:Gnd)(t:Nat):Hp g t=(List.range 8).map (yn g t):=by
 apply Fco
 ·rw[bz,Fal,Fcd]
 ·intro i h1 h2;rw[bz]at h1;simp only[Fb0,List.getElem_range];unfold yn;rw[Fao,Fab (by rw[bz];exact h1)];rfl
theorem yj4(g:Gnd)(t:Nat)(x:Int):(Hp g t).contains x=(List.range 8).any λj=>yn g t j==x:=by
 rw[yj2,List.contains_eq_any_beq,List.any_map]
 congr 1
 funext j
 show(x==yn g t j)=_;rw[Fb9,beq_iff_eq,beq_iff_eq];exact eq_comm
theorem yui{p:Nat->Bool}{n k:Nat}(hk:k<n)(hp:p k=true):(List.range n).any p=true:=List.any_eq_true.2 ⟨k,Fbj.2 hk,hp⟩
theorem yuh{p:Nat->Bool}{n:Nat}(hp:∀k,k<n->p k=false):(List.range n).any p=false:=by rw[Fd8];intro k hk;rw[hp k (Fbj.1 hk)];decide
end Go.V
