/- Lemmas of thronglaw29; no conditions. -/
import Derived.RangeFuncRecord
import Derived.Laws.LoneSync
import Derived.Test.YtphhbmaalpdnoaaGreatKE
set_option linter.unusedSimpArgs false
set_option linter.unusedVariables false
set_option linter.defProp false
open List renaming length→Γ
open Option renaming some→Δ,none→Θ
namespace Go.V
section
variable {P:Program} {c:Cfg}
def zeb{w:World}{b:Nat}{o o':Obj}(h:w.heap[b]?=Δ o)(f:Rk o=true)(T:BB):Keeps w T (w.putObj b o') T where
  cell k i v g _:=by grind[World.cell?,Rk,World.putObj_heap_other]
  out _ _ _ _ d:=d
  shp k l j fr a:=by
    by_cases e:k=b
    . subst e
      rw[h]at a;cases a;cases f
    simp_all[World.putObj_heap_other]
def pj{M:BB}{w:World}{b:Nat}{o o':Obj}(h:w.heap[b]?=Δ o)(f:Rk o=true)(d:∀i,M b i):Chg M w M (w.putObj b o') where
  size:=φ
  keep k i _ a:=Gz (World.putObj_heap_other λe=>a (by rw[e];exact d i)) i
  blk k _ a:=World.putObj_heap_other λe=>a 0 (by rw[e];exact d 0)
  shp:=(zeb h f (λ_ _=>False)).shp
  sub _ _ a _:=a
  tape:=rfl
  os:=rfl
  output:=rfl
def SimB.putGhost{n:SN}{f M:BB}{β:Nat->Nat}{A:Fr}{g:Store}{a:Act}{w:World}(s:SimB n f β A g M a w){b:Nat}{o o':Obj}{I:List (AV×Value)}(G:g.obj b=Δ (.ghost o I))(U:Rk o'=true):
    SimB n f β A (g.sO b (.ghost o' I)) M a (w.putObj b o'):=by
  obtain⟨⟨⟨u,E⟩,R⟩,H⟩:=s.sto.obj b _ G;have h:=λT=>zeb (o':=o') u E T;have Q:∀k,g.obj k≠Θ\/True->k≠b->(w.putObj b o').heap[k]?=w.heap[k]?:=λk _ e=>World.putObj_heap_other e
  exact
    { tsz:=s.tsz
      dfr:=s.dfr.step λD _ _ j=>⟨World.putObj_heap_other λe=>(j 0).1 (e▸H 0),λo=>(j o).1⟩
      tm:=λi=>(s.tm i).keep (h _)
      bx:=λk l y=>⟨(s.bx k l y).1.same (h _) (World.putObj_heap_other (s.sep k b (by rw[y];simp) (.inl (by rw[G];simp)))),(s.bx k l y).2⟩
      inj:=s.inj
      sep:=λk X z S=>s.sep k X z (by grind[Store.sO,qp])
      sto:=
        { obj:=λk x d=>by
            by_cases e:k=b
            . subst e
              simp only[Store.sO,Fbu,cond_true,Fak]at d;subst d;exact⟨⟨⟨World.putObj_heap_same (Ho u),U⟩,λp L=>(R p L).keep (h _)⟩,H⟩
            . simp only[Store.sO,qp e,cond_false]at d
              exact⟨ObjRel.same (s.sto.obj k x d).1 (h _) (World.putObj_heap_other e),(s.sto.obj k x d).2⟩
          tok:=λk t K=>by obtain⟨W,V,C,B,j⟩:=s.sto.tok k t K;exact⟨W,V,C,by rw[World.putObj_heap_other λe=>by subst e;rw[u]at B;cases B;cases E];exact B,j⟩
          mlt:=λk i v=>by simpa using s.sto.mlt k i v
          olt:=λk i v=>by simpa using s.sto.olt k i v
          dis:=s.sto.dis}}
theorem SimB.drop{n:SN}{d M:BB}{β:Nat->Nat}{A:Fr}{e:Store}{a:Act}{w:World}(s:SimB n d β A e M a w)(b:Nat):SimB n d β A (e.dO b) M a w where
  tsz:=s.tsz
  dfr:=s.dfr
  tm:=s.tm
  bx:=s.bx
  inj:=s.inj
  sep k g i j:=s.sep k g i (j.imp (λh=>by
    cases f:(e.dO b).obj g with
    |none=>exact absurd f h
    |some y=>rw[(Ot f).2];simp) id)
  sto:=s.sto.weaken ⟨λk x h=>(Ot h).2,λk x h=>h⟩
def ig(b:List Tmp)(a:List AV)(d:List (Nat×AV)):Fr:=Ib (b.zip (a.map LV.av)++d.map λp=>(p.1,LV.av p.2)) []
def wk(fn:FuncId)(tmps:Array Value)(e:Array Tmp)(assign body:Code)(D:Nat)(s:LoopState):Loop:={state:=s,pending:=Θ,fn,tmps,params:=e,assign,body,defers:=D}
theorem yp2(a:List (Tmp×Value)):∀t:Array Value,(a.foldl (λt p=>t.setIfInBounds p.1 p.2) t).size=t.size:=by
  induction a with
  |nil=>intro t;rfl
  |cons p a b=>grind
theorem yp3{i:Nat}:∀(ps:List (Tmp×Value)) (t:Array Value),(∀p∈ps,p.1≠i)->(ps.foldl (λt p=>t.setIfInBounds p.1 p.2) t).getD i undef=t.getD i undef:=by
  intro ps;induction ps with
  |nil=>intro t _;rfl
  | cons p ps ih=>
    intro t h;simp_all
theorem ymz{i:Nat}:∀(l:List (Nat×LV)),(∀q∈l,q.1≠i)->Gm l i=.any:=by
  intro l;induction l with
  |nil=>intro _;rfl
  | cons p l ih=>
    intro h;simp_all[Gm,qp,Ne.symm]
def yg9{w:World}{T:BB}{β:Nat->Nat}{A:List (Nat×AV)}{k:Array Value}(Q:∀p∈A,VRel w T p.2 (k.getD p.1 undef)):
    ∀ (ps:List Tmp) (d:List AV) (g:List Value) (t:Array Value),(∀q∈A,q.1∉ps)->ps.Nodup->(∀p∈ps,p<t.size)->Reads w T d g->Γ d=Γ ps->(∀i,i∉ps->LRel w T β (Gm (A.map λp=>(p.1,LV.av p.2)) i) (t.getD i undef))->
      ∀i,LRel w T β (Gm (ps.zip (d.map LV.av)++A.map λp=>(p.1,LV.av p.2)) i) (((ps.zip g).foldl (λt p=>t.setIfInBounds p.1 p.2) t).getD i undef):=by
  intro ps;induction ps with
  |nil=>simp_all
  | cons p ps ih=>
    intro d g t u o B I C h i;obtain⟨f,l⟩:=I
    match d,g,f,C with
    | x::d,v::g,f,C=>
      have K:=(List.nodup_cons.1 o).1;rw[List.zip_cons_cons,Fc6,Fb5,List.zip_cons_cons,List.cons_append];simp only[Gm];by_cases E:i=p
      . subst E
        simp only[Fbu,cond_true];rw[yp3 _ _ λq n e=>K (by rw[<-e];exact(List.of_mem_zip (a:=q.1) (b:=q.2) n).1)];have:=B i Fbn;rw[Fbf,Array.getElem?_setIfInBounds_self_of_lt this];exact l 0 x v rfl rfl
      . simp only[qp E,cond_false]
        refine ih d g (t.setIfInBounds p v) (λq n L=>u q n (Fba _ L)) (List.nodup_cons.1 o).2 (λq n=>δ) ⟨by simpa using f,λj y z H G=>l (j+1) y z H G⟩ (by simpa using C) (λj M=>?_) i;by_cases D:j=p
        . subst D
          rw[ymz _ λq n=>?_]
          . trivial
          grind
        simp_all[Ne.symm]
def AYield.of_body{l:Nat}{B:FuncId}{a:Array Value}{u:Array Tmp}{d f:Code}{D:Nat}{K:List (Nat×AV)}{g:List (AV×Value)}(hD:c.D0=[])(z:g=K.map λp=>(p.2,a.getD p.1 undef))(U:a.size=c.n)
    (H:∀q∈K,q.1∉u.toList) (η:u.toList.Nodup) (ι:∀p∈u.toList,p<c.n) {S:Store} {y:List AV} {R:Ja}
    (hS:S.obj l=Δ (.ghost (.loop (wk B a u d f D .ready)) g)) (hl:Γ y=u.size)
    (h:AWp P {c with round:=Δ l} d (λe A S1=>e=.normal/\S1.obj l=Δ (.ghost (.loop (wk B a u d f D .ready)) g)∧
      AWp P {c with round:=Δ l} f (λe _ S2=>e=.normal/\S2.obj l=Δ (.ghost (.loop (wk B a u d f D .busy)) g)∧
        R (.s (.bool true)) (S2.sO l (.ghost (.loop (wk B a u d f D .ready)) g))) A (S1.sO l (.ghost (.loop (wk B a u d f D .busy)) g))) (ig u.toList y K) S):AYield P l y S R:=by
  refine⟨λC M w L sto hr=>?_⟩;obtain⟨⟨⟨hw,hc⟩,hg⟩,hM⟩:=sto.obj l _ hS;have ε:L.size=u.size:=by have:=hr.1;grind
  refine⟨_,_,_,_,run_yield hw ε,roundIn_of_wpIn trivial ?_⟩;have hzip:(u.zip L).foldl (λt (p,v)=>t.setIfInBounds p v) a=(u.toList.zip L.toList).foldl (λt p=>t.setIfInBounds p.1 p.2) a:=by rw[<-Array.foldl_toList,Array.toList_zip]
  have sim:SimB c.N C (λ_=>0) (ig u.toList y K) S M {tmps:=(u.zip L).foldl (λt (p,v)=>t.setIfInBounds p v) a,defers:=[]} w:=
    { tsz:=by
        show Array.size _=_;rw[hzip,yp2];exact U
      dfr:=MarksD.nil hD
      tm:=λi=>by
        show LRel w _ _ (Gm _ i) (Array.getD _ i undef);rw[hzip];have V:∀p∈K,VRel w (λb o=>M b o\/C b o) p.2 (a.getD p.1 undef):=λp hp=>hg (p.2,a.getD p.1 undef) δ;refine yg9 V u.toList y L.toList a H η (λp hp=>by rw[U];exact ι p hp) hr (by simpa using hl) (λj _=>?_) i;clear hg z h H;induction K with
        |nil=>trivial
        | cons p K ih=>
          rw[Fb5];simp only[Gm];by_cases hj:j=p.1
          . subst hj
            simp only[Fbu,cond_true];exact V p Fbn
          simp_all[qp]
      bx:=λk l hk=>by trivial
      inj:=λk k' hk=>by trivial
      sep:=λk b hk=>by trivial
      sto:=sto}
  refine Code.wpF_mono ?_ (h.out C M _ w ⟨_,sim⟩);rintro e a1 w1 ⟨A1,S1,M1,⟨rfl,X,I⟩,⟨β1,G⟩,π⟩;obtain⟨⟨⟨T,_⟩,_⟩,υ⟩:=G.sto.obj l _ X;refine⟨_,run_beginRound T rfl,?_⟩;have sim2:=G.putGhost (o':=.loop (wk B a u d f D .busy)) X rfl;have ο:=pj (o':=.loop (wk B a u d f D .busy)) T rfl υ;refine Code.wpF_mono ?_ (I.out C M1 _ _ ⟨β1,sim2⟩);rintro e a3 w3 ⟨A3,S3,M3,⟨rfl,W,hR⟩,⟨β3,E⟩,τ⟩;obtain⟨⟨⟨Q,_⟩,_⟩,ς⟩:=E.sto.obj l _ W;have sim4:=E.putGhost (o':=.loop (wk B a u d f D .ready)) W rfl;have ν:=pj (o':=.loop (wk B a u d f D .ready)) Q rfl ς;exact⟨_,_,run_endRound Θ Q,_,rfl,.s (.bool true),_,M3,hR,.s _,sim4.sto,π.trans (ο.trans (τ.trans ν))⟩
def AWp.rangeFunc(ς:c.round=Θ){g:Operand}{z:Array Tmp}{assign body:Code}{Q:Exit->Fr->Store->Prop}{A:Fr}{st:Store}{L:FuncId}{K:Func}{T:Code}{U:List AV}(hg:A.ev g=.av (.clos L U))
    (hf : P.funcs[L]? = Δ K) (hb : K.body = Δ T) (hname : (K.name == "runtime.NumGoroutine") = false)
    (gh:List (Nat×AV)) (hgh:∀p∈gh,A.t p.1=.av p.2) (ι:∀q∈gh,q.1∉z.toList) (hnd:z.toList.Nodup) (hlt:∀p∈z.toList,p<c.n)
    (h:∀(l:Nat) (X f:AObj),Fresh st l->
      (∀(S:Store) (u:List AV) (R:Ja),S.obj l=Δ X->Γ u=z.size->
        AWp P {c with round:=Δ l} assign (λe A S1=>e=.normal/\S1.obj l=Δ X/\AWp P {c with round:=Δ l} body (λe _ S2=>e=.normal/\S2.obj l=Δ f/\R (.s (.bool true)) (S2.sO l X)) A (S1.sO l f)) (ig z.toList u gh) S->AYield P l u S R)->
      ACalls P L (.s (.func (.yield l) #[] #[])::U) (st.sO l X) λ_ S'=>S'.obj l=Δ X/\Q .normal A (S'.dO l)) (hD:c.D0=[]:=by rfl) (hnm:c.nm=false:=by rfl):
    AWp P c (.rangeFunc g z assign body) Q A st:=by
  refine⟨λE M a w ⟨β,sim⟩=>?_⟩;refine wpIn_rangeFunc λfn _=>?_;obtain⟨C,hcv,ν⟩:=VRel.clos_inv (qt sim.env hg);have eg:∀u w,(callFunc L u).run P w=.ok (.enter L u) w:=λu w=>θ5;have hF:c.F.round=Θ:=ς;rw[hF];have sim1:=sim.grow (Grow.alloc w (.deferred (Δ [])));have hl:(w.alloc (.deferred (Δ []))).heap.size=w.heap.size+1:=φ;have hfr:Fresh st (w.heap.size+1):=sim.sto.fresh Z
  have sim2:=sim1.newObj (.loop (wk fn a.tmps z assign body w.heap.size .ready)) (.ghost (.loop (wk fn a.tmps z assign body w.heap.size .ready)) (gh.map λp=>(p.2,a.tmps.getD p.1 undef)))
    ⟨⟨Ko _ _,rfl⟩,λp hp=>by obtain⟨q,hq,rfl⟩:=Fag.1 hp;have W:=sim1.tm q.1;rw[hgh q hq]at W;exact VRel.keep (Ig _ _ M E) W⟩
  rw[hl]at sim2
  have hcall:=h (w.heap.size+1) _ (.ghost (.loop (wk fn a.tmps z assign body w.heap.size .busy)) (gh.map λp=>(p.2,a.tmps.getD p.1 undef))) hfr
    (λS u R hS hl h=>AYield.of_body hD rfl sim.tsz ι hnd hlt hS hl h)
  have hb1:(w.alloc (.deferred (Δ []))).heap[w.heap.size]?=Δ (.deferred (Δ [])):=Ko _ _;have τ:Chg M w (we M (w.heap.size+1)) ((w.alloc (.deferred (Δ []))).alloc (.loop (wk fn a.tmps z assign body w.heap.size .ready))):=by have W:=(Grow.alloc w (.deferred (Δ []))).chg M;have h2:=Kw (w.alloc (.deferred (Δ []))) (.loop (wk fn a.tmps z assign body w.heap.size .ready)) M;rw[hl]at h2;exact W.trans h2
  have ο:((w.alloc (.deferred (Δ []))).alloc (.loop (wk fn a.tmps z assign body w.heap.size .ready))).heap[w.heap.size]?=Δ (.deferred (Δ [])):=by grind[Fu]
  have hkeep:∀x y,VRel w (λb o=>M b o\/E b o) x y->VRel ((w.alloc (.deferred (Δ []))).alloc (.loop (wk fn a.tmps z assign body w.heap.size .ready))) (λb o=>we M (w.heap.size+1) b o\/E b o) x y:=λx y h=>h.keep τ.keeps;have hent:=run_enterLoop_outer (P:=P) (w:=w) fn a.tmps z assign body;rw[show({state:=.ready,pending:=Θ,fn,tmps:=a.tmps,params:=z,assign,body,defers:=w.heap.size}:Loop)=wk fn a.tmps z assign body w.heap.size .ready from rfl]at hent;generalize hW:(w.alloc (.deferred (Δ []))).alloc (.loop (wk fn a.tmps z assign body w.heap.size .ready))=W1 at*;have υ:Reads W1 (λb o=>we M (w.heap.size+1) b o\/E b o) (.s (.func (.yield (w.heap.size+1)) #[] #[])::U) (#[Value.func (.yield (w.heap.size+1)) #[] #[]]++C).toList:=by rw[Fbc];exact Reads.cons (.s _) ⟨ν.1,λi x y hx hy=>hkeep _ _ (ν.2 i x y hx hy)⟩
  have hc:=sim2.call hcall υ;rw[eg]at hc;refine⟨w.heap.size+1,[{target:=.collected w.heap.size,args:=#[]}],W1,{target:=.fn (.func L) C,args:=#[.func (.yield (w.heap.size+1)) #[] #[]]},W1,L,#[Value.func (.yield (w.heap.size+1)) #[] #[]]++C,W1,hent,?_,λ_ _=>O,?_,λh=>ω,zhe (Calls.mono hc ?_)⟩
  . simp only[resolve,hcv]
    simp[Deferred.ofValue,Act.eval]
  . simp[invoke,eg]
  . rintro e w3 ⟨v,rfl,r,H,M',⟨hS,hQ⟩,hv,G,I⟩
    obtain⟨⟨⟨ε,_⟩,_⟩,hM3⟩:=G.sto.obj _ _ hS;have sim4:=(G.putGhost (o':=.loop {wk fn a.tmps z assign body w.heap.size .ready with state:=.exhausted}) hS rfl).drop (w.heap.size+1);have hc4:=pj (o':=.loop {wk fn a.tmps z assign body w.heap.size .ready with state:=.exhausted}) ε rfl hM3;refine⟨Θ,_,run_endLoop ε (by simp[wk]),A,H.dO (w.heap.size+1),M',hQ,⟨β,?_⟩,τ.trans (I.trans hc4)⟩;have π:((H.sO (w.heap.size+1) (.ghost (.loop {wk fn a.tmps z assign body w.heap.size .ready with state:=.exhausted}) (gh.map λp=>(p.2,a.tmps.getD p.1 undef)))).dO (w.heap.size+1))=H.dO (w.heap.size+1):=by
      unfold Store.sO Store.dO
      congr 1
      funext i
      dsimp only;cases Nat.beq i (w.heap.size+1)<;>rfl
    rw[π]at sim4;have hDlt:w.heap.size<W1.heap.size:=Ho ο;have η:∀o,¬we M (w.heap.size+1) w.heap.size o:=λo V=>by
      rcases V with V|V
      . have:=sim.sto.mlt _ _ V;omega
      . omega
    refine{tsz:=sim4.tsz,dfr:=MarksD.of ⟨?_,?_⟩ hD hnm,tm:=sim4.tm,bx:=sim4.bx,inj:=sim4.inj,sep:=sim4.sep,sto:=sim4.sto}
    . show List.Pairwise _ ({target:=Target.collected w.heap.size,args:=#[]}::a.defers)
      refine Fc1.2 ⟨λd hd=>?_,(sim4.dfr.out hD).nd⟩;obtain⟨D,rfl,W,_⟩:=(sim.dfr.out hD).all d hd;have:=Ho W;intro e;simp only[Target.collected.injEq]at e;omega
    . intro d hd
      rcases Fa7.1 hd with rfl|hd
      . refine⟨w.heap.size,rfl,?_,λo=>⟨λV=>η o (I.sub _ o V hDlt),λhO=>?_⟩⟩
        . rw[World.putObj_heap_other Z,I.blk _ hDlt η]
          exact ο
        . have:=sim.sto.olt _ _ hO;omega
      . exact(sim4.dfr.out hD).all d hd
end
end Go.V
namespace Go.Proofs
open Go Go.V
section
variable {room cnt:Int}
theorem zcc{α:Type}(k:Int)(v:α):∀b:List (Int×α),(yz b k v).map (·.1)=if k∈b.map (·.1)then b.map (·.1)else b.map (·.1)++[k]
 |[]=>by simp[yz]
 |e::l=>by
  have c:=zcc k v l;by_cases h:k=e.1
  .grind[yz]
  .have f:(k==e.1)=false:=by simpa using h
   rw[show yz (e::l) k v=e::yz l k v by rw[yz];simp[f]];rw[Fb5,c,Fb5];by_cases a:k∈l.map (·.1)
   .rw[if_pos a,if_pos (Fba _ a)]
   .rw[if_neg a,if_neg (λd=>(Fa7.1 d).elim h a)];rfl
theorem Wg{α:Type}{a:List (Int×α)}(h:(a.map (·.1)).Nodup)(k:Int)(v:α):((yz a k v).map (·.1)).Nodup:=by rw[zcc];grind
theorem ypk{α:Type}{a:List (Int×α)}{k:Int}(h:k∉a.map (·.1)):qe a k=Θ:=by grind[qe]
theorem nz{α:Type}(e:Int×α)(l:List (Int×α))(j:Int):qe (e::l) j=if j=e.1 then Δ e.2 else qe l j:=by unfold qe;grind
theorem ny{α:Type}(q j:Int):∀a:List (Int×α),(a.map (·.1)).Nodup->qe (a.eraseP λe=>q==e.1) j=if j=q then Θ else qe a j
 |[],_=>by show(Θ:Option α)=_;split<;>rfl
 |e::l,h=>by
  rw[Fb5,List.nodup_cons]at h;have b:=ny q j l h.2;rw[List.eraseP_cons];by_cases d:q=e.1
  .simp_all[nz,ypk]
  .have c:(q==e.1)=false:=by simpa using d
   rw[c,cond_false,nz,nz,b];grind
def yq3{α:Type}(q:Int):∀a:List (Int×α),(a.map (·.1)).Nodup->((a.eraseP λe=>q==e.1).map (·.1)).Nodup:=λa h=>
 List.Nodup.sublist (List.Sublist.map _ (List.eraseP_sublist)) h
structure CI(W:Int->Nat->Prop)(room:Int)(cs:List (Int×Int))(ks:List Int)(ws:List (Int×Nat))(cnt:Int):Prop where
 nd:ks.Nodup
 len:(Γ ks:Int)<=room
 cnd:(cs.map (·.1)).Nodup
 ok:∀key v,qe cs key=Δ v->key∈ks/\v<=cnt/\∃b,qe ws v=Δ b/\W key b
theorem CI.nil(W:Int->Nat->Prop)(h:0<=room)(cnt:Int):CI W room [] [] [] cnt:=⟨φ,by simpa using h,φ,λkey v a=>by cases a⟩
def yl6{a:List Int}(h:a.Nodup)(key j:Int):j∈key::a.erase key↔j=key\/j∈a:=δ
def ff{a:List Int}(h:a.Nodup)(key:Int):(key::a.erase key).Nodup:=δ
theorem CI.hit{W:Int->Nat->Prop}{c:List (Int×Int)}{e:List Int}{d:List (Int×Nat)}(h:CI W room c e d cnt){key v:Int}(j:qe c key=Δ v):CI W room c (key::e.erase key) d cnt:=by
 have f:=(h.ok key v j).1;refine⟨ff h.nd key,?_,h.cnd,λi g k=>?_⟩
 .rw[Fbb,List.length_erase_of_mem f];have:=List.length_pos_of_mem f;have:=h.len;omega
 .obtain⟨a,b⟩:=h.ok i g k;grind
def CI.fresh{W:Int->Nat->Prop}{o:List (Int×Int)}{n:List Int}{k:List (Int×Nat)}(h:CI W room o n k cnt)(key:Int)(l:Nat)(g i:Int)(j:qe (yz o key (cnt+1)) g=Δ i):
  g∈key::n.erase key/\i<=cnt+1/\∃b,qe (yz k (cnt+1) l) i=Δ b/\(if g=key then b=l else W g b):=by
 rw[Dr]at j;by_cases e:g=key
 .simp_all[Dr]
 .rw[if_neg e]at j;obtain⟨a,b,c,d,f⟩:=h.ok g i j;refine⟨(yl6 h.nd key g).2 (.inr a),Z,c,?_,?_⟩
  .rw[Dr,if_neg Z];exact d
  .rw[if_neg e];exact f
def CI.put1{W:Int->Nat->Prop}{e:List (Int×Int)}{c:List Int}{d:List (Int×Nat)}(h:CI W room e c d cnt)(key:Int)(a:Nat)(f:((key::c.erase key).length:Int)<=room):
  CI (λk b=>if k=key then b=a else W k b) room (yz e key (cnt+1)) (key::c.erase key) (yz d (cnt+1) a) (cnt+1):=
 ⟨ff h.nd key,f,Wg h.cnd _ _,h.fresh key a⟩
theorem CI.put2{W:Int->Nat->Prop}{l:List (Int×Int)}{a:List Int}{i:List (Int×Nat)}(h:CI W room l a i cnt)(t:1<=room)(key:Int)(c:Nat)(u:room<((key::a.erase key).length:Int)):
  CI (λk b=>if k=key then b=c else W k b) room ((yz l key (cnt+1)).eraseP λe=>(key::a.erase key).getLastD 0==e.1) (key::a.erase key).dropLast (yz i (cnt+1) c) (cnt+1)∧
   (key::a.erase key).getLastD 0≠key:=by
 have d:=ff h.nd key;have v:=h.fresh key c;have o:(a.erase key).length<=Γ a:=δ;have hlen:=h.len;have hne2:a.erase key≠[]:=λe=>δ;have hlast:(key::a.erase key).getLastD 0=(a.erase key).getLast hne2:=δ;have f:(a.erase key).getLast hne2∈a.erase key:=List.getLast_mem hne2;have g:(a.erase key).getLast hne2≠key:=λe=>(h.nd.mem_erase_iff.1 (e▸f)).1 rfl;rw[hlast];refine⟨⟨?_,?_,yq3 _ _ (Wg h.cnd _ _),λn p j=>?_⟩,g⟩
 .exact d.sublist (List.dropLast_sublist _)
 .grind
 .rw[ny _ _ _ (Wg h.cnd _ _)]at j;by_cases e:n=(a.erase key).getLast hne2
  .grind
  .rw[if_neg e]at j;grind[List.dropLast_concat_getLast]
def CI.ways{W k:Int->Nat->Prop}{g:List (Int×Int)}{j:List Int}{i f:List (Int×Nat)}(h:CI W room g j i cnt)(n:∀key v b,qe g key=Δ v->qe i v=Δ b->W key b->qe f v=Δ b/\k key b):CI k room g j f cnt:=by refine⟨h.nd,h.len,h.cnd,λkey v l=>?_⟩;obtain⟨a,b,c,d,e⟩:=h.ok key v l;grind
end
end Go.Proofs
namespace Go.V
section
variable {P:Program} {c:Cfg} {st:Store}
def yuo{e:TypeId}{ie:TI}(j:c.I e=Δ ie){x:AV}{m:Nat}{xs:List AV}(L:SrcOK P st ie.size m x xs)(i:room m ie.bytes){K:Ja}
  (h1:m=0->∀a,M9 a->K (.s (.slice a 0 0)) st)
  (X:0<m->∀H f,Fresh st H->m<=f->f<=9223372036854775807->K (.s (.slice (Δ ⟨H,0,Θ⟩) m f)) (st.sO H (.cells (xs++List.replicate ((f-m)*ie.size) .any)))):
  AppX P c st e .emp x K:=by
 refine⟨⟨ie,j⟩,λB g y M w sv z d ty h t sto V l u o Q n U v=>?_⟩;cases V with
 |emp a W=>
  by_cases R:0<m
  .exact(yum j L i R (X R)).out B g y M w _ z d ty h t sto (.s _) l u o Q n U v
  .rw[j]at g;cases g;have C:m=0:=Z;subst C;have A:AppArgs P c d h t e ie a 0 0 z:=⟨u,o,Q,n,U,v⟩
   obtain⟨E,k,T,S,p,G⟩:=L.out y M w z sto l;have D:k.toList=[]:=by
    have:Γ k.toList=0:=by rw[Fco,p];simp
    exact Fa2 this
   have hrun:=K4 (w':=w) ty A E (G w rfl) φ (λb hb=>by rw[D];simp[storeCells]) (λ_=>rfl);exact⟨_,_,hrun,_,_,M,h1 rfl a W,.s _,sto,Chg.refl M w⟩
end
def Store.objs(S:Store):Store:=⟨S.obj,λ_=>Θ⟩
variable {P:Program} {c:Cfg} {st:Store}
def yvh{o:Oper}{f:Call}{t z e:TypeId}{x:Operand}(ho:o.op=.call f)(hcl:f.callee=.builtin .clear)(hargs:f.args=#[x])(n:f.argTypes[0]?=Δ t)
    {p:TI} (hit:c.I t=Δ p) (l:p.ty=.map z e)
    {m a:Nat} {E:List (AV×AV)} {G:List Nat} (u:st.obj m=Δ (.map E G a))
    {R:Ja} (h:R (.tup []) (st.sO m (.map [] [] a))):AEff P c o [.s (.map (Δ m))] st R:=by
  refine⟨λg M w ρ C sto j=>?_⟩;have hops:o.op.operands=#[x]:=ψw;rw[hops]at j;have j:Reads w (λb o=>M b o\/g b o) [.s (.map (Δ m))] [ρ x]:=by simpa using j
  have D:=VRel.eq_s (j.2 0 _ (ρ x) rfl rfl);obtain⟨⟨L,k,X,W,V,U,T⟩,S⟩:=sto.obj m _ u;have hund:=yy (P:=P) (Li (C _ _ hit) l);have hexec:(execOp ρ o).run P w=((Builtin.clear_ f.argTypes o.type #[ρ x]).run P w).andThen λv y=>.ok (.value v) y:=by simp[execOp,ho,resolve,hcl,invoke,builtin,hargs]
  have hrun:(execOp ρ o).run P w=.ok (.value (.tuple #[])) {w with heap:=w.heap.setIfInBounds m (.map #[] a)}:=by rw[hexec];simp[Builtin.clear_,n,hund,D,D2 k,Ps _ k]
  have d:StoreOK (st.sO m (.map [] [] a)) g M {w with heap:=w.heap.setIfInBounds m (.map #[] a)}/\Chg M w M {w with heap:=w.heap.setIfInBounds m (.map #[] a)}:=by refine M4 sto u k trivial trivial ?_;exact⟨_,Ob _ k,rfl,λi K H A Q=>by simp at A,rfl,λt B=>by simp at B,List.Pairwise.nil⟩
  rw[hrun];exact⟨_,_,M,h,Ah Reads.nil,d.1,d.2⟩
section
variable {P:Program} {f:FuncId} {fn:Func} {st:Store} {R:Ja}
abbrev ptrA(b o:Nat):AV:=.s (.pointer (Δ ⟨b,o,Θ⟩))
def Rh{g M:BB}{w:World}(sto:StoreOK st g M w){b o:Nat}{l:List AV}(n:st.obj b=Δ (.cells l)){v:Value}(i:l[o]?=Δ (.s v)):w.cell? ⟨b,o,Θ⟩=Δ v/\w.frozen? ⟨b,o,Θ⟩=false:=by
  obtain⟨⟨j,z,y,e,k,h,a⟩,u⟩:=sto.obj b _ n;have d:o<j.size:=by have:=(Fa1.1 i).1;omega
  have t:=a o _ j[o] i (by simp[d]);have p:=VRel.eq_s t;refine⟨?_,?_⟩
  . simp only[World.cell?,e]
    simp[d,p]
  . unfold World.frozen?
    simp only[e];simp;omega
def ek{w:World}{b o:Nat}{v u:Value}(a:w.cell? ⟨b,o,Θ⟩=Δ u):Wrote w b o [v] (w.setCell ⟨b,o,Θ⟩ v):=by
  unfold World.cell? at a;split at a
  . rename_i c e fr d
    split at a
    . cases a
    . have:=(Fbt.1 a).1
      have h:=Mr [v] o w c e fr d (by exact this);simpa [World.setCells]using h
  . cases a
def yvk (t : P.funcs[f]? = Δ fn) (a : (fn.name == "runtime.NumGoroutine") = false) (y : fn.body.isNone = true) (n : Extern.findNext fn = Θ) (k : IntKind)
    (v:Extern.find fn=Δ (Extern.Atomic.loadT (.int k))) {b o:Nat} {l:List AV} {x:Int} (i:st.obj b=Δ (.cells l)) (p:l[o]?=Δ (.s (.int k x))) (h:R (.s (.int k x)) st):ACalls P f [ptrA b o] st R:=by
  refine ACalls.of_value λA M w d sto j=>?_;obtain⟨z,B⟩:=Rh sto i p;have e:d=#[.pointer (Δ ⟨b,o,Θ⟩)]:=by
    have g:=j.1;obtain⟨d⟩:=d
    match d,g with
    |[u],_=>rw[VRel.eq_s (j.2 0 _ u rfl rfl)]
  subst e;exact⟨_,w,run_call_load t a y n k v z,_,st,M,h,.s _,sto,Chg.refl _ _⟩
def zh5{w:World}{T:BB}{a b:Value}{d:Array Value}(g:Reads w T [.s a,.s b] d.toList):d=#[a,b]:=by
  have e:=g.1;obtain⟨d⟩:=d
  match d,e with
  |[u,v],_=>rw[VRel.eq_s (g.2 0 _ u rfl rfl),VRel.eq_s (g.2 1 _ v rfl rfl)]
def yvj (p : P.funcs[f]? = Δ fn) (a : (fn.name == "runtime.NumGoroutine") = false) (v : fn.body.isNone = true) (j : Extern.findNext fn = Θ)
    (t:Extern.find fn=Δ Extern.Atomic.storeT) {b o:Nat} {l:List AV} {u:Value} {k:IntKind} {y:Int} (d:st.obj b=Δ (.cells l)) (n:l[o]?=Δ (.s u)) (h:R (.tup []) (st.sO b (.cells (zu l o [.s (.int k y)])))):
    ACalls P f [ptrA b o,.s (.int k y)] st R:=by
  refine ACalls.of_value λC M w D sto i=>?_;obtain⟨g,B⟩:=Rh sto d n;have e:=zh5 i;subst e;obtain⟨A,z⟩:=Cp sto d (Reads.cons (.s (.int k y)) Reads.nil) (ek g);exact⟨_,_,run_call_store p a v j t g B,_,_,M,h,Ah Reads.nil,A,z⟩
def zik (t : P.funcs[f]? = Δ fn) (a : (fn.name == "runtime.NumGoroutine") = false) (v : fn.body.isNone = true) (n : Extern.findNext fn = Θ) (k : IntKind)
    (u:Extern.find fn=Δ (Extern.Atomic.update (Op.intArith .add) k true)) {b o:Nat} {l:List AV} {x y s:Int} (d:st.obj b=Δ (.cells l)) (p:l[o]?=Δ (.s (.int k x)))
    (i:∀w,(Op.intArith .add k x y).run P w=.ok (.int k s) w) (h:R (.s (.int k s)) (st.sO b (.cells (zu l o [.s (.int k s)])))):
    ACalls P f [ptrA b o,.s (.int k y)] st R:=by
  refine ACalls.of_value λC M w D sto j=>?_;obtain⟨g,B⟩:=Rh sto d p;have e:=zh5 j;subst e;obtain⟨A,z⟩:=Cp sto d (Reads.cons (.s (.int k s)) Reads.nil) (ek g);exact⟨_,_,run_call_add t a v n k u g B (i w),_,_,M,h,.s _,A,z⟩
def yvl (A : P.funcs[f]? = Δ fn) (a : (fn.name == "runtime.NumGoroutine") = false) (C : fn.body.isNone = true) (p : Extern.findNext fn = Θ) (k : IntKind)
    (B:Extern.find fn=Δ (Extern.Atomic.casT (.int k))) {b o:Nat} {l:List AV} {x y:Int} (d:st.obj b=Δ (.cells l)) (z:l[o]?=Δ (.s (.int k x)))
    (h:R (.s (.bool true)) (st.sO b (.cells (zu l o [.s (.int k y)])))):
    ACalls P f [ptrA b o,.s (.int k x),.s (.int k y)] st R:=by
  refine ACalls.of_value λH M w e sto g=>?_;obtain⟨n,G⟩:=Rh sto d z;have i:e=#[.pointer (Δ ⟨b,o,Θ⟩),.int k x,.int k y]:=by
    have j:=g.1;obtain⟨e⟩:=e
    match e,j with
    |[u,v,t],_=>rw[VRel.eq_s (g.2 0 _ u rfl rfl),VRel.eq_s (g.2 1 _ v rfl rfl),VRel.eq_s (g.2 2 _ t rfl rfl)]
  subst i;obtain⟨E,D⟩:=Cp sto d (Reads.cons (.s (.int k y)) Reads.nil) (ek n);exact⟨_,_,run_call_cas_hit A a C p k B n G,_,_,M,h,.s _,E,D⟩
def ef (i : P.funcs[f]? = Δ fn) (a : (fn.name == "runtime.NumGoroutine") = false) (k : fn.body.isNone = true) (g : Extern.findNext fn = Θ) (m : Mark)
    (j:Extern.find fn=Δ (λ_=>do mark m;pure Extern.Race.none_)) (h:R (.tup []) st):ACalls P f [] st R:=by
  refine ACalls.of_value λl M w d sto e=>?_;have b:d=#[]:=by have:=e.1;exact Array.eq_empty_of_size_eq_zero this.symm
  subst b;exact⟨_,w,run_call_mark0 i a k g m j w,_,st,M,h,Ah Reads.nil,sto,Chg.refl _ _⟩
def zij (k : P.funcs[f]? = Δ fn) (a : (fn.name == "runtime.NumGoroutine") = false) (n : fn.body.isNone = true) (j : Extern.findNext fn = Θ) (m : Addr -> Mark)
    (l:Extern.find fn=Δ (Extern.Race.marked m)) {b o:Nat} (h:R (.tup []) st):ACalls P f [ptrA b o] st R:=by
  refine ACalls.of_value λp M w d sto i=>?_;have e:d=#[.pointer (Δ ⟨b,o,Θ⟩)]:=by
    have g:=i.1;obtain⟨d⟩:=d
    match d,g with
    |[u],_=>rw[VRel.eq_s (i.2 0 _ u rfl rfl)]
  subst e;exact⟨_,w,run_call_marked k a n j m l ⟨b,o,Θ⟩ w,_,st,M,h,Ah Reads.nil,sto,Chg.refl _ _⟩
end
section
variable {P:Program} {c:Cfg} {st:Store}
def su(P:Program)(s t:TypeId):Bool:=match P.underlying s,P.underlying t with
  | some (.pointer e),Δ .unsafePointer=>match P.info? e with
    |some i=> !(i.size==0)
    |none=>false
  |_,_=>false
def zie{o:Oper}{s t:TypeId}{x:Operand}(p:o.op=.convert s t x)(a:su P s t=true)
    {b off:Nat} {l:List AV} {v:Value} (z:st.obj b=Δ (.cells l)) (u:l[off]?=Δ (.s v)) {R:Ja} (h:R (ptrA b off) st):
    AEff P c o [ptrA b off] st R:=by
  obtain⟨e,j,k,g⟩:∃e,P.underlying s=Δ (.pointer e)/\P.underlying t=Δ .unsafePointer/\(P.info? e).map (λi=>decide (i.size=0))=Δ false:=by
    unfold su at a;split at a
    . rename_i e j k
      split at a
      . rename_i i y
        exact⟨e,j,k,by rw[y];simpa using a⟩
      . exact Bool.noConfusion a
    . exact Bool.noConfusion a
  refine⟨λn M w ρ C sto d=>?_⟩;have hops:o.op.operands=#[x]:=by rw[p];simp[Op.operands]
  rw[hops]at d;have d:Reads w (λb o=>M b o\/n b o) [ptrA b off] [ρ x]:=by simpa using d
  have B:=VRel.eq_s (d.2 0 _ (ρ x) rfl rfl);have hrun:(execOp ρ o).run P w=.ok (.value (.pointer (Δ ⟨b,off,Θ⟩))) w:=by have A:=run_convert_to_unsafe j k g (Rh sto z u).1;simp[execOp,p,B,A]
  rw[hrun];exact⟨_,st,M,h,.s _,sto,Chg.refl _ _⟩
end
section
variable {P:Program} {c:Cfg}
structure ADefer(P:Program)(g:FuncId)(args:List AV)(st:Store)(R:Store->Prop):Prop where
  out:∀(Oth M:BB) (w:World) (vs:Array Value) (u:FrameMode),StoreOK st Oth M w->Reads w (λb o=>M b o\/Oth b o) args vs.toList->
    (callFunc g vs).run P w=.ok (.enter g vs) w/\CallsDIn Fence.wide 0 P g vs u w λe u' w'=>u'=u/\∃v,e=.returned v/\∃st' M',R st'/\StoreOK st' Oth M' w'/\Chg M w M' w'
def ADefer.of_awp (hI : qf P c.I) {g : FuncId} {y : Func} {A : Code} {f : List AV} {S : Store} {R : Store -> Prop} (hf : P.funcs[g]? = Δ y) (hb : y.body = Δ A) (V : (y.name == "runtime.NumGoroutine") = false)
    (hn:y.ntmps=c.n) (H:Nat.ble (Γ f) c.n=true) (h:AWp P c A (ip c y.results.toList λ_ d=>R d) (Cj f) S) (t:c.round=Θ:=by rfl) (hD:c.D0=[]:=by rfl) (U:c.nm=true:=by rfl):ADefer P g f S R:=by
  refine⟨λz M w o u sto W=>?_⟩;have hrun:(callFunc g o).run P w=.ok (.enter g o) w:=θ5;refine⟨hrun,?_⟩;have hF:c.F=Fence.wide:=by unfold Cfg.F;rw[t];rfl
  have η:Γ f<=c.n:=Fbp H;have ε:o.size=Γ f:=by simpa using W.1.symm
  let a:Act:={tmps:=o++Array.replicate (y.ntmps-o.size) undef,defers:=[]}
  have sim:SimB c.N z (λ_=>0) (Cj f) S M a w:=
    { tsz:=by show Array.size _=c.n;simp[a,hn];omega
      dfr:=MarksD.nil hD
      tm:=λi=>by
        simp only[Cj,rc,a];rw[Fbf];by_cases X:i<o.size
        . rw[Fdk X,Fac Z]
          exact W.2 i _ _ (Fac Z) (by simp[X])
        grind[LRel]
      bx:=λk l hk=>θ3
      inj:=λk k' hk=>θ3
      sep:=λk b hk=>θ3
      sto:=sto}
  have C:=h.out z M a w ⟨_,sim⟩;rw[hF]at C
  have fin:∀B j D d p,V6 c y.results.toList (λ_ d=>R d) D d->Sim c.N z D d p B j->Chg M w p j->
      B.defers=[]/\∃v,(results y B.tmps).run P j=.ok v j/\∃u,Ending.returned v=.returned u/\∃d p,R d/\StoreOK d z p j/\Chg M w p j:=by
    rintro B j D d p G ⟨β,s⟩ K;obtain⟨l,o,⟨r,E,Q,C,L⟩,h4,h5⟩:=zbs hI s.env _ _ G;have T:(results y B.tmps).run P j=.ok (if h:o.toArray.size=1 then o.toArray[0]else .tuple o.toArray) j:=by unfold results;rw[Sem.run_bind,Feh,Sem.run_map];exact congrArg (λr=>(Result.andThen (Result.andThen r λl w=>.ok l.toArray w) λ(o:Array Value) j=>.ok (if h:o.size=1 then o[0]else .tuple o) j)) h4
    exact⟨(s.dfr.known U).trans hD,_,T,_,rfl,E,p,L,s.sto.weaken C,K⟩
  refine callsDIn_of_wp hf hb trivial (Code.wpF_mono ?_ C);rintro e B j ⟨D,d,p,Q,C,L⟩;cases e with
  |normal=>exact fin B j D d p Q C L
  |ret=>exact fin B j D d p Q C L
  |_=>exact Q.elim
structure AWpD(P:Program)(c:Cfg)(code:Code)(Q:List Deferred->Exit->Fr->Store->Prop)(A:Fr)(st:Store):Prop where
  out:∀Oth M a w,Sim c.N Oth A st M a w->code.wpIn c.F 0 P (λe a' w'=>∃D0 A' st' M',Q D0 e A' st'/\Sim ⟨c.n,D0,c.nm⟩ Oth A' st' M' a' w'/\Chg M w M' w') a w
def AWpD.of{b:Code}{Q:List Deferred->Exit->Fr->Store->Prop}{A:Fr}{i:Store}(h:AWp P c b (Q c.D0) A i):AWpD P c b Q A i:=
  ⟨λg M a w f=>Code.wpF_mono (λe p o ⟨n,d,M',l,k,j⟩=>⟨c.D0,n,d,M',l,k,j⟩) (h.out g M a w f)⟩
def yln(P:Program)(c:Cfg)(y:Code)(Q:List Deferred->Exit->Fr->Store->Prop)(a:List Deferred):Exit->Fr->Store->Prop
  |.normal=>AWpD P {c with D0:=a} y Q
  |e=>Q a e
def AWpD.seq{x y:Code}{Q:List Deferred->Exit->Fr->Store->Prop}{A:Fr}{l:Store}(h:AWpD P c x (yln P c y Q) A l):AWpD P c (.seq x y) Q A l:=by
  refine⟨λf M a w g=>wpIn_seq ?_⟩;refine Code.wpF_mono ?_ (h.out f M a w g);rintro e G z ⟨j,u,d,t,p,o,n⟩;cases e with
  | normal=>
    refine Code.wpF_mono ?_ (AWpD.out (show AWpD P {c with D0:=j} y Q u d from p) f t G z o);rintro e E v ⟨H,k,b,i,D,C,B⟩;exact⟨H,k,b,i,D,C,n.trans B⟩
  |_=>exact⟨j,u,d,t,p,o,n⟩
def AWpD.cond{x:Operand}{p q:Code}{Q:List Deferred->Exit->Fr->Store->Prop}{A:Fr}{b:Store}(t:Bool)(ht:A.ev x=.av (.s (.bool t)))(h:Ds t (AWpD P c p Q A b) (AWpD P c q Q A b)):AWpD P c (.cond x p q) Q A b:=by
  refine⟨λd M a w sim=>?_⟩;have e:a.eval x=.bool t:=ψt;refine wpIn_cond e ?_;cases t with
  |true=>exact(AWpD.out (show AWpD P c p Q A b from h)) d M a w sim
  |false=>exact(AWpD.out (show AWpD P c q Q A b from h)) d M a w sim
def ziz{d:Array Oper}{Q f:Exit->Act->World->Prop}{b:List Oper}(j:∀e a w,e≠.normal->¬Q e a w)(g:∀a w,Q .normal a w->wpListIn c.F 0 P d f b a w):
    ∀(l:List Oper) (a:Act) (w:World),wpListIn c.F 0 P d Q l a w->wpListIn c.F 0 P d f (l++b) a w:=by
  intro l;induction l with
  |nil=>intro a w h;exact g a w h
  | cons o l i=>
    intro a w h;rw[List.cons_append];unfold wpListIn at h⊢;split
    . grind[Ss]
    grind
def AWpD.defer(hI:qf P c.I)(j:c.round=Θ)(E:c.nm=true){id:Nat}{d:Array Oper}{b:List Oper}{o:Oper}(u:d.toList=b++[o]){p:Call}{f:Operand}(ho:o.op=.defer p)(R:p.callee=.value f)(hg:o.guard=Θ)(hd:o.dst=Θ)
    {Q:List Deferred->Exit->Fr->Store->Prop} {A:Fr} {t:Store}
    (h:Cq P c d (λA t=>∃(g:FuncId) (k:List Value),A.ev f=.av (.clos g [])/\(p.args.toList.map λx=>A.ev x)=k.map (λv=>LV.av (.s v))/\Q ({target:=.fn (.func g) #[],args:=k.toArray}::c.D0) .normal A t) b A t):AWpD P c (.region id d false) Q A t:=by
  refine⟨λU M a w C=>?_⟩;refine wpIn_region_list ?_;rw[u];refine ziz (λe a w G h=>G h.1) ?_ b a w (sk hI d _ b A t h U M a w C);rintro T V ⟨_,W,B,M',⟨g,k,K,l,hQ⟩,⟨β,s⟩,y⟩;have H:T.eval f=.func (.func g) #[] #[]:=by
    obtain⟨z,ε,L⟩:=VRel.clos_inv (qt s.env K);have:z=#[]:=by have h0:=L.1;grind
    grind
  have S:p.args.map T.eval=k.toArray:=by
    apply Array.toList_inj.1;rw[Fcx];apply Fcd;intro i;have n:(p.args.toList.map λx=>W.ev x)[i]?=(k.map (λv=>LV.av (.s v)))[i]?:=by rw[l]
    rw[Fau,Fau]at n;rw[Fau];cases X:p.args.toList[i]? with
    | none=>
      grind
    | some x=>
      rw[X]at n;cases D:k[i]? with
      |none=>rw[D]at n;cases n
      | some v=>
        rw[D]at n;simp only[Option.map_some,Fak]at n;have:=VRel.eq_s (qt s.env n);simp[D,this]
  unfold wpListIn;rw[if_pos (by simp[Region.wanted,hg])];refine⟨λ_ _=>O,?_⟩;have hF:c.F.round=Θ:=j;rw[hF,Oper.semAt_none];have hrun:(execOp T.eval o).run P V=.ok (.defer {target:=.fn (.func g) #[],args:=k.toArray}) V:=by simp[execOp,ho,resolve,R,H,Deferred.ofValue,S]
  rw[hrun,Oper.uponIn_defer,hd];refine⟨_,W,B,M',hQ,⟨β,?_⟩,y⟩;refine{tsz:=s.tsz,dfr:=⟨[],?_,λ_=>rfl,Marks.nil⟩,tm:=s.tm,bx:=s.bx,inj:=s.inj,sep:=s.sep,sto:=s.sto};rw[s.dfr.known E];rfl
def AWpD.deferL(u:qf P c.I){id:Nat}{a:Array Oper}{o:Oper}{k:Call}{f:Operand}(i:a.toList.getLast?=Δ o)(n:o.op=.defer k)(j:k.callee=.value f)(p:o.guard=Θ)(t:o.dst=Θ)
    {Q:List Deferred->Exit->Fr->Store->Prop} {A:Fr} {d:Store}
    (h:Cq P c a (λA d=>∃(g:FuncId) (l:List Value),A.ev f=.av (.clos g [])/\(k.args.toList.map λx=>A.ev x)=l.map (λv=>LV.av (.s v))/\Q ({target:=.fn (.func g) #[],args:=l.toArray}::c.D0) .normal A d) a.toList.dropLast A d)
    (b:c.round=Θ:=by rfl) (e:c.nm=true:=by rfl):AWpD P c (.region id a false) Q A d:=
  AWpD.defer u b e (by grind[List.getLast?_eq_some_iff]) n j p t h
def W0(P:Program):List Deferred->(Store->Prop)->Store->Prop
  |[],K,b=>K b
  |d::ds,K,b=>∃(g:FuncId) (e:List Value),d={target:=.fn (.func g) #[],args:=e.toArray}/\ADefer P g (e.map AV.s) b λa=>W0 P ds K a
def ym4{u:Func}{i:Array Value}{R:Ending->World->Prop}{f:BB}(k:u.results=#[]){K:Store->Prop}{y:BB}{t:World}
    (C:∀a M w,K a->StoreOK a f M w->Chg y t M w->R (.returned (.tuple #[])) w):∀(l:List Deferred) (a:Store) (M:BB) (w:World),W0 P l K a->StoreOK a f M w->Chg y t M w->
    LeavesInM Fence.wide 0 P u i R l .returning w:=by
  intro l;induction l with
  | nil=>
    intro a M w h sto p;refine⟨.tuple #[],?_,C a M w h sto p⟩;unfold results;rw[k];simp
  | cons d l A=>
    intro a M w h sto p;obtain⟨g,n,rfl,B⟩:=h;obtain⟨j,b⟩:=B.out f M w n.toArray .returning sto (by simpa using Reads.map_s n);refine⟨φ,.inr ⟨λh=>ω,.func g,#[],g,n.toArray,rfl,?_,λ_ _=>O,b.mono ?_⟩⟩
    . simp[invoke,j]
    . rintro e I z ⟨rfl,v,rfl,o,H,G,E,D⟩
      exact A o H z G E (p.trans D)
def ACalls.of_awpD (hI : qf P c.I) {g : FuncId} {z : Func} {u : Code} {d : List AV} {L : Store} {R : Ja} (hf : P.funcs[g]? = Δ z) (hb : z.body = Δ u) (U : (z.name == "runtime.NumGoroutine") = false)
    (hn:z.ntmps=c.n) (G:Nat.ble (Γ d) c.n=true) (E:z.results=#[]) (h:AWpD P c u (λj e C f=>match e with|.normal|.ret=>W0 P j (R (.tup [])) f|_=>False) (Cj d) L) (p:c.round=Θ:=by rfl) (hD:c.D0=[]:=by rfl) (T:c.nm=true:=by rfl):ACalls P g d L R:=by
  refine⟨λt M w B sto X=>?_⟩;have hrun:(callFunc g B).run P w=.ok (.enter g B) w:=θ5;rw[hrun];have hF:c.F=Fence.wide:=by unfold Cfg.F;rw[p];rfl
  refine(callsIn_wide (n:=0)).1 (callsIn_of_wp_marks hf hb trivial ?_);have η:Γ d<=c.n:=Fbp G;have ε:B.size=Γ d:=by simpa using X.1.symm
  let a:Act:={tmps:=B++Array.replicate (z.ntmps-B.size) undef,defers:=[]}
  have sim:SimB c.N t (λ_=>0) (Cj d) L M a w:=
    { tsz:=by show Array.size _=c.n;simp[a,hn];omega
      dfr:=MarksD.nil hD
      tm:=λi=>by
        simp only[Cj,rc,a];rw[Fbf];by_cases hi:i<B.size
        . rw[Fdk hi,Fac Z]
          exact X.2 i _ _ (Fac Z) (by simp[hi])
        grind[LRel]
      bx:=λk l hk=>θ3
      inj:=λk k' hk=>θ3
      sep:=λk b hk=>θ3
      sto:=sto}
  have K:=h.out t M a w ⟨_,sim⟩;rw[hF]at K;refine Code.wpF_mono ?_ K
  have fin:∀j y o C f A,W0 P j (R (.tup [])) f->Sim ⟨c.n,j,c.nm⟩ t C f A y o->Chg M w A o->
      LeavesInM Fence.wide 0 P z y.tmps (λe o=>∃v,e=.returned v/\xg L R t M w v o) y.defers .returning o:=by
    rintro j y o C f A D ⟨β,s⟩ H;have V:y.defers=j:=s.dfr.known T;rw[V];exact ym4 E (λS M3 w3 Q s3 c3=>⟨_,rfl,_,S,M3,Q,Ah Reads.nil,s3,c3⟩) j f A o D s.sto H
  rintro e y o ⟨j,C,f,A,W,K,Q⟩;cases e with
  |normal=>exact fin j y o C f A W K Q
  |ret=>exact fin j y o C f A W K Q
  |_=>exact W.elim
end
end Go.V
