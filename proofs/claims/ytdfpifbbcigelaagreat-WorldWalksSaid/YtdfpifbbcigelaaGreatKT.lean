/- Ground of laws of thronglaw25: contracts and plain lemmas; no condition beyond the row's own. -/
import Derived.RangeFuncRecord
import Derived.Laws.LoneSync
import Derived.Test.YtdfpifbbcigelaaGreatKF
set_option linter.unusedSimpArgs false
set_option linter.unusedVariables false
namespace Go.V
section
variable {P:Program} {c:Cfg}
theorem nz{w:World}{b:Nat}{o o':Obj}(h:w.heap[b]?=some o)(h1:Lo o=true)(T:Nat->Nat->Prop):Keeps w T (w.putObj b o') T where
  cell k i v hc _:=by
    by_cases e:k=b
    · subst e
      simp only[World.cell?,h]at hc
      cases o<;>simp_all [Lo]
    · rw[Ch (World.putObj_heap_other e)];exact hc
  out _ _ _ _ hT:=hT
  shp k c' e' fr hw:=by
    by_cases e:k=b
    · subst e
      rw[h]at hw
      cases hw
      cases h1
    · exact⟨c',fr,by rw[World.putObj_heap_other e];exact hw,rfl⟩
theorem ba{M:Nat->Nat->Prop}{w:World}{b:Nat}{o o':Obj}(h:w.heap[b]?=some o)(h1:Lo o=true)(hM:∀i,M b i):Chg M w M (w.putObj b o') where
  size:=by simp
  keep k i _ hm:=Ch (World.putObj_heap_other λe=>hm (by rw[e];exact hM i)) i
  blk k _ hm:=World.putObj_heap_other λe=>hm 0 (by rw[e];exact hM 0)
  shp:=(nz h h1 (λ_ _=>False)).shp
  sub _ _ hm _:=hm
  tape:=rfl
  os:=rfl
  output:=rfl
theorem SimB.putGhost{n:SN}{Oth M:Nat->Nat->Prop}{β:Nat->Nat}{A:Fr}{st:Store}{a:Act}{w:World}(s:SimB n Oth β A st M a w){b:Nat}{o o':Obj}{gh:List (AV×Value)}(hb:st.obj b=some (.ghost o gh))(h':Lo o'=true):
    SimB n Oth β A (st.sO b (.ghost o' gh)) M a (w.putObj b o'):=by
  obtain⟨⟨⟨hw,hc⟩,hg⟩,hM⟩:=s.sto.obj b _ hb
  have hk:=λT=>nz (o':=o') hw hc T
  have hne:∀k,st.obj k≠none\/True->k≠b->(w.putObj b o').heap[k]?=w.heap[k]?:=λk _ e=>World.putObj_heap_other e
  exact
    { tsz:=s.tsz
      dfr:=s.dfr.step λD _ _ h2=>⟨World.putObj_heap_other λe=>(h2 0).1 (e▸hM 0),λo=>(h2 o).1⟩
      tm:=λi=>(s.tm i).keep (hk _)
      bx:=λk l hl=>⟨(s.bx k l hl).1.same (hk _) (World.putObj_heap_other (s.sep k b (by rw[hl];simp) (.inl (by rw[hb];simp)))),(s.bx k l hl).2⟩
      inj:=s.inj
      sep:=λk b' hk' hb'=>s.sep k b' hk' (by
        by_cases e:b'=b
        · subst e;exact .inl (by rw[hb];simp)
        · simpa [Store.sO,yv e]using hb')
      sto:=
        { obj:=λk x hx=>by
            by_cases e:k=b
            · subst e
              simp only[Store.sO,Fbs,cond_true,Fah]at hx
              subst hx
              exact⟨⟨⟨World.putObj_heap_same (j4 hw),h'⟩,λp hp=>(hg p hp).keep (hk _)⟩,hM⟩
            · simp only[Store.sO,yv e,cond_false]at hx
              exact⟨ObjRel.same (s.sto.obj k x hx).1 (hk _) (World.putObj_heap_other e),(s.sto.obj k x hx).2⟩
          tok:=λk top ht=>by
            obtain⟨c1,e1,fr1,h1,h2⟩:=s.sto.tok k top ht
            exact⟨c1,e1,fr1,by rw[World.putObj_heap_other λe=>by subst e;rw[hw]at h1;cases h1;cases hc];exact h1,h2⟩
          mlt:=λk i hm=>by simpa using s.sto.mlt k i hm
          olt:=λk i hm=>by simpa using s.sto.olt k i hm
          dis:=s.sto.dis}}
theorem SimB.drop{n:SN}{Oth M:Nat->Nat->Prop}{β:Nat->Nat}{A:Fr}{st:Store}{a:Act}{w:World}(s:SimB n Oth β A st M a w)(b:Nat):SimB n Oth β A (st.dO b) M a w where
  tsz:=s.tsz
  dfr:=s.dfr
  tm:=s.tm
  bx:=s.bx
  inj:=s.inj
  sep k b' hk hb:=s.sep k b' hk (hb.imp (λh=>by
    cases hx:(st.dO b).obj b' with
    |none=>exact absurd hx h
    |some y=>rw[(Dw hx).2];simp) id)
  sto:=s.sto.weaken ⟨λk x h=>(Dw h).2,λk x h=>h⟩
def Iv(ps:List Tmp)(args:List AV)(gh:List (Nat×AV)):Fr:=Bz (ps.zip (args.map LV.av)++gh.map λp=>(p.1,LV.av p.2)) []
def js(fn:FuncId)(tmps:Array Value)(ps:Array Tmp)(assign body:Code)(D:Nat)(s:LoopState):Loop:={state:=s,pending:=none,fn,tmps,params:=ps,assign,body,defers:=D}
theorem yck(ps:List (Tmp×Value)):∀t:Array Value,(ps.foldl (λt p=>t.setIfInBounds p.1 p.2) t).size=t.size:=by
  induction ps with
  |nil=>intro t;rfl
  |cons p ps ih=>intro t;rw[Fcq,ih];simp
theorem ycl{i:Nat}:∀(ps:List (Tmp×Value)) (t:Array Value),(∀p∈ps,p.1≠i)->(ps.foldl (λt p=>t.setIfInBounds p.1 p.2) t).getD i undef=t.getD i undef:=by
  intro ps
  induction ps with
  |nil=>intro t _;rfl
  | cons p ps ih=>
    intro t h
    rw[Fcq,ih _ λq hq=>h q (Fa3 _ hq)]
    have:=h p Fbj
    rw[Fav,Fav,Fco this]
theorem zzy{i:Nat}:∀(l:List (Nat×LV)),(∀q∈l,q.1≠i)->Cu l i=.any:=by
  intro l
  induction l with
  |nil=>intro _;rfl
  | cons p l ih=>
    intro h
    obtain⟨j,x⟩:=p
    have:j≠i:=h _ Fbj
    simp only[Cu,yv (Ne.symm this),cond_false]
    exact ih λq hq=>h q (Fa3 _ hq)
theorem zvz{w:World}{T:Nat->Nat->Prop}{β:Nat->Nat}{gh:List (Nat×AV)}{tmps:Array Value}(hg:∀p∈gh,VRel w T p.2 (tmps.getD p.1 undef)):
    ∀ (ps:List Tmp) (args:List AV) (vs:List Value) (t:Array Value),(∀q∈gh,q.1∉ps)->ps.Nodup->(∀p∈ps,p<t.size)->Reads w T args vs->args.length=ps.length->(∀i,i∉ps->LRel w T β (Cu (gh.map λp=>(p.1,LV.av p.2)) i) (t.getD i undef))->
      ∀i,LRel w T β (Cu (ps.zip (args.map LV.av)++gh.map λp=>(p.1,LV.av p.2)) i) (((ps.zip vs).foldl (λt p=>t.setIfInBounds p.1 p.2) t).getD i undef):=by
  intro ps
  induction ps with
  |nil=>intro args vs t _ _ _ _ _ h i;exact h i (by simp)
  | cons p ps ih=>
    intro args vs t hdis hnd hlt hr hl h i
    obtain⟨hl1,hr1⟩:=hr
    match args,vs,hl1,hl with
    | x::args,v::vs,hl1,hl=>
      have hp:=(Fdw.1 hnd).1
      rw[List.zip_cons_cons,Fcq,Fb6,List.zip_cons_cons,List.cons_append]
      simp only[Cu]
      by_cases hi:i=p
      · subst hi
        simp only[Fbs,cond_true]
        rw[ycl _ _ λq hq e=>hp (by rw[<-e];exact(List.of_mem_zip (a:=q.1) (b:=q.2) hq).1)]
        have:=hlt i Fbj
        rw[Fav,Fdi this]
        exact hr1 0 x v rfl rfl
      · simp only[yv hi,cond_false]
        refine ih args vs (t.setIfInBounds p v) (λq hq hm=>hdis q hq (Fa3 _ hm)) (Fdw.1 hnd).2 (λq hq=>by rw[Array.size_setIfInBounds];exact hlt q (Fa3 _ hq)) ⟨by simpa using hl1,λj y z hy hz=>hr1 (j+1) y z hy hz⟩ (by simpa using hl) (λj hj=>?_) i
        by_cases hjp:j=p
        · subst hjp
          rw[zzy _ λq hq=>?_]
          · trivial
          · obtain⟨q',hq',rfl⟩:=Fac.1 hq
            intro e
            exact hdis q' hq' (by rw[show q'.1=j from e];exact Fbj)
        · rw[Fav,Fco (Ne.symm hjp),<-Fav]
          exact h j (by simp[hjp,hj])
theorem AYield.of_body{l:Nat}{fn:FuncId}{tmps:Array Value}{ps:Array Tmp}{assign body:Code}{D:Nat}{gh:List (Nat×AV)}{pairs:List (AV×Value)}(hD:c.D0=[])(hpairs:pairs=gh.map λp=>(p.2,tmps.getD p.1 undef))(hsz:tmps.size=c.n)
    (hdis:∀q∈gh,q.1∉ps.toList) (hnd:ps.toList.Nodup) (hlt:∀p∈ps.toList,p<c.n) {S:Store} {args:List AV} {R:Ja}
    (hS:S.obj l=some (.ghost (.loop (js fn tmps ps assign body D .ready)) pairs)) (hl:args.length=ps.size)
    (h:AWp P {c with round:=some l} assign (λe A S1=>e=.normal/\S1.obj l=some (.ghost (.loop (js fn tmps ps assign body D .ready)) pairs)∧
      AWp P {c with round:=some l} body (λe _ S2=>e=.normal/\S2.obj l=some (.ghost (.loop (js fn tmps ps assign body D .busy)) pairs)∧
        R (.s (.bool true)) (S2.sO l (.ghost (.loop (js fn tmps ps assign body D .ready)) pairs))) A (S1.sO l (.ghost (.loop (js fn tmps ps assign body D .busy)) pairs))) (Iv ps.toList args gh) S):AYield P l args S R:=by
  refine⟨λOth M w vs sto hr=>?_⟩
  obtain⟨⟨⟨hw,hc⟩,hg⟩,hM⟩:=sto.obj l _ hS
  have hvs:vs.size=ps.size:=by
    have:=hr.1
    rw[hl]at this
    simpa using this.symm
  refine⟨_,_,_,_,run_yield hw hvs,roundIn_of_wpIn trivial ?_⟩
  have hzip:(ps.zip vs).foldl (λt (p,v)=>t.setIfInBounds p v) tmps=(ps.toList.zip vs.toList).foldl (λt p=>t.setIfInBounds p.1 p.2) tmps:=by
    rw[<-Array.foldl_toList,Array.toList_zip]
  have sim:SimB c.N Oth (λ_=>0) (Iv ps.toList args gh) S M {tmps:=(ps.zip vs).foldl (λt (p,v)=>t.setIfInBounds p v) tmps,defers:=[]} w:=
    { tsz:=by
        show Array.size _=_
        rw[hzip,yck];exact hsz
      dfr:=MarksD.nil hD
      tm:=λi=>by
        show LRel w _ _ (Cu _ i) (Array.getD _ i undef)
        rw[hzip]
        have hgv:∀p∈gh,VRel w (λb o=>M b o\/Oth b o) p.2 (tmps.getD p.1 undef):=λp hp=>hg (p.2,tmps.getD p.1 undef) (by rw[hpairs];exact Fac.2 ⟨p,hp,rfl⟩)
        refine zvz hgv ps.toList args vs.toList tmps hdis hnd (λp hp=>by rw[hsz];exact hlt p hp) hr (by simpa using hl) (λj _=>?_) i
        clear hg hpairs h hdis
        induction gh with
        |nil=>trivial
        | cons p gh ih=>
          rw[Fb6]
          simp only[Cu]
          by_cases hj:j=p.1
          · subst hj
            simp only[Fbs,cond_true]
            exact hgv p Fbj
          · simp only[yv hj,cond_false]
            exact ih λq hq=>hgv q (Fa3 _ hq)
      bx:=λk l hk=>by simp[Iv,Bz,Cv]at hk
      inj:=λk k' hk=>by simp[Iv,Bz,Cv]at hk
      sep:=λk b hk=>by simp[Iv,Bz,Cv]at hk
      sto:=sto}
  refine Code.wpF_mono ?_ (h.out Oth M _ w ⟨_,sim⟩)
  rintro e a1 w1 ⟨A1,S1,M1,⟨rfl,hS1,hbody⟩,⟨β1,sim1⟩,hc1⟩
  obtain⟨⟨⟨hw1,_⟩,_⟩,hM1⟩:=sim1.sto.obj l _ hS1
  refine⟨_,run_beginRound hw1 rfl,?_⟩
  have sim2:=sim1.putGhost (o':=.loop (js fn tmps ps assign body D .busy)) hS1 rfl
  have hc2:=ba (o':=.loop (js fn tmps ps assign body D .busy)) hw1 rfl hM1
  refine Code.wpF_mono ?_ (hbody.out Oth M1 _ _ ⟨β1,sim2⟩)
  rintro e a3 w3 ⟨A3,S3,M3,⟨rfl,hS3,hR⟩,⟨β3,sim3⟩,hc3⟩
  obtain⟨⟨⟨hw3,_⟩,_⟩,hM3⟩:=sim3.sto.obj l _ hS3
  have sim4:=sim3.putGhost (o':=.loop (js fn tmps ps assign body D .ready)) hS3 rfl
  have hc4:=ba (o':=.loop (js fn tmps ps assign body D .ready)) hw3 rfl hM3
  exact⟨_,_,run_endRound none hw3,_,rfl,.s (.bool true),_,M3,hR,.s _,sim4.sto,hc1.trans (hc2.trans (hc3.trans hc4))⟩
theorem AWp.rangeFunc(hro:c.round=none){g:Operand}{ps:Array Tmp}{assign body:Code}{Q:Exit->Fr->Store->Prop}{A:Fr}{st:Store}{gf:FuncId}{gfn:Func}{gcode:Code}{cap:List AV}(hg:A.ev g=.av (.clos gf cap))
    (hf : P.funcs[gf]? = some gfn) (hb : gfn.body = some gcode) (hname : (gfn.name == "runtime.NumGoroutine") = false)
    (gh:List (Nat×AV)) (hgh:∀p∈gh,A.t p.1=.av p.2) (hdis:∀q∈gh,q.1∉ps.toList) (hnd:ps.toList.Nodup) (hlt:∀p∈ps.toList,p<c.n)
    (h:∀(l:Nat) (X Y:AObj),Fresh st l->
      (∀(S:Store) (args:List AV) (R:Ja),S.obj l=some X->args.length=ps.size->
        AWp P {c with round:=some l} assign (λe A S1=>e=.normal/\S1.obj l=some X/\AWp P {c with round:=some l} body (λe _ S2=>e=.normal/\S2.obj l=some Y/\R (.s (.bool true)) (S2.sO l X)) A (S1.sO l Y)) (Iv ps.toList args gh) S->AYield P l args S R)->
      ACalls P gf (.s (.func (.yield l) #[] #[])::cap) (st.sO l X) λ_ S'=>S'.obj l=some X/\Q .normal A (S'.dO l)) (hD:c.D0=[]:=by rfl) (hnm:c.nm=false:=by rfl):
    AWp P c (.rangeFunc g ps assign body) Q A st:=by
  refine⟨λOth M a w ⟨β,sim⟩=>?_⟩
  refine wpIn_rangeFunc λfn _=>?_
  obtain⟨capv,hcv,hcr⟩:=VRel.clos_inv (yz sim.env hg)
  have eg:∀args w,(callFunc gf args).run P w=.ok (.enter gf args) w:=λargs w=>by
    have hne : ¬ gfn.name = "runtime.NumGoroutine" := by simpa using hname
    simp[callFunc,run_program,hf,hne,hb]
  have hF:c.F.round=none:=hro
  rw[hF]
  have sim1:=sim.grow (Grow.alloc w (.deferred (some [])))
  have hl:(w.alloc (.deferred (some []))).heap.size=w.heap.size+1:=by simp
  have hfr:Fresh st (w.heap.size+1):=sim.sto.fresh (by omega)
  have sim2:=sim1.newObj (.loop (js fn a.tmps ps assign body w.heap.size .ready)) (.ghost (.loop (js fn a.tmps ps assign body w.heap.size .ready)) (gh.map λp=>(p.2,a.tmps.getD p.1 undef)))
    ⟨⟨Gi _ _,rfl⟩,λp hp=>by
      obtain⟨q,hq,rfl⟩:=Fac.1 hp
      have h1:=sim1.tm q.1
      rw[hgh q hq]at h1
      exact VRel.keep (Ff _ _ M Oth) h1⟩
  rw[hl]at sim2
  have hcall:=h (w.heap.size+1) _ (.ghost (.loop (js fn a.tmps ps assign body w.heap.size .busy)) (gh.map λp=>(p.2,a.tmps.getD p.1 undef))) hfr
    (λS args R hS hl h=>AYield.of_body hD rfl sim.tsz hdis hnd hlt hS hl h)
  have hb1:(w.alloc (.deferred (some []))).heap[w.heap.size]?=some (.deferred (some [])):=Gi _ _
  have hc1:Chg M w (jm M (w.heap.size+1)) ((w.alloc (.deferred (some []))).alloc (.loop (js fn a.tmps ps assign body w.heap.size .ready))):=by
    have h1:=(Grow.alloc w (.deferred (some []))).chg M
    have h2:=Gp (w.alloc (.deferred (some []))) (.loop (js fn a.tmps ps assign body w.heap.size .ready)) M
    rw[hl]at h2
    exact h1.trans h2
  have hbD:((w.alloc (.deferred (some []))).alloc (.loop (js fn a.tmps ps assign body w.heap.size .ready))).heap[w.heap.size]?=some (.deferred (some [])):=by
    rw[Cb _ _ _ (by omega)];exact hb1
  have hkeep:∀x y,VRel w (λb o=>M b o\/Oth b o) x y->VRel ((w.alloc (.deferred (some []))).alloc (.loop (js fn a.tmps ps assign body w.heap.size .ready))) (λb o=>jm M (w.heap.size+1) b o\/Oth b o) x y:=λx y h=>h.keep hc1.keeps
  have hent:=run_enterLoop_outer (P:=P) (w:=w) fn a.tmps ps assign body
  rw[show({state:=.ready,pending:=none,fn,tmps:=a.tmps,params:=ps,assign,body,defers:=w.heap.size}:Loop)=js fn a.tmps ps assign body w.heap.size .ready from rfl]at hent
  generalize hW:(w.alloc (.deferred (some []))).alloc (.loop (js fn a.tmps ps assign body w.heap.size .ready))=W1 at*
  have hrd:Reads W1 (λb o=>jm M (w.heap.size+1) b o\/Oth b o) (.s (.func (.yield (w.heap.size+1)) #[] #[])::cap) (#[Value.func (.yield (w.heap.size+1)) #[] #[]]++capv).toList:=by
    rw[Fbb]
    exact Reads.cons (.s _) ⟨hcr.1,λi x y hx hy=>hkeep _ _ (hcr.2 i x y hx hy)⟩
  have hc:=sim2.call hcall hrd
  rw[eg]at hc
  refine⟨w.heap.size+1,[{target:=.collected w.heap.size,args:=#[]}],W1,{target:=.fn (.func gf) capv,args:=#[.func (.yield (w.heap.size+1)) #[] #[]]},W1,gf,#[Value.func (.yield (w.heap.size+1)) #[] #[]]++capv,W1,hent,?_,λ_ _=>Tv,?_,λh=>(by cases h),ti (Calls.mono hc ?_)⟩
  · simp only[resolve,hcv]
    simp[Deferred.ofValue,Act.eval]
  · simp[invoke,eg]
  · rintro e w3 ⟨v,rfl,r,st',M',⟨hS,hQ⟩,hv,sim3,hc3⟩
    obtain⟨⟨⟨hw3,_⟩,_⟩,hM3⟩:=sim3.sto.obj _ _ hS
    have sim4:=(sim3.putGhost (o':=.loop {js fn a.tmps ps assign body w.heap.size .ready with state:=.exhausted}) hS rfl).drop (w.heap.size+1)
    have hc4:=ba (o':=.loop {js fn a.tmps ps assign body w.heap.size .ready with state:=.exhausted}) hw3 rfl hM3
    refine⟨none,_,run_endLoop hw3 (by simp[js]),A,st'.dO (w.heap.size+1),M',hQ,⟨β,?_⟩,hc1.trans (hc3.trans hc4)⟩
    have hst:((st'.sO (w.heap.size+1) (.ghost (.loop {js fn a.tmps ps assign body w.heap.size .ready with state:=.exhausted}) (gh.map λp=>(p.2,a.tmps.getD p.1 undef)))).dO (w.heap.size+1))=st'.dO (w.heap.size+1):=by
      unfold Store.sO Store.dO
      congr 1
      funext i
      dsimp only
      cases Nat.beq i (w.heap.size+1)<;>rfl
    rw[hst]at sim4
    have hDlt:w.heap.size<W1.heap.size:=j4 hbD
    have hnM:∀o,¬jm M (w.heap.size+1) w.heap.size o:=λo hm=>by
      rcases hm with hm|hm
      · have:=sim.sto.mlt _ _ hm;omega
      · omega
    refine{tsz:=sim4.tsz,dfr:=MarksD.of ⟨?_,?_⟩ hD hnm,tm:=sim4.tm,bx:=sim4.bx,inj:=sim4.inj,sep:=sim4.sep,sto:=sim4.sto}
    · show List.Pairwise _ ({target:=Target.collected w.heap.size,args:=#[]}::a.defers)
      refine Fc4.2 ⟨λd hd=>?_,(sim4.dfr.out hD).nd⟩
      obtain⟨D,rfl,h1,_⟩:=(sim.dfr.out hD).all d hd
      have:=j4 h1
      intro e
      simp only[Target.collected.injEq]at e
      omega
    · intro d hd
      rcases Fat.1 hd with rfl|hd
      · refine⟨w.heap.size,rfl,?_,λo=>⟨λhm=>hnM o (hc3.sub _ o hm hDlt),λhO=>?_⟩⟩
        · rw[World.putObj_heap_other (by omega),hc3.blk _ hDlt hnM]
          exact hbD
        · have:=sim.sto.olt _ _ hO;omega
      · exact(sim4.dfr.out hD).all d hd
end
end Go.V
namespace Go.Proofs
open Go Go.V
section
variable {k room cnt:Int}
theorem lg{α:Type}(k:Int)(v:α):∀cs:List (Int×α),(yh cs k v).map (·.1)=if k∈cs.map (·.1)then cs.map (·.1)else cs.map (·.1)++[k]
 |[]=>by simp[yh]
 |e::l=>by
  have ih:=lg k v l
  by_cases h:k=e.1
  ·have h1:(k==e.1)=true:=by simpa using h
   rw[show yh (e::l) k v=(k,v)::l by rw[yh];simp[h1]]
   simp[h]
  ·have h1:(k==e.1)=false:=by simpa using h
   rw[show yh (e::l) k v=e::yh l k v by rw[yh];simp[h1]]
   rw[Fb6,ih,Fb6]
   by_cases h2:k∈l.map (·.1)
   ·rw[if_pos h2,if_pos (Fa3 _ h2)]
   ·rw[if_neg h2,if_neg (λhh=>(Fat.1 hh).elim h h2)]
    rfl
theorem Oa{α:Type}{cs:List (Int×α)}(h:(cs.map (·.1)).Nodup)(k:Int)(v:α):((yh cs k v).map (·.1)).Nodup:=by
 rw[lg]
 by_cases h2:k∈cs.map (·.1)
 ·rw[if_pos h2];exact h
 ·rw[if_neg h2,Fc8]
  refine⟨h,by simp,λa ha b hb e=>?_⟩
  rw[Fcb]at hb
  subst hb
  subst e
  exact h2 ha
theorem yca{α:Type}{cs:List (Int×α)}{v:α}(h:yl cs k=some v):k∈cs.map (·.1):=by
 unfold yl at h
 cases hf:cs.find? λe=>k==e.1 with
 |none=>rw[hf]at h;cases h
 |some e=>
  have h1:=Feg hf
  have h2:=Fc6 hf
  have h3:k=e.1:=by simpa using h1
  rw[h3]
  exact Fac.2 ⟨e,h2,rfl⟩
theorem yb9{α:Type}{cs:List (Int×α)}(h:k∉cs.map (·.1)):yl cs k=none:=by
 cases hg:yl cs k with
 |none=>rfl
 |some v=>exact absurd (yca hg) h
theorem Wc{α:Type}(e:Int×α)(l:List (Int×α))(j:Int):yl (e::l) j=if j=e.1 then some e.2 else yl l j:=by
 unfold yl
 rw[Fdf]
 by_cases h:j=e.1
 ·have h1:(j==e.1)=true:=by simpa using h
  rw[h1,if_pos h]
  rfl
 ·have h1:(j==e.1)=false:=by simpa using h
  rw[h1,if_neg h]
theorem Wb{α:Type}(q j:Int):∀cs:List (Int×α),(cs.map (·.1)).Nodup->yl (cs.eraseP λe=>q==e.1) j=if j=q then none else yl cs j
 |[],_=>by
  show(none:Option α)=_
  split<;>rfl
 |e::l,h=>by
  rw[Fb6,Fdw]at h
  have ih:=Wb q j l h.2
  rw[List.eraseP_cons]
  by_cases h1:q=e.1
  ·have h2:(q==e.1)=true:=by simpa using h1
   rw[h2,cond_true,Wc]
   by_cases h3:j=q
   ·rw[if_pos h3]
    exact yb9 (by rw[h3,h1];exact h.1)
   ·rw[if_neg h3,if_neg (by omega)]
  ·have h2:(q==e.1)=false:=by simpa using h1
   rw[h2,cond_false,Wc,Wc,ih]
   by_cases h3:j=q
   ·rw[if_pos h3,if_pos h3,if_neg (by omega)]
   ·rw[if_neg h3,if_neg h3]
theorem ydf{α:Type}(q:Int):∀cs:List (Int×α),(cs.map (·.1)).Nodup->((cs.eraseP λe=>q==e.1).map (·.1)).Nodup:=λcs h=>
 List.Nodup.sublist (List.Sublist.map _ (List.eraseP_sublist)) h
structure CI(W:Int->Nat->Prop)(room:Int)(cs:List (Int×Int))(ks:List Int)(ws:List (Int×Nat))(cnt:Int):Prop where
 nd:ks.Nodup
 len:(ks.length:Int)<=room
 cnd:(cs.map (·.1)).Nodup
 ok:∀key v,yl cs key=some v->key∈ks/\v<=cnt/\∃b,yl ws v=some b/\W key b
theorem CI.nil(W:Int->Nat->Prop)(h:0<=room)(cnt:Int):CI W room [] [] [] cnt:=⟨by simp,by simpa using h,by simp,λkey v hv=>by cases hv⟩
theorem Vp{ks:List Int}(h:ks.Nodup)(key j:Int):j∈key::ks.erase key↔j=key\/j∈ks:=by
 rw[Fat,h.mem_erase_iff]
 constructor
 ·rintro(h1|h1)
  ·exact .inl h1
  ·exact .inr h1.2
 ·rintro(h1|h1)
  ·exact .inl h1
  ·by_cases e:j=key
   ·exact .inl e
   ·exact .inr ⟨e,h1⟩
theorem Rr{ks:List Int}(h:ks.Nodup)(key:Int):(key::ks.erase key).Nodup:=by
 rw[Fdw]
 exact⟨λhh=>(h.mem_erase_iff.1 hh).1 rfl,h.erase key⟩
theorem CI.hit{W:Int->Nat->Prop}{cs:List (Int×Int)}{ks:List Int}{ws:List (Int×Nat)}(h:CI W room cs ks ws cnt){key v:Int}(hk:yl cs key=some v):CI W room cs (key::ks.erase key) ws cnt:=by
 have hm:=(h.ok key v hk).1
 refine⟨Rr h.nd key,?_,h.cnd,λk2 v2 h2=>?_⟩
 ·rw[Fbi,List.length_erase_of_mem hm]
  have:=List.length_pos_of_mem hm
  have:=h.len
  omega
 ·obtain⟨a,b⟩:=h.ok k2 v2 h2
  exact⟨(Vp h.nd key k2).2 (.inr a),b⟩
theorem CI.fresh{W:Int->Nat->Prop}{cs:List (Int×Int)}{ks:List Int}{ws:List (Int×Nat)}(h:CI W room cs ks ws cnt)(key:Int)(nb:Nat)(k2 v2:Int)(h2:yl (yh cs key (cnt+1)) k2=some v2):
  k2∈key::ks.erase key/\v2<=cnt+1/\∃b,yl (yh ws (cnt+1) nb) v2=some b/\(if k2=key then b=nb else W k2 b):=by
 rw[Ax]at h2
 by_cases e:k2=key
 ·rw[if_pos e]at h2
  cases h2
  refine⟨(Vp h.nd key k2).2 (.inl e),Fcx _,nb,?_,?_⟩
  ·rw[Ax,if_pos rfl]
  ·rw[if_pos e]
 ·rw[if_neg e]at h2
  obtain⟨a,b,c,d,f⟩:=h.ok k2 v2 h2
  refine⟨(Vp h.nd key k2).2 (.inr a),by omega,c,?_,?_⟩
  ·rw[Ax,if_neg (by omega)];exact d
  ·rw[if_neg e];exact f
theorem CI.put1{W:Int->Nat->Prop}{cs:List (Int×Int)}{ks:List Int}{ws:List (Int×Nat)}(h:CI W room cs ks ws cnt)(key:Int)(nb:Nat)(hl:((key::ks.erase key).length:Int)<=room):
  CI (λk b=>if k=key then b=nb else W k b) room (yh cs key (cnt+1)) (key::ks.erase key) (yh ws (cnt+1) nb) (cnt+1):=
 ⟨Rr h.nd key,hl,Oa h.cnd _ _,h.fresh key nb⟩
theorem CI.put2{W:Int->Nat->Prop}{cs:List (Int×Int)}{ks:List Int}{ws:List (Int×Nat)}(h:CI W room cs ks ws cnt)(hr:1<=room)(key:Int)(nb:Nat)(hl:room<((key::ks.erase key).length:Int)):
  CI (λk b=>if k=key then b=nb else W k b) room ((yh cs key (cnt+1)).eraseP λe=>(key::ks.erase key).getLastD 0==e.1) (key::ks.erase key).dropLast (yh ws (cnt+1) nb) (cnt+1)∧
   (key::ks.erase key).getLastD 0≠key:=by
 have hnd:=Rr h.nd key
 have hf:=h.fresh key nb
 have hln:(ks.erase key).length<=ks.length:=by
  rw[List.length_erase]
  split<;>omega
 have hlen:=h.len
 have hne2:ks.erase key≠[]:=λe=>by
  rw[e]at hl
  simp at hl
  omega
 have hlast:(key::ks.erase key).getLastD 0=(ks.erase key).getLast hne2:=by
  rw[Fem,List.getLast?_eq_some_getLast (by simp),List.getLast_cons hne2]
  rfl
 have hlm:(ks.erase key).getLast hne2∈ks.erase key:=List.getLast_mem hne2
 have hlk:(ks.erase key).getLast hne2≠key:=λe=>(h.nd.mem_erase_iff.1 (e▸hlm)).1 rfl
 rw[hlast]
 refine⟨⟨?_,?_,ydf _ _ (Oa h.cnd _ _),λk2 v2 h2=>?_⟩,hlk⟩
 ·exact hnd.sublist (List.dropLast_sublist _)
 ·rw[List.length_dropLast,Fbi]
  omega
 ·rw[Wb _ _ _ (Oa h.cnd _ _)]at h2
  by_cases e:k2=(ks.erase key).getLast hne2
  ·rw[if_pos e]at h2;cases h2
  ·rw[if_neg e]at h2
   obtain⟨a,b⟩:=hf k2 v2 h2
   refine⟨?_,b⟩
   have hsp:key::ks.erase key=(key::ks.erase key).dropLast++[(ks.erase key).getLast hne2]:=by
    have:=Fed (l:=key::ks.erase key) (by simp)
    rw[List.getLast_cons hne2]at this
    exact this.symm
   rw[hsp,Fal,Fcb]at a
   exact a.elim id λq=>absurd q e
theorem CI.ways{W W':Int->Nat->Prop}{cs:List (Int×Int)}{ks:List Int}{ws ws':List (Int×Nat)}(h:CI W room cs ks ws cnt)(hw:∀key v b,yl cs key=some v->yl ws v=some b->W key b->yl ws' v=some b/\W' key b):CI W' room cs ks ws' cnt:=by
 refine⟨h.nd,h.len,h.cnd,λkey v hv=>?_⟩
 obtain⟨a,b,c,d,e⟩:=h.ok key v hv
 exact⟨a,b,c,hw key v c hv d e⟩
end
end Go.Proofs
namespace Go.V
section
variable {P:Program} {c:Cfg} {st:Store}
theorem ygk{e:TypeId}{ie:TI}(hie:c.I e=some ie){x:AV}{m:Nat}{xs:List AV}(hx:SrcOK P st ie.size m x xs)(hroom:room m ie.bytes){K:Ja}
  (h1:m=0->∀a,Il a->K (.s (.slice a 0 0)) st)
  (h2:0<m->∀b' cap',Fresh st b'->m<=cap'->cap'<=9223372036854775807->K (.s (.slice (some ⟨b',0,none⟩) m cap')) (st.sO b' (.cells (xs++List.replicate ((cap'-m)*ie.size) .any)))):
  AppX P c st e .emp x K:=by
 refine⟨⟨ie,hie⟩,λie' hie' Oth M w sv xv argTypes ty args t sto hs hxv hat ht1 hu hti h0 h1'=>?_⟩
 cases hs with
 |emp a ha=>
  by_cases hr:0<m
  ·exact(ygj hie hx hroom hr (h2 hr)).out ie' hie' Oth M w _ xv argTypes ty args t sto (.s _) hxv hat ht1 hu hti h0 h1'
  ·rw[hie]at hie'
   cases hie'
   have hr0:m=0:=by omega
   subst hr0
   have A:AppArgs P c argTypes args t e ie a 0 0 xv:=⟨hat,ht1,hu,hti,h0,h1'⟩
   obtain⟨hl1,new,hnew,hone,hnsz,hfc⟩:=hx.out Oth M w xv sto hxv
   have hn0:new.toList=[]:=by
    have:new.toList.length=0:=by rw[Fb4,hnsz];simp
    exact Fa0 this
   have hrun:=Kv (w':=w) ty A hl1 (hfc w rfl) (by simp) (λb hb=>by rw[hn0];simp[storeCells]) (λ_=>rfl)
   exact⟨_,_,hrun,_,_,M,h1 rfl a ha,.s _,sto,Chg.refl M w⟩
end
def Store.objs(S:Store):Store:=⟨S.obj,λ_=>none⟩
theorem Store.Has.objs(S:Store):S.Has S.objs:=⟨λ_ _ h=>h,λ_ _ h=>by cases h⟩
def Store.less(S E:Store):Store:=⟨λi=>match E.obj i,E.tok i with|none,none=>S.obj i|_,_=>none,λi=>match E.obj i,E.tok i with|none,none=>S.tok i|_,_=>none⟩
variable {P:Program} {c:Cfg} {st:Store}
theorem yhb{o:Oper}{cl:Call}{t kt e:TypeId}{x:Operand}(ho:o.op=.call cl)(hcl:cl.callee=.builtin .clear)(hargs:cl.args=#[x])(hat:cl.argTypes[0]?=some t)
    {it:TI} (hit:c.I t=some it) (hty:it.ty=.map kt e)
    {m clk:Nat} {es:List (AV×AV)} {bs:List Nat} (hm:st.obj m=some (.map es bs clk))
    {R:Ja} (h:R (.tup []) (st.sO m (.map [] [] clk))):AEff P c o [.s (.map (some m))] st R:=by
  refine⟨λOth M w ρ hI sto hr=>?_⟩
  have hops:o.op.operands=#[x]:=by rw[ho];simp[Op.operands,Call.operands,hcl,hargs]
  rw[hops]at hr
  have hr:Reads w (λb o=>M b o\/Oth b o) [.s (.map (some m))] [ρ x]:=by simpa using hr
  have h1:=VRel.eq_s (hr.2 0 _ (ρ x) rfl rfl)
  obtain⟨⟨ms,g1,g2,g3,g4,g5,g6⟩,hM⟩:=sto.obj m _ hm
  have hund:=yf (P:=P) (G5 (hI _ _ hit) hty)
  have hexec:(execOp ρ o).run P w=((Builtin.clear_ cl.argTypes o.type #[ρ x]).run P w).andThen λv w'=>.ok (.value v) w':=by
    simp[execOp,ho,resolve,hcl,invoke,builtin,hargs]
  have hrun:(execOp ρ o).run P w=.ok (.value (.tuple #[])) {w with heap:=w.heap.setIfInBounds m (.map #[] clk)}:=by
    rw[hexec]
    simp[Builtin.clear_,hat,hund,h1,Bf g1,Lc _ g1]
  have hok:StoreOK (st.sO m (.map [] [] clk)) Oth M {w with heap:=w.heap.setIfInBounds m (.map #[] clk)}/\Chg M w M {w with heap:=w.heap.setIfInBounds m (.map #[] clk)}:=by
    refine Ih sto hm g1 trivial trivial ?_
    exact⟨_,Ht _ g1,rfl,λi x' y' hx hy=>by simp at hx,rfl,λt ht=>by simp at ht,List.Pairwise.nil⟩
  rw[hrun]
  exact⟨_,_,M,h,j8 Reads.nil,hok.1,hok.2⟩
section
variable {P:Program} {f:FuncId} {fn:Func} {st:Store} {R:Ja}
abbrev ptrA(b o:Nat):AV:=.s (.pointer (some ⟨b,o,none⟩))
theorem Ln{Oth M:Nat->Nat->Prop}{w:World}(sto:StoreOK st Oth M w){b o:Nat}{l:List AV}(hb:st.obj b=some (.cells l)){v:Value}(hl:l[o]?=some (.s v)):w.cell? ⟨b,o,none⟩=some v/\w.frozen? ⟨b,o,none⟩=false:=by
  obtain⟨⟨cs,e0,fr,hb0,huf,hlen,hrel⟩,hM⟩:=sto.obj b _ hb
  have hlt:o<cs.size:=by
    have:=(Faf.1 hl).1
    omega
  have h4:=hrel o _ cs[o] hl (by simp[hlt])
  have h5:=VRel.eq_s h4
  refine⟨?_,?_⟩
  · simp only[World.cell?,hb0]
    simp[hlt,h5]
  · unfold World.frozen?
    simp only[hb0]
    simp
    omega
theorem Rk{w:World}{b o:Nat}{v u:Value}(hc:w.cell? ⟨b,o,none⟩=some u):Wrote w b o [v] (w.setCell ⟨b,o,none⟩ v):=by
  unfold World.cell? at hc
  split at hc
  · rename_i c e fr hb
    split at hc
    · cases hc
    · have:=(Fbl.1 hc).1
      have h:=H6 [v] o w c e fr hb (by show o+1<=c.size;exact this)
      simpa [World.setCells]using h
  · cases hc
theorem yhe (hf : P.funcs[f]? = some fn) (hname : (fn.name == "runtime.NumGoroutine") = false) (hb : fn.body.isNone = true) (hn : Extern.findNext fn = none) (k : IntKind)
    (he:Extern.find fn=some (Extern.Atomic.loadT (.int k))) {b o:Nat} {l:List AV} {x:Int} (hob:st.obj b=some (.cells l)) (hl:l[o]?=some (.s (.int k x))) (h:R (.s (.int k x)) st):ACalls P f [ptrA b o] st R:=by
  refine ACalls.of_value λOth M w vs sto hr=>?_
  obtain⟨h1,h2⟩:=Ln sto hob hl
  have hvs:vs=#[.pointer (some ⟨b,o,none⟩)]:=by
    have hsz:=hr.1
    obtain⟨vs⟩:=vs
    match vs,hsz with
    |[u],_=>rw[VRel.eq_s (hr.2 0 _ u rfl rfl)]
  subst hvs
  exact⟨_,w,run_call_load hf hname hb hn k he h1,_,st,M,h,.s _,sto,Chg.refl _ _⟩
theorem uq{w:World}{T:Nat->Nat->Prop}{a b:Value}{vs:Array Value}(hr:Reads w T [.s a,.s b] vs.toList):vs=#[a,b]:=by
  have hsz:=hr.1
  obtain⟨vs⟩:=vs
  match vs,hsz with
  |[u,v],_=>rw[VRel.eq_s (hr.2 0 _ u rfl rfl),VRel.eq_s (hr.2 1 _ v rfl rfl)]
theorem yhd (hf : P.funcs[f]? = some fn) (hname : (fn.name == "runtime.NumGoroutine") = false) (hb : fn.body.isNone = true) (hn : Extern.findNext fn = none)
    (he:Extern.find fn=some Extern.Atomic.storeT) {b o:Nat} {l:List AV} {u:Value} {k:IntKind} {y:Int} (hob:st.obj b=some (.cells l)) (hl:l[o]?=some (.s u)) (h:R (.tup []) (st.sO b (.cells (zu l o [.s (.int k y)])))):
    ACalls P f [ptrA b o,.s (.int k y)] st R:=by
  refine ACalls.of_value λOth M w vs sto hr=>?_
  obtain⟨h1,h2⟩:=Ln sto hob hl
  have hvs:=uq hr
  subst hvs
  obtain⟨h3,h4⟩:=Ai sto hob (Reads.cons (.s (.int k y)) Reads.nil) (Rk h1)
  exact⟨_,_,run_call_store hf hname hb hn he h1 h2,_,_,M,h,j8 Reads.nil,h3,h4⟩
theorem zah (hf : P.funcs[f]? = some fn) (hname : (fn.name == "runtime.NumGoroutine") = false) (hb : fn.body.isNone = true) (hn : Extern.findNext fn = none) (k : IntKind)
    (he:Extern.find fn=some (Extern.Atomic.update (Op.intArith .add) k true)) {b o:Nat} {l:List AV} {x y s:Int} (hob:st.obj b=some (.cells l)) (hl:l[o]?=some (.s (.int k x)))
    (hs:∀w,(Op.intArith .add k x y).run P w=.ok (.int k s) w) (h:R (.s (.int k s)) (st.sO b (.cells (zu l o [.s (.int k s)])))):
    ACalls P f [ptrA b o,.s (.int k y)] st R:=by
  refine ACalls.of_value λOth M w vs sto hr=>?_
  obtain⟨h1,h2⟩:=Ln sto hob hl
  have hvs:=uq hr
  subst hvs
  obtain⟨h3,h4⟩:=Ai sto hob (Reads.cons (.s (.int k s)) Reads.nil) (Rk h1)
  exact⟨_,_,run_call_add hf hname hb hn k he h1 h2 (hs w),_,_,M,h,.s _,h3,h4⟩
theorem yhf (hf : P.funcs[f]? = some fn) (hname : (fn.name == "runtime.NumGoroutine") = false) (hb : fn.body.isNone = true) (hn : Extern.findNext fn = none) (k : IntKind)
    (he:Extern.find fn=some (Extern.Atomic.casT (.int k))) {b o:Nat} {l:List AV} {x y:Int} (hob:st.obj b=some (.cells l)) (hl:l[o]?=some (.s (.int k x)))
    (h:R (.s (.bool true)) (st.sO b (.cells (zu l o [.s (.int k y)])))):
    ACalls P f [ptrA b o,.s (.int k x),.s (.int k y)] st R:=by
  refine ACalls.of_value λOth M w vs sto hr=>?_
  obtain⟨h1,h2⟩:=Ln sto hob hl
  have hvs:vs=#[.pointer (some ⟨b,o,none⟩),.int k x,.int k y]:=by
    have hsz:=hr.1
    obtain⟨vs⟩:=vs
    match vs,hsz with
    |[u,v,t],_=>rw[VRel.eq_s (hr.2 0 _ u rfl rfl),VRel.eq_s (hr.2 1 _ v rfl rfl),VRel.eq_s (hr.2 2 _ t rfl rfl)]
  subst hvs
  obtain⟨h3,h4⟩:=Ai sto hob (Reads.cons (.s (.int k y)) Reads.nil) (Rk h1)
  exact⟨_,_,run_call_cas_hit hf hname hb hn k he h1 h2,_,_,M,h,.s _,h3,h4⟩
theorem Rh (hf : P.funcs[f]? = some fn) (hname : (fn.name == "runtime.NumGoroutine") = false) (hb : fn.body.isNone = true) (hn : Extern.findNext fn = none) (m : Mark)
    (he:Extern.find fn=some (λ_=>do mark m;pure Extern.Race.none_)) (h:R (.tup []) st):ACalls P f [] st R:=by
  refine ACalls.of_value λOth M w vs sto hr=>?_
  have hvs:vs=#[]:=by
    have:=hr.1
    simp at this
    exact Fdb this.symm
  subst hvs
  exact⟨_,w,run_call_mark0 hf hname hb hn m he w,_,st,M,h,j8 Reads.nil,sto,Chg.refl _ _⟩
theorem zaf (hf : P.funcs[f]? = some fn) (hname : (fn.name == "runtime.NumGoroutine") = false) (hb : fn.body.isNone = true) (hn : Extern.findNext fn = none) (m : Addr -> Mark)
    (he:Extern.find fn=some (Extern.Race.marked m)) {b o:Nat} (h:R (.tup []) st):ACalls P f [ptrA b o] st R:=by
  refine ACalls.of_value λOth M w vs sto hr=>?_
  have hvs:vs=#[.pointer (some ⟨b,o,none⟩)]:=by
    have hsz:=hr.1
    obtain⟨vs⟩:=vs
    match vs,hsz with
    |[u],_=>rw[VRel.eq_s (hr.2 0 _ u rfl rfl)]
  subst hvs
  exact⟨_,w,run_call_marked hf hname hb hn m he ⟨b,o,none⟩ w,_,st,M,h,j8 Reads.nil,sto,Chg.refl _ _⟩
end
section
variable {P:Program} {c:Cfg} {st:Store}
def dr(P:Program)(s t:TypeId):Bool:=match P.underlying s,P.underlying t with
  | some (.pointer e),some .unsafePointer=>match P.info? e with
    |some i=> !(i.size==0)
    |none=>false
  |_,_=>false
theorem zaa{o:Oper}{s t:TypeId}{x:Operand}(ho:o.op=.convert s t x)(hok:dr P s t=true)
    {b off:Nat} {l:List AV} {v:Value} (hb:st.obj b=some (.cells l)) (hl:l[off]?=some (.s v)) {R:Ja} (h:R (ptrA b off) st):
    AEff P c o [ptrA b off] st R:=by
  obtain⟨e,hs,hd,hsz⟩:∃e,P.underlying s=some (.pointer e)/\P.underlying t=some .unsafePointer/\(P.info? e).map (λi=>decide (i.size=0))=some false:=by
    unfold dr at hok
    split at hok
    · rename_i e hs hd
      split at hok
      · rename_i i hi
        exact⟨e,hs,hd,by rw[hi];simpa using hok⟩
      · exact Bool.noConfusion hok
    · exact Bool.noConfusion hok
  refine⟨λOth M w ρ hI sto hr=>?_⟩
  have hops:o.op.operands=#[x]:=by rw[ho];simp[Op.operands]
  rw[hops]at hr
  have hr:Reads w (λb o=>M b o\/Oth b o) [ptrA b off] [ρ x]:=by simpa using hr
  have e1:=VRel.eq_s (hr.2 0 _ (ρ x) rfl rfl)
  have hrun:(execOp ρ o).run P w=.ok (.value (.pointer (some ⟨b,off,none⟩))) w:=by
    have h2:=run_convert_to_unsafe hs hd hsz (Ln sto hb hl).1
    simp[execOp,ho,e1,h2]
  rw[hrun]
  exact⟨_,st,M,h,.s _,sto,Chg.refl _ _⟩
end
section
variable {P:Program} {c:Cfg}
structure ADefer(P:Program)(g:FuncId)(args:List AV)(st:Store)(R:Store->Prop):Prop where
  out:∀(Oth M:Nat->Nat->Prop) (w:World) (vs:Array Value) (u:FrameMode),StoreOK st Oth M w->Reads w (λb o=>M b o\/Oth b o) args vs.toList->
    (callFunc g vs).run P w=.ok (.enter g vs) w/\CallsDIn Fence.wide 0 P g vs u w λe u' w'=>u'=u/\∃v,e=.returned v/\∃st' M',R st'/\StoreOK st' Oth M' w'/\Chg M w M' w'
theorem ADefer.of_awp (hI : yp P c.I) {g : FuncId} {fn : Func} {code : Code} {args : List AV} {st : Store} {R : Store -> Prop} (hf : P.funcs[g]? = some fn) (hb : fn.body = some code) (hname : (fn.name == "runtime.NumGoroutine") = false)
    (hn:fn.ntmps=c.n) (hlen:Nat.ble args.length c.n=true) (h:AWp P c code (Sq c fn.results.toList λ_ st'=>R st') (vj args) st) (hround:c.round=none:=by rfl) (hD:c.D0=[]:=by rfl) (hnm:c.nm=true:=by rfl):ADefer P g args st R:=by
  refine⟨λOth M w vs u sto hr=>?_⟩
  have hrun:(callFunc g vs).run P w=.ok (.enter g vs) w:=by
    have hne : ¬ fn.name = "runtime.NumGoroutine" := by simpa using hname
    simp[callFunc,run_program,hf,hne,hb]
  refine⟨hrun,?_⟩
  have hF:c.F=Fence.wide:=by unfold Cfg.F;rw[hround];rfl
  have hle:args.length<=c.n:=Fbg hlen
  have hsz:vs.size=args.length:=by simpa using hr.1.symm
  let a:Act:={tmps:=vs++Array.replicate (fn.ntmps-vs.size) undef,defers:=[]}
  have sim:SimB c.N Oth (λ_=>0) (vj args) st M a w:=
    { tsz:=by show Array.size _=c.n;simp[a,hn];omega
      dfr:=MarksD.nil hD
      tm:=λi=>by
        simp only[vj,bu,a]
        rw[Fav]
        by_cases hi:i<vs.size
        · rw[Fc2 hi,Fa5 hi,Fab (by omega)]
          exact hr.2 i _ _ (Fab (by omega)) (by simp[hi])
        · rw[Fbn (by omega)]
          simp only[LRel]
          rw[Fei (by omega)]
          simp only[Fer]
          split<;>rfl
      bx:=λk l hk=>by simp[vj]at hk
      inj:=λk k' hk=>by simp[vj]at hk
      sep:=λk b hk=>by simp[vj]at hk
      sto:=sto}
  have h2:=h.out Oth M a w ⟨_,sim⟩
  rw[hF]at h2
  have fin:∀a' w' A' st' M',Ny c fn.results.toList (λ_ st'=>R st') A' st'->Sim c.N Oth A' st' M' a' w'->Chg M w M' w'->
      a'.defers=[]/\∃v,(results fn a'.tmps).run P w'=.ok v w'/\∃u,Ending.returned v=.returned u/\∃st' M',R st'/\StoreOK st' Oth M' w'/\Chg M w M' w':=by
    rintro a' w' A' st' M' hret ⟨β,s⟩ hchg
    obtain⟨l,vs,⟨r,st'',h1,h2,h3⟩,h4,h5⟩:=ir hI s.env _ _ hret
    have hrr:(results fn a'.tmps).run P w'=.ok (if h:vs.toArray.size=1 then vs.toArray[0]else .tuple vs.toArray) w':=by
      unfold results
      rw[Sem.run_bind,Feo,Sem.run_map]
      exact congrArg (λr=>(Result.andThen (Result.andThen r λl w=>.ok l.toArray w) λ(vs:Array Value) w'=>.ok (if h:vs.size=1 then vs[0]else .tuple vs) w')) h4
    exact⟨(s.dfr.known hnm).trans hD,_,hrr,_,rfl,st'',M',h3,s.sto.weaken h2,hchg⟩
  refine callsDIn_of_wp (R:=λe w'=>∃v,e=.returned v/\∃st' M',R st'/\StoreOK st' Oth M' w'/\Chg M w M' w') hf hb trivial (Code.wpF_mono ?_ h2)
  rintro e a' w' ⟨A',st',M',h1,h2,h3⟩
  cases e with
  |normal=>exact fin a' w' A' st' M' h1 h2 h3
  |ret=>exact fin a' w' A' st' M' h1 h2 h3
  |_=>exact h1.elim
structure AWpD(P:Program)(c:Cfg)(code:Code)(Q:List Deferred->Exit->Fr->Store->Prop)(A:Fr)(st:Store):Prop where
  out:∀Oth M a w,Sim c.N Oth A st M a w->code.wpIn c.F 0 P (λe a' w'=>∃D0 A' st' M',Q D0 e A' st'/\Sim ⟨c.n,D0,c.nm⟩ Oth A' st' M' a' w'/\Chg M w M' w') a w
theorem AWpD.of{code:Code}{Q:List Deferred->Exit->Fr->Store->Prop}{A:Fr}{st:Store}(h:AWp P c code (Q c.D0) A st):AWpD P c code Q A st:=
  ⟨λOth M a w sim=>Code.wpF_mono (λe a' w' ⟨A',st',M',h1,h2,h3⟩=>⟨c.D0,A',st',M',h1,h2,h3⟩) (h.out Oth M a w sim)⟩
def zyo(P:Program)(c:Cfg)(y:Code)(Q:List Deferred->Exit->Fr->Store->Prop)(D0:List Deferred):Exit->Fr->Store->Prop
  |.normal=>AWpD P {c with D0:=D0} y Q
  |e=>Q D0 e
theorem AWpD.seq{x y:Code}{Q:List Deferred->Exit->Fr->Store->Prop}{A:Fr}{st:Store}(h:AWpD P c x (zyo P c y Q) A st):AWpD P c (.seq x y) Q A st:=by
  refine⟨λOth M a w sim=>wpIn_seq ?_⟩
  refine Code.wpF_mono ?_ (h.out Oth M a w sim)
  rintro e a' w' ⟨D0,A',st',M',h1,h2,h3⟩
  cases e with
  | normal=>
    refine Code.wpF_mono ?_ (AWpD.out (show AWpD P {c with D0:=D0} y Q A' st' from h1) Oth M' a' w' h2)
    rintro e a'' w'' ⟨D1,A'',st'',M'',h4,h5,h6⟩
    exact⟨D1,A'',st'',M'',h4,h5,h3.trans h6⟩
  |_=>exact⟨D0,A',st',M',h1,h2,h3⟩
theorem AWpD.cond{x:Operand}{p q:Code}{Q:List Deferred->Exit->Fr->Store->Prop}{A:Fr}{st:Store}(t:Bool)(ht:A.ev x=.av (.s (.bool t)))(h:Bb t (AWpD P c p Q A st) (AWpD P c q Q A st)):AWpD P c (.cond x p q) Q A st:=by
  refine⟨λOth M a w sim=>?_⟩
  have hv:a.eval x=.bool t:=by
    obtain⟨β,s⟩:=sim
    exact VRel.eq_s (yz s.env ht)
  refine wpIn_cond hv ?_
  cases t with
  |true=>exact(AWpD.out (show AWpD P c p Q A st from h)) Oth M a w sim
  |false=>exact(AWpD.out (show AWpD P c q Q A st from h)) Oth M a w sim
theorem zas{ops:Array Oper}{Q Q':Exit->Act->World->Prop}{rest:List Oper}(hn:∀e a w,e≠.normal->¬Q e a w)(hq:∀a w,Q .normal a w->wpListIn c.F 0 P ops Q' rest a w):
    ∀(l:List Oper) (a:Act) (w:World),wpListIn c.F 0 P ops Q l a w->wpListIn c.F 0 P ops Q' (l++rest) a w:=by
  intro l
  induction l with
  |nil=>intro a w h;exact hq a w h
  | cons o l ih=>
    intro a w h
    rw[List.cons_append]
    unfold wpListIn at h⊢
    split
    · rename_i hw
      rw[if_pos hw]at h
      exact Mu (λa w h=>ih a w h) hn h
    · rename_i hw
      rw[if_neg hw]at h
      exact⟨λ_ _=>Tv,ih _ _ h.2⟩
theorem AWpD.defer(hI:yp P c.I)(hround:c.round=none)(hnm:c.nm=true){id:Nat}{ops:Array Oper}{pre:List Oper}{o:Oper}(hops:ops.toList=pre++[o]){cl:Call}{f:Operand}(ho:o.op=.defer cl)(hcl:cl.callee=.value f)(hg:o.guard=none)(hd:o.dst=none)
    {Q:List Deferred->Exit->Fr->Store->Prop} {A:Fr} {st:Store}
    (h:Aj P c ops (λA st=>∃(g:FuncId) (vs:List Value),A.ev f=.av (.clos g [])/\(cl.args.toList.map λx=>A.ev x)=vs.map (λv=>LV.av (.s v))/\Q ({target:=.fn (.func g) #[],args:=vs.toArray}::c.D0) .normal A st) pre A st):AWpD P c (.region id ops false) Q A st:=by
  refine⟨λOth M a w sim=>?_⟩
  refine wpIn_region_list ?_
  rw[hops]
  refine zas (Q:=λe a' w'=>e=.normal/\∃A' st' M',(∃(g:FuncId) (vs:List Value),A'.ev f=.av (.clos g [])/\(cl.args.toList.map λx=>A'.ev x)=vs.map (λv=>LV.av (.s v))/\Q ({target:=.fn (.func g) #[],args:=vs.toArray}::c.D0) .normal A' st')/\Sim c.N Oth A' st' M' a' w'/\Chg M w M' w') (λe a w hne h=>hne h.1) ?_ pre a w (dl hI ops _ pre A st h Oth M a w sim)
  rintro a' w' ⟨_,A',st',M',⟨g,vs,hev,hargs,hQ⟩,⟨β,s⟩,hchg⟩
  have hfv:a'.eval f=.func (.func g) #[] #[]:=by
    obtain⟨capv,hcv,hcr⟩:=VRel.clos_inv (yz s.env hev)
    have:capv=#[]:=by
      have h0:=hcr.1
      simp at h0
      exact Fdb h0.symm
    rw[this]at hcv
    exact hcv
  have hav:cl.args.map a'.eval=vs.toArray:=by
    apply Array.toList_inj.1
    rw[Fcy]
    apply Fb9
    intro i
    have h1:(cl.args.toList.map λx=>A'.ev x)[i]?=(vs.map (λv=>LV.av (.s v)))[i]?:=by rw[hargs]
    rw[Fap,Fap]at h1
    rw[Fap]
    cases hx:cl.args.toList[i]? with
    | none=>
      rw[hx]at h1
      cases hv:vs[i]? with
      |none=>simp[hv]
      |some v=>rw[hv]at h1;cases h1
    | some x=>
      rw[hx]at h1
      cases hv:vs[i]? with
      |none=>rw[hv]at h1;cases h1
      | some v=>
        rw[hv]at h1
        simp only[Fee,Fah]at h1
        have:=VRel.eq_s (yz s.env h1)
        simp[hv,this]
  unfold wpListIn
  rw[if_pos (by simp[Region.wanted,hg])]
  refine⟨λ_ _=>Tv,?_⟩
  have hF:c.F.round=none:=hround
  rw[hF,Oper.semAt_none]
  have hrun:(execOp a'.eval o).run P w'=.ok (.defer {target:=.fn (.func g) #[],args:=vs.toArray}) w':=by
    simp[execOp,ho,resolve,hcl,hfv,Deferred.ofValue,hav]
  rw[hrun,Oper.uponIn_defer,hd]
  refine⟨_,A',st',M',hQ,⟨β,?_⟩,hchg⟩
  refine{tsz:=s.tsz,dfr:=⟨[],?_,λ_=>rfl,Marks.nil⟩,tm:=s.tm,bx:=s.bx,inj:=s.inj,sep:=s.sep,sto:=s.sto}
  show({target:=.fn (.func g) #[],args:=vs.toArray}::a'.defers)=[]++({target:=.fn (.func g) #[],args:=vs.toArray}::c.D0)
  rw[s.dfr.known hnm]
  rfl
theorem AWpD.deferL(hI:yp P c.I){id:Nat}{ops:Array Oper}{o:Oper}{cl:Call}{f:Operand}(hlast:ops.toList.getLast?=some o)(ho:o.op=.defer cl)(hcl:cl.callee=.value f)(hg:o.guard=none)(hd:o.dst=none)
    {Q:List Deferred->Exit->Fr->Store->Prop} {A:Fr} {st:Store}
    (h:Aj P c ops (λA st=>∃(g:FuncId) (vs:List Value),A.ev f=.av (.clos g [])/\(cl.args.toList.map λx=>A.ev x)=vs.map (λv=>LV.av (.s v))/\Q ({target:=.fn (.func g) #[],args:=vs.toArray}::c.D0) .normal A st) ops.toList.dropLast A st)
    (hround:c.round=none:=by rfl) (hnm:c.nm=true:=by rfl):AWpD P c (.region id ops false) Q A st:=
  AWpD.defer hI hround hnm (pre:=ops.toList.dropLast) (by obtain⟨ys,hy⟩:=List.getLast?_eq_some_iff.1 hlast;rw[hy,List.dropLast_concat]) ho hcl hg hd h
def Ox(P:Program):List Deferred->(Store->Prop)->Store->Prop
  |[],K,st=>K st
  |d::ds,K,st=>∃(g:FuncId) (vs:List Value),d={target:=.fn (.func g) #[],args:=vs.toArray}/\ADefer P g (vs.map AV.s) st λst'=>Ox P ds K st'
theorem zz1{fn:Func}{tmps:Array Value}{R:Ending->World->Prop}{Oth:Nat->Nat->Prop}(hres:fn.results=#[]){K:Store->Prop}{M0:Nat->Nat->Prop}{w0:World}
    (hK:∀st M w,K st->StoreOK st Oth M w->Chg M0 w0 M w->R (.returned (.tuple #[])) w):∀(ds:List Deferred) (st:Store) (M:Nat->Nat->Prop) (w:World),Ox P ds K st->StoreOK st Oth M w->Chg M0 w0 M w->
    LeavesInM Fence.wide 0 P fn tmps R ds .returning w:=by
  intro ds
  induction ds with
  | nil=>
    intro st M w h sto hc
    refine⟨.tuple #[],?_,hK st M w h sto hc⟩
    unfold results
    rw[hres]
    simp
  | cons d ds ih=>
    intro st M w h sto hc
    obtain⟨g,vs,rfl,hd⟩:=h
    obtain⟨hrun,hcall⟩:=hd.out Oth M w vs.toArray .returning sto (by simpa using Reads.map_s vs)
    refine⟨by simp,.inr ⟨λh=>(by cases h),.func g,#[],g,vs.toArray,rfl,?_,λ_ _=>Tv,hcall.mono ?_⟩⟩
    · simp[invoke,hrun]
    · rintro e u' w' ⟨rfl,v,rfl,st',M',h1,h2,h3⟩
      exact ih st' M' w' h1 h2 (hc.trans h3)
theorem ACalls.of_awpD (hI : yp P c.I) {g : FuncId} {fn : Func} {code : Code} {args : List AV} {st : Store} {R : Ja} (hf : P.funcs[g]? = some fn) (hb : fn.body = some code) (hname : (fn.name == "runtime.NumGoroutine") = false)
    (hn:fn.ntmps=c.n) (hlen:Nat.ble args.length c.n=true) (hres:fn.results=#[]) (h:AWpD P c code (λD0 e A' st'=>match e with|.normal|.ret=>Ox P D0 (R (.tup [])) st'|_=>False) (vj args) st) (hround:c.round=none:=by rfl) (hD:c.D0=[]:=by rfl) (hnm:c.nm=true:=by rfl):ACalls P g args st R:=by
  refine⟨λOth M w vs sto hr=>?_⟩
  have hrun:(callFunc g vs).run P w=.ok (.enter g vs) w:=by
    have hne : ¬ fn.name = "runtime.NumGoroutine" := by simpa using hname
    simp[callFunc,run_program,hf,hne,hb]
  rw[hrun]
  simp only[Ms]
  have hF:c.F=Fence.wide:=by unfold Cfg.F;rw[hround];rfl
  refine(callsIn_wide (n:=0)).1 (callsIn_of_wp_marks hf hb trivial ?_)
  have hle:args.length<=c.n:=Fbg hlen
  have hsz:vs.size=args.length:=by simpa using hr.1.symm
  let a:Act:={tmps:=vs++Array.replicate (fn.ntmps-vs.size) undef,defers:=[]}
  have sim:SimB c.N Oth (λ_=>0) (vj args) st M a w:=
    { tsz:=by show Array.size _=c.n;simp[a,hn];omega
      dfr:=MarksD.nil hD
      tm:=λi=>by
        simp only[vj,bu,a]
        rw[Fav]
        by_cases hi:i<vs.size
        · rw[Fc2 hi,Fa5 hi,Fab (by omega)]
          exact hr.2 i _ _ (Fab (by omega)) (by simp[hi])
        · rw[Fbn (by omega)]
          simp only[LRel]
          rw[Fei (by omega)]
          simp only[Fer]
          split<;>rfl
      bx:=λk l hk=>by simp[vj]at hk
      inj:=λk k' hk=>by simp[vj]at hk
      sep:=λk b hk=>by simp[vj]at hk
      sto:=sto}
  have h2:=h.out Oth M a w ⟨_,sim⟩
  rw[hF]at h2
  refine Code.wpF_mono ?_ h2
  have fin:∀D0 a' w' A' st' M',Ox P D0 (R (.tup [])) st'->Sim ⟨c.n,D0,c.nm⟩ Oth A' st' M' a' w'->Chg M w M' w'->
      LeavesInM Fence.wide 0 P fn a'.tmps (λe w'=>∃v,e=.returned v/\qn st R Oth M w v w') a'.defers .returning w':=by
    rintro D0 a' w' A' st' M' hret ⟨β,s⟩ hchg
    have hdf:a'.defers=D0:=s.dfr.known hnm
    rw[hdf]
    exact zz1 hres (λst3 M3 w3 h3 s3 c3=>⟨_,rfl,_,st3,M3,h3,j8 Reads.nil,s3,c3⟩) D0 st' M' w' hret s.sto hchg
  rintro e a' w' ⟨D0,A',st',M',h1,h2,h3⟩
  cases e with
  |normal=>exact fin D0 a' w' A' st' M' h1 h2 h3
  |ret=>exact fin D0 a' w' A' st' M' h1 h2 h3
  |_=>exact h1.elim
end
end Go.V
