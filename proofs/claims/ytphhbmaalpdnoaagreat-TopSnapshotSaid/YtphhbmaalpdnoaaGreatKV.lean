/- Ground of laws of throngtop: contracts and plain lemmas; no condition beyond the row's own. -/
import Derived.RangeFuncRecord
import Derived.Laws.LoneSync
import Derived.Test.YtphhbmaalpdnoaaGreatKE
set_option linter.unusedSimpArgs false
set_option linter.unusedVariables false
set_option linter.defProp false
namespace Go.V
section
variable {P:Program} {c:Cfg}
theorem zcv{w:World}{b:Nat}{o o':Obj}(h:w.heap[b]?=some o)(h1:Pc o=true)(T:Nat->Nat->Prop):Keeps w T (w.putObj b o') T where
  cell k i v hc _:=by grind[World.cell?,Pc,World.putObj_heap_other]
  out _ _ _ _ hT:=hT
  shp k c' e' fr hw:=by
    by_cases e:k=b
    · subst e
      rw[h]at hw;cases hw;cases h1
    simp_all[World.putObj_heap_other]
theorem nz{M:Nat->Nat->Prop}{w:World}{b:Nat}{o o':Obj}(h:w.heap[b]?=some o)(h1:Pc o=true)(hM:∀i,M b i):Chg M w M (w.putObj b o') where
  size:=φ
  keep k i _ hm:=F6 (World.putObj_heap_other λe=>hm (by rw[e];exact hM i)) i
  blk k _ hm:=World.putObj_heap_other λe=>hm 0 (by rw[e];exact hM 0)
  shp:=(zcv h h1 (λ_ _=>False)).shp
  sub _ _ hm _:=hm
  tape:=rfl
  os:=rfl
  output:=rfl
theorem SimB.putGhost{n:SN}{Oth M:Nat->Nat->Prop}{β:Nat->Nat}{A:Fr}{st:Store}{a:Act}{w:World}(s:SimB n Oth β A st M a w){b:Nat}{o o':Obj}{gh:List (AV×Value)}(hb:st.obj b=some (.ghost o gh))(h':Pc o'=true):
    SimB n Oth β A (st.sO b (.ghost o' gh)) M a (w.putObj b o'):=by
  obtain⟨⟨⟨hw,hc⟩,hg⟩,hM⟩:=s.sto.obj b _ hb;have hk:=λT=>zcv (o':=o') hw hc T;have hne:∀k,st.obj k≠none\/True->k≠b->(w.putObj b o').heap[k]?=w.heap[k]?:=λk _ e=>World.putObj_heap_other e
  exact
    { tsz:=s.tsz
      dfr:=s.dfr.step λD _ _ h2=>⟨World.putObj_heap_other λe=>(h2 0).1 (e▸hM 0),λo=>(h2 o).1⟩
      tm:=λi=>(s.tm i).keep (hk _)
      bx:=λk l hl=>⟨(s.bx k l hl).1.same (hk _) (World.putObj_heap_other (s.sep k b (by rw[hl];simp) (.inl (by rw[hb];simp)))),(s.bx k l hl).2⟩
      inj:=s.inj
      sep:=λk b' hk' hb'=>s.sep k b' hk' (by grind[Store.sO,qe])
      sto:=
        { obj:=λk x hx=>by
            by_cases e:k=b
            · subst e
              simp only[Store.sO,Fbr,cond_true,Faf]at hx;subst hx;exact⟨⟨⟨World.putObj_heap_same (Gs hw),h'⟩,λp hp=>(hg p hp).keep (hk _)⟩,hM⟩
            · simp only[Store.sO,qe e,cond_false]at hx
              exact⟨ObjRel.same (s.sto.obj k x hx).1 (hk _) (World.putObj_heap_other e),(s.sto.obj k x hx).2⟩
          tok:=λk top ht=>by obtain⟨c1,e1,fr1,h1,h2⟩:=s.sto.tok k top ht;exact⟨c1,e1,fr1,by rw[World.putObj_heap_other λe=>by subst e;rw[hw]at h1;cases h1;cases hc];exact h1,h2⟩
          mlt:=λk i hm=>by simpa using s.sto.mlt k i hm
          olt:=λk i hm=>by simpa using s.sto.olt k i hm
          dis:=s.sto.dis}}
theorem SimB.drop{n:SN}{Oth M:Nat->Nat->Prop}{β:Nat->Nat}{A:Fr}{st:Store}{a:Act}{w:World}(s:SimB n Oth β A st M a w)(b:Nat):SimB n Oth β A (st.dO b) M a w where
  tsz:=s.tsz
  dfr:=s.dfr
  tm:=s.tm
  bx:=s.bx
  inj:=s.inj
  sep k b' hk hb:=s.sep k b' hk (hb.imp (λh=>by
    cases hx:(st.dO b).obj b' with
    |none=>exact absurd hx h
    |some y=>rw[(Nk hx).2];simp) id)
  sto:=s.sto.weaken ⟨λk x h=>(Nk h).2,λk x h=>h⟩
def fo(ps:List Tmp)(args:List AV)(gh:List (Nat×AV)):Fr:=Hi (ps.zip (args.map LV.av)++gh.map λp=>(p.1,LV.av p.2)) []
def k8(fn:FuncId)(tmps:Array Value)(ps:Array Tmp)(assign body:Code)(D:Nat)(s:LoopState):Loop:={state:=s,pending:=none,fn,tmps,params:=ps,assign,body,defers:=D}
theorem yns(ps:List (Tmp×Value)):∀t:Array Value,(ps.foldl (λt p=>t.setIfInBounds p.1 p.2) t).size=t.size:=by
  induction ps with
  |nil=>intro t;rfl
  |cons p ps ih=>grind
theorem ynt{i:Nat}:∀(ps:List (Tmp×Value)) (t:Array Value),(∀p∈ps,p.1≠i)->(ps.foldl (λt p=>t.setIfInBounds p.1 p.2) t).getD i undef=t.getD i undef:=by
  intro ps;induction ps with
  |nil=>intro t _;rfl
  | cons p ps ih=>
    intro t h;simp_all
theorem ykf{i:Nat}:∀(l:List (Nat×LV)),(∀q∈l,q.1≠i)->Fu l i=.any:=by
  intro l;induction l with
  |nil=>intro _;rfl
  | cons p l ih=>
    intro h;simp_all[Fu,qe,Ne.symm]
theorem yen{w:World}{T:Nat->Nat->Prop}{β:Nat->Nat}{gh:List (Nat×AV)}{tmps:Array Value}(hg:∀p∈gh,VRel w T p.2 (tmps.getD p.1 undef)):
    ∀ (ps:List Tmp) (args:List AV) (vs:List Value) (t:Array Value),(∀q∈gh,q.1∉ps)->ps.Nodup->(∀p∈ps,p<t.size)->Reads w T args vs->args.length=ps.length->(∀i,i∉ps->LRel w T β (Fu (gh.map λp=>(p.1,LV.av p.2)) i) (t.getD i undef))->
      ∀i,LRel w T β (Fu (ps.zip (args.map LV.av)++gh.map λp=>(p.1,LV.av p.2)) i) (((ps.zip vs).foldl (λt p=>t.setIfInBounds p.1 p.2) t).getD i undef):=by
  intro ps;induction ps with
  |nil=>simp_all
  | cons p ps ih=>
    intro args vs t hdis hnd hlt hr hl h i;obtain⟨hl1,hr1⟩:=hr
    match args,vs,hl1,hl with
    | x::args,v::vs,hl1,hl=>
      have hp:=(List.nodup_cons.1 hnd).1;rw[List.zip_cons_cons,Fcy,Fb7,List.zip_cons_cons,List.cons_append];simp only[Fu];by_cases hi:i=p
      · subst hi
        simp only[Fbr,cond_true];rw[ynt _ _ λq hq e=>hp (by rw[<-e];exact(List.of_mem_zip (a:=q.1) (b:=q.2) hq).1)];have:=hlt i Fa7;rw[Fbg,Array.getElem?_setIfInBounds_self_of_lt this];exact hr1 0 x v rfl rfl
      · simp only[qe hi,cond_false]
        refine ih args vs (t.setIfInBounds p v) (λq hq hm=>hdis q hq (Fav _ hm)) (List.nodup_cons.1 hnd).2 (λq hq=>δ) ⟨by simpa using hl1,λj y z hy hz=>hr1 (j+1) y z hy hz⟩ (by simpa using hl) (λj hj=>?_) i;by_cases hjp:j=p
        · subst hjp
          rw[ykf _ λq hq=>?_]
          · trivial
          grind
        simp_all[Ne.symm]
theorem AYield.of_body{l:Nat}{fn:FuncId}{tmps:Array Value}{ps:Array Tmp}{assign body:Code}{D:Nat}{gh:List (Nat×AV)}{pairs:List (AV×Value)}(hD:c.D0=[])(hpairs:pairs=gh.map λp=>(p.2,tmps.getD p.1 undef))(hsz:tmps.size=c.n)
    (hdis:∀q∈gh,q.1∉ps.toList) (hnd:ps.toList.Nodup) (hlt:∀p∈ps.toList,p<c.n) {S:Store} {args:List AV} {R:Ja}
    (hS:S.obj l=some (.ghost (.loop (k8 fn tmps ps assign body D .ready)) pairs)) (hl:args.length=ps.size)
    (h:AWp P {c with round:=some l} assign (λe A S1=>e=.normal/\S1.obj l=some (.ghost (.loop (k8 fn tmps ps assign body D .ready)) pairs)∧
      AWp P {c with round:=some l} body (λe _ S2=>e=.normal/\S2.obj l=some (.ghost (.loop (k8 fn tmps ps assign body D .busy)) pairs)∧
        R (.s (.bool true)) (S2.sO l (.ghost (.loop (k8 fn tmps ps assign body D .ready)) pairs))) A (S1.sO l (.ghost (.loop (k8 fn tmps ps assign body D .busy)) pairs))) (fo ps.toList args gh) S):AYield P l args S R:=by
  refine⟨λOth M w vs sto hr=>?_⟩;obtain⟨⟨⟨hw,hc⟩,hg⟩,hM⟩:=sto.obj l _ hS;have hvs:vs.size=ps.size:=by have:=hr.1;grind
  refine⟨_,_,_,_,run_yield hw hvs,roundIn_of_wpIn trivial ?_⟩;have hzip:(ps.zip vs).foldl (λt (p,v)=>t.setIfInBounds p v) tmps=(ps.toList.zip vs.toList).foldl (λt p=>t.setIfInBounds p.1 p.2) tmps:=by rw[<-Array.foldl_toList,Array.toList_zip]
  have sim:SimB c.N Oth (λ_=>0) (fo ps.toList args gh) S M {tmps:=(ps.zip vs).foldl (λt (p,v)=>t.setIfInBounds p v) tmps,defers:=[]} w:=
    { tsz:=by
        show Array.size _=_;rw[hzip,yns];exact hsz
      dfr:=MarksD.nil hD
      tm:=λi=>by
        show LRel w _ _ (Fu _ i) (Array.getD _ i undef);rw[hzip];have hgv:∀p∈gh,VRel w (λb o=>M b o\/Oth b o) p.2 (tmps.getD p.1 undef):=λp hp=>hg (p.2,tmps.getD p.1 undef) δ;refine yen hgv ps.toList args vs.toList tmps hdis hnd (λp hp=>by rw[hsz];exact hlt p hp) hr (by simpa using hl) (λj _=>?_) i;clear hg hpairs h hdis;induction gh with
        |nil=>trivial
        | cons p gh ih=>
          rw[Fb7];simp only[Fu];by_cases hj:j=p.1
          · subst hj
            simp only[Fbr,cond_true];exact hgv p Fa7
          simp_all[qe]
      bx:=λk l hk=>by trivial
      inj:=λk k' hk=>by trivial
      sep:=λk b hk=>by trivial
      sto:=sto}
  refine Code.wpF_mono ?_ (h.out Oth M _ w ⟨_,sim⟩);rintro e a1 w1 ⟨A1,S1,M1,⟨rfl,hS1,hbody⟩,⟨β1,sim1⟩,hc1⟩;obtain⟨⟨⟨hw1,_⟩,_⟩,hM1⟩:=sim1.sto.obj l _ hS1;refine⟨_,run_beginRound hw1 rfl,?_⟩;have sim2:=sim1.putGhost (o':=.loop (k8 fn tmps ps assign body D .busy)) hS1 rfl;have hc2:=nz (o':=.loop (k8 fn tmps ps assign body D .busy)) hw1 rfl hM1;refine Code.wpF_mono ?_ (hbody.out Oth M1 _ _ ⟨β1,sim2⟩);rintro e a3 w3 ⟨A3,S3,M3,⟨rfl,hS3,hR⟩,⟨β3,sim3⟩,hc3⟩;obtain⟨⟨⟨hw3,_⟩,_⟩,hM3⟩:=sim3.sto.obj l _ hS3;have sim4:=sim3.putGhost (o':=.loop (k8 fn tmps ps assign body D .ready)) hS3 rfl;have hc4:=nz (o':=.loop (k8 fn tmps ps assign body D .ready)) hw3 rfl hM3;exact⟨_,_,run_endRound none hw3,_,rfl,.s (.bool true),_,M3,hR,.s _,sim4.sto,hc1.trans (hc2.trans (hc3.trans hc4))⟩
theorem AWp.rangeFunc(hro:c.round=none){g:Operand}{ps:Array Tmp}{assign body:Code}{Q:Exit->Fr->Store->Prop}{A:Fr}{st:Store}{gf:FuncId}{gfn:Func}{gcode:Code}{cap:List AV}(hg:A.ev g=.av (.clos gf cap))
    (hf : P.funcs[gf]? = some gfn) (hb : gfn.body = some gcode) (hname : (gfn.name == "runtime.NumGoroutine") = false)
    (gh:List (Nat×AV)) (hgh:∀p∈gh,A.t p.1=.av p.2) (hdis:∀q∈gh,q.1∉ps.toList) (hnd:ps.toList.Nodup) (hlt:∀p∈ps.toList,p<c.n)
    (h:∀(l:Nat) (X Y:AObj),Fresh st l->
      (∀(S:Store) (args:List AV) (R:Ja),S.obj l=some X->args.length=ps.size->
        AWp P {c with round:=some l} assign (λe A S1=>e=.normal/\S1.obj l=some X/\AWp P {c with round:=some l} body (λe _ S2=>e=.normal/\S2.obj l=some Y/\R (.s (.bool true)) (S2.sO l X)) A (S1.sO l Y)) (fo ps.toList args gh) S->AYield P l args S R)->
      ACalls P gf (.s (.func (.yield l) #[] #[])::cap) (st.sO l X) λ_ S'=>S'.obj l=some X/\Q .normal A (S'.dO l)) (hD:c.D0=[]:=by rfl) (hnm:c.nm=false:=by rfl):
    AWp P c (.rangeFunc g ps assign body) Q A st:=by
  refine⟨λOth M a w ⟨β,sim⟩=>?_⟩;refine wpIn_rangeFunc λfn _=>?_;obtain⟨capv,hcv,hcr⟩:=VRel.clos_inv (qk sim.env hg);have eg:∀args w,(callFunc gf args).run P w=.ok (.enter gf args) w:=λargs w=>θz;have hF:c.F.round=none:=hro;rw[hF];have sim1:=sim.grow (Grow.alloc w (.deferred (some [])));have hl:(w.alloc (.deferred (some []))).heap.size=w.heap.size+1:=φ;have hfr:Fresh st (w.heap.size+1):=sim.sto.fresh θ
  have sim2:=sim1.newObj (.loop (k8 fn a.tmps ps assign body w.heap.size .ready)) (.ghost (.loop (k8 fn a.tmps ps assign body w.heap.size .ready)) (gh.map λp=>(p.2,a.tmps.getD p.1 undef)))
    ⟨⟨Ix _ _,rfl⟩,λp hp=>by obtain⟨q,hq,rfl⟩:=Fai.1 hp;have h1:=sim1.tm q.1;rw[hgh q hq]at h1;exact VRel.keep (Hl _ _ M Oth) h1⟩
  rw[hl]at sim2
  have hcall:=h (w.heap.size+1) _ (.ghost (.loop (k8 fn a.tmps ps assign body w.heap.size .busy)) (gh.map λp=>(p.2,a.tmps.getD p.1 undef))) hfr
    (λS args R hS hl h=>AYield.of_body hD rfl sim.tsz hdis hnd hlt hS hl h)
  have hb1:(w.alloc (.deferred (some []))).heap[w.heap.size]?=some (.deferred (some [])):=Ix _ _;have hc1:Chg M w (ku M (w.heap.size+1)) ((w.alloc (.deferred (some []))).alloc (.loop (k8 fn a.tmps ps assign body w.heap.size .ready))):=by have h1:=(Grow.alloc w (.deferred (some []))).chg M;have h2:=I3 (w.alloc (.deferred (some []))) (.loop (k8 fn a.tmps ps assign body w.heap.size .ready)) M;rw[hl]at h2;exact h1.trans h2
  have hbD:((w.alloc (.deferred (some []))).alloc (.loop (k8 fn a.tmps ps assign body w.heap.size .ready))).heap[w.heap.size]?=some (.deferred (some [])):=by grind[D6]
  have hkeep:∀x y,VRel w (λb o=>M b o\/Oth b o) x y->VRel ((w.alloc (.deferred (some []))).alloc (.loop (k8 fn a.tmps ps assign body w.heap.size .ready))) (λb o=>ku M (w.heap.size+1) b o\/Oth b o) x y:=λx y h=>h.keep hc1.keeps;have hent:=run_enterLoop_outer (P:=P) (w:=w) fn a.tmps ps assign body;rw[show({state:=.ready,pending:=none,fn,tmps:=a.tmps,params:=ps,assign,body,defers:=w.heap.size}:Loop)=k8 fn a.tmps ps assign body w.heap.size .ready from rfl]at hent;generalize hW:(w.alloc (.deferred (some []))).alloc (.loop (k8 fn a.tmps ps assign body w.heap.size .ready))=W1 at*;have hrd:Reads W1 (λb o=>ku M (w.heap.size+1) b o\/Oth b o) (.s (.func (.yield (w.heap.size+1)) #[] #[])::cap) (#[Value.func (.yield (w.heap.size+1)) #[] #[]]++capv).toList:=by rw[Fbf];exact Reads.cons (.s _) ⟨hcr.1,λi x y hx hy=>hkeep _ _ (hcr.2 i x y hx hy)⟩
  have hc:=sim2.call hcall hrd;rw[eg]at hc;refine⟨w.heap.size+1,[{target:=.collected w.heap.size,args:=#[]}],W1,{target:=.fn (.func gf) capv,args:=#[.func (.yield (w.heap.size+1)) #[] #[]]},W1,gf,#[Value.func (.yield (w.heap.size+1)) #[] #[]]++capv,W1,hent,?_,λ_ _=>Tv,?_,λh=>ω,zfw (Calls.mono hc ?_)⟩
  · simp only[resolve,hcv]
    simp[Deferred.ofValue,Act.eval]
  · simp[invoke,eg]
  · rintro e w3 ⟨v,rfl,r,st',M',⟨hS,hQ⟩,hv,sim3,hc3⟩
    obtain⟨⟨⟨hw3,_⟩,_⟩,hM3⟩:=sim3.sto.obj _ _ hS;have sim4:=(sim3.putGhost (o':=.loop {k8 fn a.tmps ps assign body w.heap.size .ready with state:=.exhausted}) hS rfl).drop (w.heap.size+1);have hc4:=nz (o':=.loop {k8 fn a.tmps ps assign body w.heap.size .ready with state:=.exhausted}) hw3 rfl hM3;refine⟨none,_,run_endLoop hw3 (by simp[k8]),A,st'.dO (w.heap.size+1),M',hQ,⟨β,?_⟩,hc1.trans (hc3.trans hc4)⟩;have hst:((st'.sO (w.heap.size+1) (.ghost (.loop {k8 fn a.tmps ps assign body w.heap.size .ready with state:=.exhausted}) (gh.map λp=>(p.2,a.tmps.getD p.1 undef)))).dO (w.heap.size+1))=st'.dO (w.heap.size+1):=by
      unfold Store.sO Store.dO
      congr 1
      funext i
      dsimp only;cases Nat.beq i (w.heap.size+1)<;>rfl
    rw[hst]at sim4;have hDlt:w.heap.size<W1.heap.size:=Gs hbD;have hnM:∀o,¬ku M (w.heap.size+1) w.heap.size o:=λo hm=>by
      rcases hm with hm|hm
      · have:=sim.sto.mlt _ _ hm;omega
      · omega
    refine{tsz:=sim4.tsz,dfr:=MarksD.of ⟨?_,?_⟩ hD hnm,tm:=sim4.tm,bx:=sim4.bx,inj:=sim4.inj,sep:=sim4.sep,sto:=sim4.sto}
    · show List.Pairwise _ ({target:=Target.collected w.heap.size,args:=#[]}::a.defers)
      refine Fct.2 ⟨λd hd=>?_,(sim4.dfr.out hD).nd⟩;obtain⟨D,rfl,h1,_⟩:=(sim.dfr.out hD).all d hd;have:=Gs h1;intro e;simp only[Target.collected.injEq]at e;omega
    · intro d hd
      rcases Fa6.1 hd with rfl|hd
      · refine⟨w.heap.size,rfl,?_,λo=>⟨λhm=>hnM o (hc3.sub _ o hm hDlt),λhO=>?_⟩⟩
        · rw[World.putObj_heap_other θ,hc3.blk _ hDlt hnM]
          exact hbD
        · have:=sim.sto.olt _ _ hO;omega
      · exact(sim4.dfr.out hD).all d hd
end
end Go.V
namespace Go.Proofs
open Go Go.V
section
variable {room cnt:Int}
theorem zaz{α:Type}(k:Int)(v:α):∀cs:List (Int×α),(yp cs k v).map (·.1)=if k∈cs.map (·.1)then cs.map (·.1)else cs.map (·.1)++[k]
 |[]=>by simp[yp]
 |e::l=>by
  have ih:=zaz k v l;by_cases h:k=e.1
  ·grind[yp]
  ·have h1:(k==e.1)=false:=by simpa using h
   rw[show yp (e::l) k v=e::yp l k v by rw[yp];simp[h1]];rw[Fb7,ih,Fb7];by_cases h2:k∈l.map (·.1)
   ·rw[if_pos h2,if_pos (Fav _ h2)]
   ·rw[if_neg h2,if_neg (λhh=>(Fa6.1 hh).elim h h2)];rfl
theorem Vk{α:Type}{cs:List (Int×α)}(h:(cs.map (·.1)).Nodup)(k:Int)(v:α):((yp cs k v).map (·.1)).Nodup:=by rw[zaz];grind
theorem ynf{α:Type}{cs:List (Int×α)}{k:Int}(h:k∉cs.map (·.1)):yw cs k=none:=by grind[yw]
theorem mg{α:Type}(e:Int×α)(l:List (Int×α))(j:Int):yw (e::l) j=if j=e.1 then some e.2 else yw l j:=by unfold yw;grind
theorem mc{α:Type}(q j:Int):∀cs:List (Int×α),(cs.map (·.1)).Nodup->yw (cs.eraseP λe=>q==e.1) j=if j=q then none else yw cs j
 |[],_=>by show(none:Option α)=_;split<;>rfl
 |e::l,h=>by
  rw[Fb7,List.nodup_cons]at h;have ih:=mc q j l h.2;rw[List.eraseP_cons];by_cases h1:q=e.1
  ·simp_all[mg,ynf]
  ·have h2:(q==e.1)=false:=by simpa using h1
   rw[h2,cond_false,mg,mg,ih];grind
theorem you{α:Type}(q:Int):∀cs:List (Int×α),(cs.map (·.1)).Nodup->((cs.eraseP λe=>q==e.1).map (·.1)).Nodup:=λcs h=>
 List.Nodup.sublist (List.Sublist.map _ (List.eraseP_sublist)) h
structure CI(W:Int->Nat->Prop)(room:Int)(cs:List (Int×Int))(ks:List Int)(ws:List (Int×Nat))(cnt:Int):Prop where
 nd:ks.Nodup
 len:(ks.length:Int)<=room
 cnd:(cs.map (·.1)).Nodup
 ok:∀key v,yw cs key=some v->key∈ks/\v<=cnt/\∃b,yw ws v=some b/\W key b
theorem CI.nil(W:Int->Nat->Prop)(h:0<=room)(cnt:Int):CI W room [] [] [] cnt:=⟨φ,θv,φ,λkey v hv=>by cases hv⟩
theorem yjc{ks:List Int}(h:ks.Nodup)(key j:Int):j∈key::ks.erase key↔j=key\/j∈ks:=δ
theorem dg{ks:List Int}(h:ks.Nodup)(key:Int):(key::ks.erase key).Nodup:=δ
theorem CI.hit{W:Int->Nat->Prop}{cs:List (Int×Int)}{ks:List Int}{ws:List (Int×Nat)}(h:CI W room cs ks ws cnt){key v:Int}(hk:yw cs key=some v):CI W room cs (key::ks.erase key) ws cnt:=by
 have hm:=(h.ok key v hk).1;refine⟨dg h.nd key,?_,h.cnd,λk2 v2 h2=>?_⟩
 ·rw[Fbd,List.length_erase_of_mem hm];have:=List.length_pos_of_mem hm;have:=h.len;omega
 ·obtain⟨a,b⟩:=h.ok k2 v2 h2;grind
theorem CI.fresh{W:Int->Nat->Prop}{cs:List (Int×Int)}{ks:List Int}{ws:List (Int×Nat)}(h:CI W room cs ks ws cnt)(key:Int)(nb:Nat)(k2 v2:Int)(h2:yw (yp cs key (cnt+1)) k2=some v2):
  k2∈key::ks.erase key/\v2<=cnt+1/\∃b,yw (yp ws (cnt+1) nb) v2=some b/\(if k2=key then b=nb else W k2 b):=by
 rw[C7]at h2;by_cases e:k2=key
 ·simp_all[C7]
 ·rw[if_neg e]at h2;obtain⟨a,b,c,d,f⟩:=h.ok k2 v2 h2;refine⟨(yjc h.nd key k2).2 (.inr a),θ,c,?_,?_⟩
  ·rw[C7,if_neg θ];exact d
  ·rw[if_neg e];exact f
theorem CI.put1{W:Int->Nat->Prop}{cs:List (Int×Int)}{ks:List Int}{ws:List (Int×Nat)}(h:CI W room cs ks ws cnt)(key:Int)(nb:Nat)(hl:((key::ks.erase key).length:Int)<=room):
  CI (λk b=>if k=key then b=nb else W k b) room (yp cs key (cnt+1)) (key::ks.erase key) (yp ws (cnt+1) nb) (cnt+1):=
 ⟨dg h.nd key,hl,Vk h.cnd _ _,h.fresh key nb⟩
theorem CI.put2{W:Int->Nat->Prop}{cs:List (Int×Int)}{ks:List Int}{ws:List (Int×Nat)}(h:CI W room cs ks ws cnt)(hr:1<=room)(key:Int)(nb:Nat)(hl:room<((key::ks.erase key).length:Int)):
  CI (λk b=>if k=key then b=nb else W k b) room ((yp cs key (cnt+1)).eraseP λe=>(key::ks.erase key).getLastD 0==e.1) (key::ks.erase key).dropLast (yp ws (cnt+1) nb) (cnt+1)∧
   (key::ks.erase key).getLastD 0≠key:=by
 have hnd:=dg h.nd key;have hf:=h.fresh key nb;have hln:(ks.erase key).length<=ks.length:=δ;have hlen:=h.len;have hne2:ks.erase key≠[]:=λe=>δ;have hlast:(key::ks.erase key).getLastD 0=(ks.erase key).getLast hne2:=δ;have hlm:(ks.erase key).getLast hne2∈ks.erase key:=List.getLast_mem hne2;have hlk:(ks.erase key).getLast hne2≠key:=λe=>(h.nd.mem_erase_iff.1 (e▸hlm)).1 rfl;rw[hlast];refine⟨⟨?_,?_,you _ _ (Vk h.cnd _ _),λk2 v2 h2=>?_⟩,hlk⟩
 ·exact hnd.sublist (List.dropLast_sublist _)
 ·grind
 ·rw[mc _ _ _ (Vk h.cnd _ _)]at h2;by_cases e:k2=(ks.erase key).getLast hne2
  ·grind
  ·rw[if_neg e]at h2;grind[List.dropLast_concat_getLast]
theorem CI.ways{W W':Int->Nat->Prop}{cs:List (Int×Int)}{ks:List Int}{ws ws':List (Int×Nat)}(h:CI W room cs ks ws cnt)(hw:∀key v b,yw cs key=some v->yw ws v=some b->W key b->yw ws' v=some b/\W' key b):CI W' room cs ks ws' cnt:=by refine⟨h.nd,h.len,h.cnd,λkey v hv=>?_⟩;obtain⟨a,b,c,d,e⟩:=h.ok key v hv;grind
end
end Go.Proofs
namespace Go.V
section
variable {P:Program} {c:Cfg} {st:Store}
theorem yse{e:TypeId}{ie:TI}(hie:c.I e=some ie){x:AV}{m:Nat}{xs:List AV}(hx:SrcOK P st ie.size m x xs)(hroom:room m ie.bytes){K:Ja}
  (h1:m=0->∀a,Mb a->K (.s (.slice a 0 0)) st)
  (h2:0<m->∀b' cap',Fresh st b'->m<=cap'->cap'<=9223372036854775807->K (.s (.slice (some ⟨b',0,none⟩) m cap')) (st.sO b' (.cells (xs++List.replicate ((cap'-m)*ie.size) .any)))):
  AppX P c st e .emp x K:=by
 refine⟨⟨ie,hie⟩,λie' hie' Oth M w sv xv argTypes ty args t sto hs hxv hat ht1 hu hti h0 h1'=>?_⟩;cases hs with
 |emp a ha=>
  by_cases hr:0<m
  ·exact(ysd hie hx hroom hr (h2 hr)).out ie' hie' Oth M w _ xv argTypes ty args t sto (.s _) hxv hat ht1 hu hti h0 h1'
  ·rw[hie]at hie';cases hie';have hr0:m=0:=θ;subst hr0;have A:AppArgs P c argTypes args t e ie a 0 0 xv:=⟨hat,ht1,hu,hti,h0,h1'⟩
   obtain⟨hl1,new,hnew,hone,hnsz,hfc⟩:=hx.out Oth M w xv sto hxv;have hn0:new.toList=[]:=by
    have:new.toList.length=0:=by rw[Fco,hnsz];simp
    exact Far this
   have hrun:=Nw (w':=w) ty A hl1 (hfc w rfl) φ (λb hb=>by rw[hn0];simp[storeCells]) (λ_=>rfl);exact⟨_,_,hrun,_,_,M,h1 rfl a ha,.s _,sto,Chg.refl M w⟩
end
def Store.objs(S:Store):Store:=⟨S.obj,λ_=>none⟩
variable {P:Program} {c:Cfg} {st:Store}
theorem ys4{o:Oper}{cl:Call}{t kt e:TypeId}{x:Operand}(ho:o.op=.call cl)(hcl:cl.callee=.builtin .clear)(hargs:cl.args=#[x])(hat:cl.argTypes[0]?=some t)
    {it:TI} (hit:c.I t=some it) (hty:it.ty=.map kt e)
    {m clk:Nat} {es:List (AV×AV)} {bs:List Nat} (hm:st.obj m=some (.map es bs clk))
    {R:Ja} (h:R (.tup []) (st.sO m (.map [] [] clk))):AEff P c o [.s (.map (some m))] st R:=by
  refine⟨λOth M w ρ hI sto hr=>?_⟩;have hops:o.op.operands=#[x]:=ψl;rw[hops]at hr;have hr:Reads w (λb o=>M b o\/Oth b o) [.s (.map (some m))] [ρ x]:=by simpa using hr
  have h1:=VRel.eq_s (hr.2 0 _ (ρ x) rfl rfl);obtain⟨⟨ms,g1,g2,g3,g4,g5,g6⟩,hM⟩:=sto.obj m _ hm;have hund:=yn (P:=P) (Ke (hI _ _ hit) hty);have hexec:(execOp ρ o).run P w=((Builtin.clear_ cl.argTypes o.type #[ρ x]).run P w).andThen λv w'=>.ok (.value v) w':=by simp[execOp,ho,resolve,hcl,invoke,builtin,hargs]
  have hrun:(execOp ρ o).run P w=.ok (.value (.tuple #[])) {w with heap:=w.heap.setIfInBounds m (.map #[] clk)}:=by rw[hexec];simp[Builtin.clear_,hat,hund,h1,Dd g1,Ov _ g1]
  have hok:StoreOK (st.sO m (.map [] [] clk)) Oth M {w with heap:=w.heap.setIfInBounds m (.map #[] clk)}/\Chg M w M {w with heap:=w.heap.setIfInBounds m (.map #[] clk)}:=by refine L8 sto hm g1 trivial trivial ?_;exact⟨_,M5 _ g1,rfl,λi x' y' hx hy=>by simp at hx,rfl,λt ht=>by simp at ht,List.Pairwise.nil⟩
  rw[hrun];exact⟨_,_,M,h,vx Reads.nil,hok.1,hok.2⟩
section
variable {P:Program} {f:FuncId} {fn:Func} {st:Store} {R:Ja}
abbrev ptrA(b o:Nat):AV:=.s (.pointer (some ⟨b,o,none⟩))
theorem O7{Oth M:Nat->Nat->Prop}{w:World}(sto:StoreOK st Oth M w){b o:Nat}{l:List AV}(hb:st.obj b=some (.cells l)){v:Value}(hl:l[o]?=some (.s v)):w.cell? ⟨b,o,none⟩=some v/\w.frozen? ⟨b,o,none⟩=false:=by
  obtain⟨⟨cs,e0,fr,hb0,huf,hlen,hrel⟩,hM⟩:=sto.obj b _ hb;have hlt:o<cs.size:=by have:=(Fa2.1 hl).1;omega
  have h4:=hrel o _ cs[o] hl (by simp[hlt]);have h5:=VRel.eq_s h4;refine⟨?_,?_⟩
  · simp only[World.cell?,hb0]
    simp[hlt,h5]
  · unfold World.frozen?
    simp only[hb0];simp;omega
theorem cr{w:World}{b o:Nat}{v u:Value}(hc:w.cell? ⟨b,o,none⟩=some u):Wrote w b o [v] (w.setCell ⟨b,o,none⟩ v):=by
  unfold World.cell? at hc;split at hc
  · rename_i c e fr hb
    split at hc
    · cases hc
    · have:=(Fbq.1 hc).1
      have h:=Lr [v] o w c e fr hb (by exact this);simpa [World.setCells]using h
  · cases hc
theorem ys8 (hf : P.funcs[f]? = some fn) (hname : (fn.name == "runtime.NumGoroutine") = false) (hb : fn.body.isNone = true) (hn : Extern.findNext fn = none) (k : IntKind)
    (he:Extern.find fn=some (Extern.Atomic.loadT (.int k))) {b o:Nat} {l:List AV} {x:Int} (hob:st.obj b=some (.cells l)) (hl:l[o]?=some (.s (.int k x))) (h:R (.s (.int k x)) st):ACalls P f [ptrA b o] st R:=by
  refine ACalls.of_value λOth M w vs sto hr=>?_;obtain⟨h1,h2⟩:=O7 sto hob hl;have hvs:vs=#[.pointer (some ⟨b,o,none⟩)]:=by
    have hsz:=hr.1;obtain⟨vs⟩:=vs
    match vs,hsz with
    |[u],_=>rw[VRel.eq_s (hr.2 0 _ u rfl rfl)]
  subst hvs;exact⟨_,w,run_call_load hf hname hb hn k he h1,_,st,M,h,.s _,sto,Chg.refl _ _⟩
theorem zgm{w:World}{T:Nat->Nat->Prop}{a b:Value}{vs:Array Value}(hr:Reads w T [.s a,.s b] vs.toList):vs=#[a,b]:=by
  have hsz:=hr.1;obtain⟨vs⟩:=vs
  match vs,hsz with
  |[u,v],_=>rw[VRel.eq_s (hr.2 0 _ u rfl rfl),VRel.eq_s (hr.2 1 _ v rfl rfl)]
theorem ys7 (hf : P.funcs[f]? = some fn) (hname : (fn.name == "runtime.NumGoroutine") = false) (hb : fn.body.isNone = true) (hn : Extern.findNext fn = none)
    (he:Extern.find fn=some Extern.Atomic.storeT) {b o:Nat} {l:List AV} {u:Value} {k:IntKind} {y:Int} (hob:st.obj b=some (.cells l)) (hl:l[o]?=some (.s u)) (h:R (.tup []) (st.sO b (.cells (zp l o [.s (.int k y)])))):
    ACalls P f [ptrA b o,.s (.int k y)] st R:=by
  refine ACalls.of_value λOth M w vs sto hr=>?_;obtain⟨h1,h2⟩:=O7 sto hob hl;have hvs:=zgm hr;subst hvs;obtain⟨h3,h4⟩:=Co sto hob (Reads.cons (.s (.int k y)) Reads.nil) (cr h1);exact⟨_,_,run_call_store hf hname hb hn he h1 h2,_,_,M,h,vx Reads.nil,h3,h4⟩
theorem zg5 (hf : P.funcs[f]? = some fn) (hname : (fn.name == "runtime.NumGoroutine") = false) (hb : fn.body.isNone = true) (hn : Extern.findNext fn = none) (k : IntKind)
    (he:Extern.find fn=some (Extern.Atomic.update (Op.intArith .add) k true)) {b o:Nat} {l:List AV} {x y s:Int} (hob:st.obj b=some (.cells l)) (hl:l[o]?=some (.s (.int k x)))
    (hs:∀w,(Op.intArith .add k x y).run P w=.ok (.int k s) w) (h:R (.s (.int k s)) (st.sO b (.cells (zp l o [.s (.int k s)])))):
    ACalls P f [ptrA b o,.s (.int k y)] st R:=by
  refine ACalls.of_value λOth M w vs sto hr=>?_;obtain⟨h1,h2⟩:=O7 sto hob hl;have hvs:=zgm hr;subst hvs;obtain⟨h3,h4⟩:=Co sto hob (Reads.cons (.s (.int k s)) Reads.nil) (cr h1);exact⟨_,_,run_call_add hf hname hb hn k he h1 h2 (hs w),_,_,M,h,.s _,h3,h4⟩
theorem ys9 (hf : P.funcs[f]? = some fn) (hname : (fn.name == "runtime.NumGoroutine") = false) (hb : fn.body.isNone = true) (hn : Extern.findNext fn = none) (k : IntKind)
    (he:Extern.find fn=some (Extern.Atomic.casT (.int k))) {b o:Nat} {l:List AV} {x y:Int} (hob:st.obj b=some (.cells l)) (hl:l[o]?=some (.s (.int k x)))
    (h:R (.s (.bool true)) (st.sO b (.cells (zp l o [.s (.int k y)])))):
    ACalls P f [ptrA b o,.s (.int k x),.s (.int k y)] st R:=by
  refine ACalls.of_value λOth M w vs sto hr=>?_;obtain⟨h1,h2⟩:=O7 sto hob hl;have hvs:vs=#[.pointer (some ⟨b,o,none⟩),.int k x,.int k y]:=by
    have hsz:=hr.1;obtain⟨vs⟩:=vs
    match vs,hsz with
    |[u,v,t],_=>rw[VRel.eq_s (hr.2 0 _ u rfl rfl),VRel.eq_s (hr.2 1 _ v rfl rfl),VRel.eq_s (hr.2 2 _ t rfl rfl)]
  subst hvs;obtain⟨h3,h4⟩:=Co sto hob (Reads.cons (.s (.int k y)) Reads.nil) (cr h1);exact⟨_,_,run_call_cas_hit hf hname hb hn k he h1 h2,_,_,M,h,.s _,h3,h4⟩
theorem cm (hf : P.funcs[f]? = some fn) (hname : (fn.name == "runtime.NumGoroutine") = false) (hb : fn.body.isNone = true) (hn : Extern.findNext fn = none) (m : Mark)
    (he:Extern.find fn=some (λ_=>do mark m;pure Extern.Race.none_)) (h:R (.tup []) st):ACalls P f [] st R:=by
  refine ACalls.of_value λOth M w vs sto hr=>?_;have hvs:vs=#[]:=by have:=hr.1;exact Array.eq_empty_of_size_eq_zero this.symm
  subst hvs;exact⟨_,w,run_call_mark0 hf hname hb hn m he w,_,st,M,h,vx Reads.nil,sto,Chg.refl _ _⟩
theorem zg4 (hf : P.funcs[f]? = some fn) (hname : (fn.name == "runtime.NumGoroutine") = false) (hb : fn.body.isNone = true) (hn : Extern.findNext fn = none) (m : Addr -> Mark)
    (he:Extern.find fn=some (Extern.Race.marked m)) {b o:Nat} (h:R (.tup []) st):ACalls P f [ptrA b o] st R:=by
  refine ACalls.of_value λOth M w vs sto hr=>?_;have hvs:vs=#[.pointer (some ⟨b,o,none⟩)]:=by
    have hsz:=hr.1;obtain⟨vs⟩:=vs
    match vs,hsz with
    |[u],_=>rw[VRel.eq_s (hr.2 0 _ u rfl rfl)]
  subst hvs;exact⟨_,w,run_call_marked hf hname hb hn m he ⟨b,o,none⟩ w,_,st,M,h,vx Reads.nil,sto,Chg.refl _ _⟩
end
section
variable {P:Program} {c:Cfg} {st:Store}
def rp(P:Program)(s t:TypeId):Bool:=match P.underlying s,P.underlying t with
  | some (.pointer e),some .unsafePointer=>match P.info? e with
    |some i=> !(i.size==0)
    |none=>false
  |_,_=>false
theorem zgz{o:Oper}{s t:TypeId}{x:Operand}(ho:o.op=.convert s t x)(hok:rp P s t=true)
    {b off:Nat} {l:List AV} {v:Value} (hb:st.obj b=some (.cells l)) (hl:l[off]?=some (.s v)) {R:Ja} (h:R (ptrA b off) st):
    AEff P c o [ptrA b off] st R:=by
  obtain⟨e,hs,hd,hsz⟩:∃e,P.underlying s=some (.pointer e)/\P.underlying t=some .unsafePointer/\(P.info? e).map (λi=>decide (i.size=0))=some false:=by
    unfold rp at hok;split at hok
    · rename_i e hs hd
      split at hok
      · rename_i i hi
        exact⟨e,hs,hd,by rw[hi];simpa using hok⟩
      · exact Bool.noConfusion hok
    · exact Bool.noConfusion hok
  refine⟨λOth M w ρ hI sto hr=>?_⟩;have hops:o.op.operands=#[x]:=by rw[ho];simp[Op.operands]
  rw[hops]at hr;have hr:Reads w (λb o=>M b o\/Oth b o) [ptrA b off] [ρ x]:=by simpa using hr
  have e1:=VRel.eq_s (hr.2 0 _ (ρ x) rfl rfl);have hrun:(execOp ρ o).run P w=.ok (.value (.pointer (some ⟨b,off,none⟩))) w:=by have h2:=run_convert_to_unsafe hs hd hsz (O7 sto hb hl).1;simp[execOp,ho,e1,h2]
  rw[hrun];exact⟨_,st,M,h,.s _,sto,Chg.refl _ _⟩
end
section
variable {P:Program} {c:Cfg}
structure ADefer(P:Program)(g:FuncId)(args:List AV)(st:Store)(R:Store->Prop):Prop where
  out:∀(Oth M:Nat->Nat->Prop) (w:World) (vs:Array Value) (u:FrameMode),StoreOK st Oth M w->Reads w (λb o=>M b o\/Oth b o) args vs.toList->
    (callFunc g vs).run P w=.ok (.enter g vs) w/\CallsDIn Fence.wide 0 P g vs u w λe u' w'=>u'=u/\∃v,e=.returned v/\∃st' M',R st'/\StoreOK st' Oth M' w'/\Chg M w M' w'
theorem ADefer.of_awp (hI : y9 P c.I) {g : FuncId} {fn : Func} {code : Code} {args : List AV} {st : Store} {R : Store -> Prop} (hf : P.funcs[g]? = some fn) (hb : fn.body = some code) (hname : (fn.name == "runtime.NumGoroutine") = false)
    (hn:fn.ntmps=c.n) (hlen:Nat.ble args.length c.n=true) (h:AWp P c code (ft c fn.results.toList λ_ st'=>R st') (Ca args) st) (hround:c.round=none:=by rfl) (hD:c.D0=[]:=by rfl) (hnm:c.nm=true:=by rfl):ADefer P g args st R:=by
  refine⟨λOth M w vs u sto hr=>?_⟩;have hrun:(callFunc g vs).run P w=.ok (.enter g vs) w:=θz;refine⟨hrun,?_⟩;have hF:c.F=Fence.wide:=by unfold Cfg.F;rw[hround];rfl
  have hle:args.length<=c.n:=Fbm hlen;have hsz:vs.size=args.length:=by simpa using hr.1.symm
  let a:Act:={tmps:=vs++Array.replicate (fn.ntmps-vs.size) undef,defers:=[]}
  have sim:SimB c.N Oth (λ_=>0) (Ca args) st M a w:=
    { tsz:=by show Array.size _=c.n;simp[a,hn];omega
      dfr:=MarksD.nil hD
      tm:=λi=>by
        simp only[Ca,o9,a];rw[Fbg];by_cases hi:i<vs.size
        · rw[Fda hi,Fac θ]
          exact hr.2 i _ _ (Fac θ) (by simp[hi])
        grind[LRel]
      bx:=λk l hk=>θx
      inj:=λk k' hk=>θx
      sep:=λk b hk=>θx
      sto:=sto}
  have h2:=h.out Oth M a w ⟨_,sim⟩;rw[hF]at h2
  have fin:∀a' w' A' st' M',Vb c fn.results.toList (λ_ st'=>R st') A' st'->Sim c.N Oth A' st' M' a' w'->Chg M w M' w'->
      a'.defers=[]/\∃v,(results fn a'.tmps).run P w'=.ok v w'/\∃u,Ending.returned v=.returned u/\∃st' M',R st'/\StoreOK st' Oth M' w'/\Chg M w M' w':=by
    rintro a' w' A' st' M' hret ⟨β,s⟩ hchg;obtain⟨l,vs,⟨r,st'',h1,h2,h3⟩,h4,h5⟩:=zai hI s.env _ _ hret;have hrr:(results fn a'.tmps).run P w'=.ok (if h:vs.toArray.size=1 then vs.toArray[0]else .tuple vs.toArray) w':=by unfold results;rw[Sem.run_bind,Fd8,Sem.run_map];exact congrArg (λr=>(Result.andThen (Result.andThen r λl w=>.ok l.toArray w) λ(vs:Array Value) w'=>.ok (if h:vs.size=1 then vs[0]else .tuple vs) w')) h4
    exact⟨(s.dfr.known hnm).trans hD,_,hrr,_,rfl,st'',M',h3,s.sto.weaken h2,hchg⟩
  refine callsDIn_of_wp hf hb trivial (Code.wpF_mono ?_ h2);rintro e a' w' ⟨A',st',M',h1,h2,h3⟩;cases e with
  |normal=>exact fin a' w' A' st' M' h1 h2 h3
  |ret=>exact fin a' w' A' st' M' h1 h2 h3
  |_=>exact h1.elim
structure AWpD(P:Program)(c:Cfg)(code:Code)(Q:List Deferred->Exit->Fr->Store->Prop)(A:Fr)(st:Store):Prop where
  out:∀Oth M a w,Sim c.N Oth A st M a w->code.wpIn c.F 0 P (λe a' w'=>∃D0 A' st' M',Q D0 e A' st'/\Sim ⟨c.n,D0,c.nm⟩ Oth A' st' M' a' w'/\Chg M w M' w') a w
theorem AWpD.of{code:Code}{Q:List Deferred->Exit->Fr->Store->Prop}{A:Fr}{st:Store}(h:AWp P c code (Q c.D0) A st):AWpD P c code Q A st:=
  ⟨λOth M a w sim=>Code.wpF_mono (λe a' w' ⟨A',st',M',h1,h2,h3⟩=>⟨c.D0,A',st',M',h1,h2,h3⟩) (h.out Oth M a w sim)⟩
def yip(P:Program)(c:Cfg)(y:Code)(Q:List Deferred->Exit->Fr->Store->Prop)(D0:List Deferred):Exit->Fr->Store->Prop
  |.normal=>AWpD P {c with D0:=D0} y Q
  |e=>Q D0 e
theorem AWpD.seq{x y:Code}{Q:List Deferred->Exit->Fr->Store->Prop}{A:Fr}{st:Store}(h:AWpD P c x (yip P c y Q) A st):AWpD P c (.seq x y) Q A st:=by
  refine⟨λOth M a w sim=>wpIn_seq ?_⟩;refine Code.wpF_mono ?_ (h.out Oth M a w sim);rintro e a' w' ⟨D0,A',st',M',h1,h2,h3⟩;cases e with
  | normal=>
    refine Code.wpF_mono ?_ (AWpD.out (show AWpD P {c with D0:=D0} y Q A' st' from h1) Oth M' a' w' h2);rintro e a'' w'' ⟨D1,A'',st'',M'',h4,h5,h6⟩;exact⟨D1,A'',st'',M'',h4,h5,h3.trans h6⟩
  |_=>exact⟨D0,A',st',M',h1,h2,h3⟩
theorem AWpD.cond{x:Operand}{p q:Code}{Q:List Deferred->Exit->Fr->Store->Prop}{A:Fr}{st:Store}(t:Bool)(ht:A.ev x=.av (.s (.bool t)))(h:Dm t (AWpD P c p Q A st) (AWpD P c q Q A st)):AWpD P c (.cond x p q) Q A st:=by
  refine⟨λOth M a w sim=>?_⟩;have hv:a.eval x=.bool t:=by obtain⟨β,s⟩:=sim;exact VRel.eq_s (qk s.env ht)
  refine wpIn_cond hv ?_;cases t with
  |true=>exact(AWpD.out (show AWpD P c p Q A st from h)) Oth M a w sim
  |false=>exact(AWpD.out (show AWpD P c q Q A st from h)) Oth M a w sim
theorem zhk{ops:Array Oper}{Q Q':Exit->Act->World->Prop}{rest:List Oper}(hn:∀e a w,e≠.normal->¬Q e a w)(hq:∀a w,Q .normal a w->wpListIn c.F 0 P ops Q' rest a w):
    ∀(l:List Oper) (a:Act) (w:World),wpListIn c.F 0 P ops Q l a w->wpListIn c.F 0 P ops Q' (l++rest) a w:=by
  intro l;induction l with
  |nil=>intro a w h;exact hq a w h
  | cons o l ih=>
    intro a w h;rw[List.cons_append];unfold wpListIn at h⊢;split
    · grind[Rs]
    grind
theorem AWpD.defer(hI:y9 P c.I)(hround:c.round=none)(hnm:c.nm=true){id:Nat}{ops:Array Oper}{pre:List Oper}{o:Oper}(hops:ops.toList=pre++[o]){cl:Call}{f:Operand}(ho:o.op=.defer cl)(hcl:cl.callee=.value f)(hg:o.guard=none)(hd:o.dst=none)
    {Q:List Deferred->Exit->Fr->Store->Prop} {A:Fr} {st:Store}
    (h:Ba P c ops (λA st=>∃(g:FuncId) (vs:List Value),A.ev f=.av (.clos g [])/\(cl.args.toList.map λx=>A.ev x)=vs.map (λv=>LV.av (.s v))/\Q ({target:=.fn (.func g) #[],args:=vs.toArray}::c.D0) .normal A st) pre A st):AWpD P c (.region id ops false) Q A st:=by
  refine⟨λOth M a w sim=>?_⟩;refine wpIn_region_list ?_;rw[hops];refine zhk (λe a w hne h=>hne h.1) ?_ pre a w (rj hI ops _ pre A st h Oth M a w sim);rintro a' w' ⟨_,A',st',M',⟨g,vs,hev,hargs,hQ⟩,⟨β,s⟩,hchg⟩;have hfv:a'.eval f=.func (.func g) #[] #[]:=by
    obtain⟨capv,hcv,hcr⟩:=VRel.clos_inv (qk s.env hev);have:capv=#[]:=by have h0:=hcr.1;grind
    grind
  have hav:cl.args.map a'.eval=vs.toArray:=by
    apply Array.toList_inj.1;rw[Fck];apply Fb8;intro i;have h1:(cl.args.toList.map λx=>A'.ev x)[i]?=(vs.map (λv=>LV.av (.s v)))[i]?:=by rw[hargs]
    rw[Faq,Faq]at h1;rw[Faq];cases hx:cl.args.toList[i]? with
    | none=>
      grind
    | some x=>
      rw[hx]at h1;cases hv:vs[i]? with
      |none=>rw[hv]at h1;cases h1
      | some v=>
        rw[hv]at h1;simp only[Option.map_some,Faf]at h1;have:=VRel.eq_s (qk s.env h1);simp[hv,this]
  unfold wpListIn;rw[if_pos (by simp[Region.wanted,hg])];refine⟨λ_ _=>Tv,?_⟩;have hF:c.F.round=none:=hround;rw[hF,Oper.semAt_none];have hrun:(execOp a'.eval o).run P w'=.ok (.defer {target:=.fn (.func g) #[],args:=vs.toArray}) w':=by simp[execOp,ho,resolve,hcl,hfv,Deferred.ofValue,hav]
  rw[hrun,Oper.uponIn_defer,hd];refine⟨_,A',st',M',hQ,⟨β,?_⟩,hchg⟩;refine{tsz:=s.tsz,dfr:=⟨[],?_,λ_=>rfl,Marks.nil⟩,tm:=s.tm,bx:=s.bx,inj:=s.inj,sep:=s.sep,sto:=s.sto};rw[s.dfr.known hnm];rfl
theorem AWpD.deferL(hI:y9 P c.I){id:Nat}{ops:Array Oper}{o:Oper}{cl:Call}{f:Operand}(hlast:ops.toList.getLast?=some o)(ho:o.op=.defer cl)(hcl:cl.callee=.value f)(hg:o.guard=none)(hd:o.dst=none)
    {Q:List Deferred->Exit->Fr->Store->Prop} {A:Fr} {st:Store}
    (h:Ba P c ops (λA st=>∃(g:FuncId) (vs:List Value),A.ev f=.av (.clos g [])/\(cl.args.toList.map λx=>A.ev x)=vs.map (λv=>LV.av (.s v))/\Q ({target:=.fn (.func g) #[],args:=vs.toArray}::c.D0) .normal A st) ops.toList.dropLast A st)
    (hround:c.round=none:=by rfl) (hnm:c.nm=true:=by rfl):AWpD P c (.region id ops false) Q A st:=
  AWpD.defer hI hround hnm (by grind[List.getLast?_eq_some_iff]) ho hcl hg hd h
def Wa(P:Program):List Deferred->(Store->Prop)->Store->Prop
  |[],K,st=>K st
  |d::ds,K,st=>∃(g:FuncId) (vs:List Value),d={target:=.fn (.func g) #[],args:=vs.toArray}/\ADefer P g (vs.map AV.s) st λst'=>Wa P ds K st'
theorem ykj{fn:Func}{tmps:Array Value}{R:Ending->World->Prop}{Oth:Nat->Nat->Prop}(hres:fn.results=#[]){K:Store->Prop}{M0:Nat->Nat->Prop}{w0:World}
    (hK:∀st M w,K st->StoreOK st Oth M w->Chg M0 w0 M w->R (.returned (.tuple #[])) w):∀(ds:List Deferred) (st:Store) (M:Nat->Nat->Prop) (w:World),Wa P ds K st->StoreOK st Oth M w->Chg M0 w0 M w->
    LeavesInM Fence.wide 0 P fn tmps R ds .returning w:=by
  intro ds;induction ds with
  | nil=>
    intro st M w h sto hc;refine⟨.tuple #[],?_,hK st M w h sto hc⟩;unfold results;rw[hres];simp
  | cons d ds ih=>
    intro st M w h sto hc;obtain⟨g,vs,rfl,hd⟩:=h;obtain⟨hrun,hcall⟩:=hd.out Oth M w vs.toArray .returning sto (by simpa using Reads.map_s vs);refine⟨φ,.inr ⟨λh=>ω,.func g,#[],g,vs.toArray,rfl,?_,λ_ _=>Tv,hcall.mono ?_⟩⟩
    · simp[invoke,hrun]
    · rintro e u' w' ⟨rfl,v,rfl,st',M',h1,h2,h3⟩
      exact ih st' M' w' h1 h2 (hc.trans h3)
theorem ACalls.of_awpD (hI : y9 P c.I) {g : FuncId} {fn : Func} {code : Code} {args : List AV} {st : Store} {R : Ja} (hf : P.funcs[g]? = some fn) (hb : fn.body = some code) (hname : (fn.name == "runtime.NumGoroutine") = false)
    (hn:fn.ntmps=c.n) (hlen:Nat.ble args.length c.n=true) (hres:fn.results=#[]) (h:AWpD P c code (λD0 e A' st'=>match e with|.normal|.ret=>Wa P D0 (R (.tup [])) st'|_=>False) (Ca args) st) (hround:c.round=none:=by rfl) (hD:c.D0=[]:=by rfl) (hnm:c.nm=true:=by rfl):ACalls P g args st R:=by
  refine⟨λOth M w vs sto hr=>?_⟩;have hrun:(callFunc g vs).run P w=.ok (.enter g vs) w:=θz;rw[hrun];have hF:c.F=Fence.wide:=by unfold Cfg.F;rw[hround];rfl
  refine(callsIn_wide (n:=0)).1 (callsIn_of_wp_marks hf hb trivial ?_);have hle:args.length<=c.n:=Fbm hlen;have hsz:vs.size=args.length:=by simpa using hr.1.symm
  let a:Act:={tmps:=vs++Array.replicate (fn.ntmps-vs.size) undef,defers:=[]}
  have sim:SimB c.N Oth (λ_=>0) (Ca args) st M a w:=
    { tsz:=by show Array.size _=c.n;simp[a,hn];omega
      dfr:=MarksD.nil hD
      tm:=λi=>by
        simp only[Ca,o9,a];rw[Fbg];by_cases hi:i<vs.size
        · rw[Fda hi,Fac θ]
          exact hr.2 i _ _ (Fac θ) (by simp[hi])
        grind[LRel]
      bx:=λk l hk=>θx
      inj:=λk k' hk=>θx
      sep:=λk b hk=>θx
      sto:=sto}
  have h2:=h.out Oth M a w ⟨_,sim⟩;rw[hF]at h2;refine Code.wpF_mono ?_ h2
  have fin:∀D0 a' w' A' st' M',Wa P D0 (R (.tup [])) st'->Sim ⟨c.n,D0,c.nm⟩ Oth A' st' M' a' w'->Chg M w M' w'->
      LeavesInM Fence.wide 0 P fn a'.tmps (λe w'=>∃v,e=.returned v/\qy st R Oth M w v w') a'.defers .returning w':=by
    rintro D0 a' w' A' st' M' hret ⟨β,s⟩ hchg;have hdf:a'.defers=D0:=s.dfr.known hnm;rw[hdf];exact ykj hres (λst3 M3 w3 h3 s3 c3=>⟨_,rfl,_,st3,M3,h3,vx Reads.nil,s3,c3⟩) D0 st' M' w' hret s.sto hchg
  rintro e a' w' ⟨D0,A',st',M',h1,h2,h3⟩;cases e with
  |normal=>exact fin D0 a' w' A' st' M' h1 h2 h3
  |ret=>exact fin D0 a' w' A' st' M' h1 h2 h3
  |_=>exact h1.elim
end
end Go.V
