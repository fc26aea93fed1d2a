/- Ground of laws of thronglaw25: contracts and plain lemmas; no condition beyond the row's own. -/
import Derived.RangeFuncLeaves
import Derived.MapKept
import Derived.Test.YthjfdaifoocijaaGreatKB
set_option linter.unusedSimpArgs false
set_option linter.unusedVariables false
set_option linter.defProp false
namespace Go.V
section
variable {P:Program} {c:Cfg}
def Code.wpF_mono{F:Fence}{code:Code}{Q Q':Exit->Act->World->Prop}{a:Act}{w:World}(hq:∀e a w,Q e a w->Q' e a w)(h:code.wpIn F 0 P Q a w):code.wpIn F 0 P Q' a w:=wpIn_mono h hq
def ze7{F:Fence}{n:Nat}{code:Code}{Q:Exit->Act->World->Prop}{a:Act}{w:World}(h:code.wpIn F n P (Exit.noGoto Q) a w):(Code.scope code).wpIn F n P Q a w:=by
  intro b k cs hro hb hr;have s1:step P (lone (b.atR a (.code (.scope code)::k)) cs w)=.next (lone (b.atR a (.code code::.inScope code::k)) cs w):=step_lone_go ξ;have h0:(lone (b.atR a (.code (.scope code)::k)) cs w).fenced P F:=fenced_calm hb hr rfl;obtain⟨e,a₁,w₁,hq,harr⟩:=h b (.inScope code::k) cs hro hb hr;cases e with
  | normal=>
    have s2:step P (lone (b.atR a₁ (.inScope code::k)) cs w₁)=.next (lone (b.atR a₁ k) cs w₁):=step_lone_go ξ;exact⟨.normal,a₁,w₁,hq,.head h0 s1 (StepsIn.trans harr (.one (fenced_calm hb hr rfl) s2))⟩
  | exit id=>
    have hx:exitTo id (.inScope code::k)=exitTo id k:=ξ;exact⟨.exit id,a₁,w₁,hq,λk' hk=>.head h0 s1 (harr.1 k' δ),λhr' hk=>let⟨k₁,h1,h2⟩:=harr.2 hr' δ;⟨k₁,h1,.head h0 s1 h2⟩⟩
  |goto l=>trivial
  |ret=>exact⟨_,a₁,w₁,hq,.of_steps (.one h0 s1) harr⟩
  |panic ch=>exact⟨_,a₁,w₁,hq,.of_steps (.one h0 s1) harr⟩
  |outgrown=>exact⟨_,a₁,w₁,hq,.of_steps (.one h0 s1) harr⟩
def AWp.mono{code:Code}{Q Q':Exit->Fr->Store->Prop}{A:Fr}{st:Store}(h:AWp P c code Q A st)(hq:∀e A st,Q e A st->Q' e A st):AWp P c code Q' A st:=
  ⟨λOth M a w sim=>Code.wpF_mono (λe a' w' ⟨A',st',M',h1,h2,h3⟩=>⟨A',st',M',hq _ _ _ h1,h2,h3⟩) (h.out Oth M a w sim)⟩
def ze4{F:Fence}{ops:Array Oper}{id:Nat}{Q:Exit->Act->World->Prop}{R:Act->World->Prop}{a:Act}{w:World}(h:wpListIn F 0 P ops (λe a' w'=>e=.normal/\R a' w') ops.toList a w)(hq:∀a w,R a w->Q .normal a w):(Code.region id ops false).wpIn F 0 P Q a w:=
  Code.wpF_mono (λe a' w' ⟨he,hr⟩=>δ) (wpIn_region_list h)
def Wv(hI:qe P c.I):∀(code:Code) (Q:Exit->Fr->Store->Prop) (A:Fr) (st:Store),vc P c code Q A st->AWp P c code Q A st:=by
  intro code;induction code with
  |skip=>intro Q A st h;exact⟨λOth M a w sim=>wpIn_skip ⟨A,st,M,h,sim,Chg.refl _ _⟩⟩
  | region id ops draw=>
    intro Q A st h;cases draw with
    |false=>exact⟨λOth M a w sim=>ze4 (mw hI ops (Q .normal) ops.toList A st h Oth M a w sim) λ_ _ h=>h⟩
    |true=>exact(ADraw.out h id).mono λe A' st' h'=>δ
  | seq x y ihx ihy=>
    intro Q A st h;refine⟨λOth M a w sim=>wpIn_seq (Code.wpF_mono ?_ ((ihx _ A st h).out Oth M a w sim))⟩;rintro e a' w' ⟨A',st',M',h1,h2,h3⟩;cases e with
    | normal=>
      refine Code.wpF_mono ?_ ((ihy _ A' st' h1).out Oth M' a' w' h2);rintro e a'' w'' ⟨A'',st'',M'',h4,h5,h6⟩;exact⟨A'',st'',M'',h4,h5,h3.trans h6⟩
    |_=>exact⟨A',st',M',h1,h2,h3⟩
  | cond x p q ihp ihq=>
    intro Q A st h;simp only[vc]at h;split at h
    · rename_i t ht
      refine⟨λOth M a w sim=>?_⟩;have hv:a.eval x=.bool t:=ψn;refine wpIn_cond hv ?_;cases t with
      |true=>exact(ihp Q A st h).out Oth M a w sim
      |false=>exact(ihq Q A st h).out Oth M a w sim
    grind
  | block id b ih=>
    intro Q A st h;refine⟨λOth M a w sim=>wpIn_block (Code.wpF_mono ?_ ((ih _ A st h).out Oth M a w sim))⟩;rintro e a' w' ⟨A',st',M',h1,h2,h3⟩;cases e with
    | exit id'=>
      simp only[Sv]at h1;simp only[Exit.inBlock];by_cases he:id'=id
      · subst he
        simp only[Fb6,cond_true]at h1;grind
      · simp only[q9 he,cond_false]at h1
        grind
    |_=>exact⟨A',st',M',h1,h2,h3⟩
  |loop b ih=>intro Q A st h;exact h
  |rangeFunc f ps x y ihx ihy=>intro Q A st h;exact h.elim
  |exit id=>intro Q A st h;exact⟨λOth M a w sim=>wpIn_exit ⟨A,st,M,h,sim,Chg.refl _ _⟩⟩
  | scope b ih=>
    intro Q A st h;refine⟨λOth M a w sim=>ze7 (Code.wpF_mono ?_ ((ih _ A st h).out Oth M a w sim))⟩;rintro e a' w' ⟨A',st',M',h1,h2,h3⟩;cases e with
    |goto l=>trivial
    |_=>exact⟨A',st',M',h1,h2,h3⟩
  |label l=>intro Q A st h;exact⟨λOth M a w sim=>wpIn_label ⟨A,st,M,h,sim,Chg.refl _ _⟩⟩
  |goto l=>intro Q A st h;exact h.elim
  |ret=>intro Q A st h;exact⟨λOth M a w sim=>wpIn_ret ⟨A,st,M,h,sim,Chg.refl _ _⟩⟩
  |refuse s=>intro Q A st h;exact h.elim
def Mf(c:Cfg)(A:Fr)(st:Store):List ResultVar->(List AV->Prop)->Prop
  |[],K=>K []
  | .tmp t::rest,K=>match A.t t with
    |.av x=>Mf c A st rest λl=>K (x::l)
    |_=>False
  |.cell p t::rest,K=>optK (c.I t) λi=>Pj A.bx st (A.t p) λl=>optK (Dm i l) λx=>Mf c A st rest λl=>K (x::l)
def sd:List AV->AV
  |[x]=>x
  |l=>.tup l
def Rz(c:Cfg)(rs:List ResultVar)(R:Ja)(A:Fr)(st:Store):Prop:=
  Mf c A st rs λl=>∃r st',AV.le (sd l) r/\st.Has st'/\R r st'
def cx(c:Cfg)(rs:List ResultVar)(R:Ja):Exit->Fr->Store->Prop
  |.normal=>Rz c rs R
  |.ret=>Rz c rs R
  |_=>λ_ _=>False
def Wf(args:List AV)(i:Nat):LV:=
  match args,i with
  |[],_=>.und
  |x::_,0=>.av x
  |_::l,i+1=>Wf l i
def Bo(args:List AV):Fr:=⟨Wf args,λ_=>none⟩
theorem ll(args:List AV)(i:Nat):Wf args i=match args[i]? with|some x=>.av x|none=>.und:=by
  induction args generalizing i with
  |nil=>rfl
  | cons x l ih=>
    cases i with
    |zero=>rfl
    |succ i=>simp[Wf,ih]
def se(hI:qe P c.I){w:World}{T:BB}{β:Nat->Nat}{A:Fr}{st:Store}{a:Act}(he:Env w T β A.ev A.bx st a.eval):∀(rs:List ResultVar) (K:List AV->Prop),Mf c A st rs K->
    ∃l vs,K l/\(rs.mapM (m:=Sem) λ|.tmp t=>pure (a.tmps.getD t undef)|.cell p t=>do loadVar t (<-asAddr (a.tmps.getD p undef))).run P w=.ok vs w/\Reads w T l vs:=by
  intro rs;induction rs with
  |nil=>intro K h;exact⟨[],[],h,φ,Reads.nil⟩
  | cons r rs ih=>
    intro K h;cases r with
    | tmp t=>
      simp only[Mf]at h;split at h
      · rename_i x hx
        obtain⟨l,vs,h1,h2,h3⟩:=ih _ h;refine⟨x::l,a.tmps.getD t undef::vs,h1,by simp_all,Reads.cons ?_ h3⟩;have:=he.ev (.tmp t);simp only[Fr.ev,hx]at this;exact this
      grind
    | cell p t=>
      simp only[Mf]at h;obtain⟨i,hi,h⟩:=zy h;obtain⟨cl,hcl,_,hs⟩:=zdp (ev:=A.ev) h;obtain⟨x,hx,hcl⟩:=zy hcl;obtain⟨b,off,hv,hav⟩:=hs w T β a.eval he _ (he.ev (.tmp p));obtain⟨v,hr,hvr⟩:=zar (P:=P) (hI _ _ hi) hav hx;obtain⟨l,vs,h1,h2,h3⟩:=ih _ hcl;have hv':a.tmps.getD p undef=.pointer (some ⟨b,off,none⟩):=hv;refine⟨x::l,v::vs,h1,?_,Reads.cons hvr h3⟩;grind[asAddr,Sem.run_bind,Sem.run_pure,Result.andThen_ok]
def ycj{w:World}{T:BB}{l:List AV}{vs:List Value}(h:Reads w T l vs):VRel w T (sd l) (if h:vs.toArray.size=1 then vs.toArray[0]else .tuple vs.toArray):=by
  obtain⟨hl,hr⟩:=h
  match l,vs,hl with
  |[x],[v],_=>exact hr 0 x v rfl rfl
  |[],[],_=>exact wk ⟨rfl,hr⟩
  | x::y::l,u::v::vs,hl=>
    have:¬(u::v::vs).toArray.size=1:=φ;rw[dif_neg this];exact wk ⟨θ,θ⟩
def G9(w:World)(b:Nat)(o:Obj):World:={w with heap:=w.heap.setIfInBounds b o}
def ydx{w:World}{b:Nat}{o:Obj}(h:b<w.heap.size):(G9 w b o).heap[b]?=some o:=by simp[G9,h]
theorem dp{w:World}{b k:Nat}{o:Obj}(h:k≠b):(G9 w b o).heap[k]?=w.heap[k]?:=by simp_all[G9,Ne.symm]
def ydw{w:World}{b:Nat}{o:Obj}:(G9 w b o).heap.size=w.heap.size:=by simp[G9]
def yai{w:World}{b:Nat}(h:w.heap[b]?=some (.deferred (some []))):(Instr.takeDeferred b).run P w=.ok [] (G9 w b (.deferred none)):=by simp_all[Instr.takeDeferred,getObj,setObj,Sem.run,G9]
structure Shut(Oth M:BB)(w w':World):Prop where
  size:w'.heap.size=w.heap.size
  blk:∀b,w'.heap[b]?=w.heap[b]?\/(w.heap[b]?=some (.deferred (some []))/\w'.heap[b]?=some (.deferred none)/\∀o,¬M b o/\¬Oth b o)
  tape:w'.tape=w.tape
  os:w'.os=w.os
  output:w'.output=w.output
def Shut.keeps{Oth M:BB}{w w':World}(h:Shut Oth M w w')(T:BB):Keeps w T w' T where
  cell b o c hc _:=by
    rcases h.blk b with e|⟨e,_,_⟩
    · rw[Fw e];exact hc
    · simp[World.cell?,e]at hc
  out _ _ _ _ hT:=hT
  shp b c e fr hw:=by
    rcases h.blk b with e'|⟨e',_,_⟩
    · grind
    grind
def Shut.sto{Oth M:BB}{w w':World}{st:Store}(h:Shut Oth M w w')(s:StoreOK st Oth M w):StoreOK st Oth M w' where
  obj b x hx:=by
    have h1:=s.obj b x hx;refine⟨ObjRel.same h1.1 (h.keeps _) ?_,h1.2⟩;rcases h.blk b with e|⟨_,_,e⟩
    · exact e
    simp_all
  tok b top ht:=by
    obtain⟨c,e,fr,h1,h2,h3,h4⟩:=s.tok b top ht;refine⟨c,e,fr,?_,h2,h3,h4⟩;rcases h.blk b with e'|⟨e',_,_⟩
    · grind
    grind
  mlt b o hm:=by rw[h.size];exact s.mlt b o hm
  olt b o hm:=by rw[h.size];exact s.olt b o hm
  dis:=s.dis
def ygk{Oth M:BB}{fn:Func}{tmps:Array Value}{R:Ending->World->Prop}:∀(ds:List Deferred) (w:World),Marks Oth M w ds->
    (∀w',Shut Oth M w w'->∃v,(results fn tmps).run P w'=.ok v w'/\R (.returned v) w')->LeavesInM Fence.wide 0 P fn tmps R ds .returning w:=by
  intro ds;induction ds with
  |nil=>intro w _ h;exact h w ⟨rfl,λ_=>.inl rfl,rfl,rfl,rfl⟩
  | cons d ds ih=>
    intro w hm h;obtain⟨D,rfl,h1,h2⟩:=hm.all d (Fbo);have hnd:=Fc2.1 hm.nd;have hne:∀d'∈ds,∀D',d'={target:=.collected D',args:=#[]}->D'≠D:=λd' hd' D' e e2=>hnd.1 d' hd' (by rw[e,e2]);refine⟨φ,.inl ⟨D,G9 w D (.deferred none),rfl,yai h1,ih _ ⟨hnd.2,λd' hd'=>?_⟩ λw' hs=>h w' ?_⟩⟩
    · obtain⟨D',e,h3,h4⟩:=hm.all d' (Fba _ hd')
      grind[dp]
    · refine⟨hs.size.trans ydw,λb=>?_,hs.tape,hs.os,hs.output⟩
      by_cases hb:b=D
      · subst hb
        refine .inr ⟨h1,?_,h2⟩;rcases hs.blk b with e|⟨e,_,_⟩
        · rw[e];exact ydx (Fi h1)
        omega
      · rcases hs.blk b with e|⟨e,e2,e3⟩
        · exact .inl (e.trans (dp hb))
        grind[dp]
def Ge(Oth M:BB)(w:World):Nat->Nat->Prop:=λb o=>Oth b o\/(b<w.heap.size/\¬M b o/\∀c e fr,w.heap[b]?=some (.cells c e fr)->c.size<=o)
def tn{Oth M:BB}(w:World):Keeps w (λb o=>M b o\/Oth b o) w (λb o=>M b o\/Ge Oth M w b o) where
  cell _ _ _ h _:=h
  out b o v hc hT:=by
    rintro(h|h|⟨_,_,h⟩)
    · grind
    · grind
    grind[World.cell?]
  shp b c e fr h:=⟨c,fr,h,rfl⟩
def yej{Oth M:BB}{w:World}{st:Store}(s:StoreOK st Oth M w):StoreOK st (Ge Oth M w) M w where
  obj b x hx:=⟨ObjRel.same (s.obj b x hx).1 (tn w) rfl,(s.obj b x hx).2⟩
  tok:=s.tok
  mlt:=s.mlt
  olt b o h:=h.elim (s.olt b o) λh=>h.1
  dis b o h:=h.elim (s.dis b o) λh=>h.2.1
def yek{Oth M:BB}{w:World}{st:Store}{R:Ja}{r:AV}{v:Value}{st':Store}{M':BB}{w' w'':World}(s:StoreOK st Oth M w)(hR:R r st')(hr:VRel w'' (λb o=>M' b o\/Ge Oth M w b o) r v)
    (sto:StoreOK st' (Ge Oth M w) M' w') (hc:Chg M w M' w') (hs:Shut (Ge Oth M w) M' w' w''):xg st R Oth M w v w'':=by
  have hT:∀b o,(M' b o\/Oth b o)->(M' b o\/Ge Oth M w b o):=λb o h=>h.imp id .inl;have sto':=hs.sto sto;refine⟨r,st',M',hR,hr.mono hT,⟨λb x hx=>⟨(sto'.obj b x hx).1.mono hT,(sto'.obj b x hx).2⟩,sto'.tok,sto'.mlt,λb o h=>sto'.olt b o (.inl h),λb o h=>sto'.dis b o (.inl h)⟩,?_⟩;refine{size:=by rw[hs.size];exact hc.size,keep:=λb o hb hm=>?_,blk:=λb hb hm=>?_,shp:=λb c e fr hw=>?_,sub:=hc.sub,tape:=hs.tape.trans hc.tape,os:=hs.os.trans hc.os,output:=hs.output.trans hc.output}
  · rw[<-hc.keep b o hb hm]
    rcases hs.blk b with e|⟨e,e2,_⟩
    · exact Fw e o
    · simp[World.cell?,e,e2]
  · rcases hs.blk b with e|⟨_,_,e⟩
    · exact e.trans (hc.blk b hb hm)
    · exfalso
      cases hx:w.heap[b]? with
      | none=>
        grind
      | some x=>
        cases x with
        |cells c e1 fr=>exact(e c.size).2 (.inr ⟨hb,hm _,λc' e' fr' h=>δ⟩)
        |_=>exact(e 0).2 (.inr ⟨hb,hm _,λc' e' fr' h=>δ⟩)
  · obtain⟨c',fr',h1,h2⟩:=hc.shp b c e fr hw
    refine⟨c',fr',?_,h2⟩;rcases hs.blk b with e'|⟨e',_,_⟩
    · grind
    grind
def ACalls.of_awp (hI : qe P c.I) {g : FuncId} {fn : Func} {code : Code} {args : List AV} {st : Store} {R : Ja} (hf : P.funcs[g]? = some fn) (hb : fn.body = some code) (hname : (fn.name == "runtime.NumGoroutine") = false)
    (hn:fn.ntmps=c.n) (hlen:Nat.ble args.length c.n=true) (h:AWp P c code (cx c fn.results.toList R) (Bo args) st) (hround:c.round=none:=by rfl) (hD:c.D0=[]:=by rfl):ACalls P g args st R:=by
  refine⟨λOth M w vs sto hr=>?_⟩;have hrun:(callFunc g vs).run P w=.ok (.enter g vs) w:=θ4;rw[hrun];simp only[Pt];have hF:c.F=Fence.wide:=by unfold Cfg.F;rw[hround];rfl
  refine(callsIn_wide (n:=0)).1 (callsIn_of_wp_marks hf hb trivial ?_);have hle:args.length<=c.n:=Fbj hlen;have hsz:vs.size=args.length:=by simpa using hr.1.symm
  let a:Act:={tmps:=vs++Array.replicate (fn.ntmps-vs.size) undef,defers:=[]}
  have sim:SimB c.N (Ge Oth M w) (λ_=>0) (Bo args) st M a w:=
    { tsz:=by show Array.size _=c.n;grind
      dfr:=MarksD.nil hD
      tm:=λi=>by
        simp only[Bo,ll,a];rw[Fbi];by_cases hi:i<vs.size
        · rw[Fdh hi,Fbe hi,Fac θ]
          exact(hr.2 i _ _ (Fac θ) (by simp[hi])).keep (tn w)
        grind[LRel]
      bx:=λk l hk=>by trivial
      inj:=λk k' hk=>by trivial
      sep:=λk b hk=>by trivial
      sto:=yej sto}
  have h2:=h.out (Ge Oth M w) M a w ⟨_,sim⟩;rw[hF]at h2;refine Code.wpF_mono ?_ h2
  have fin:∀a' w' A' st' M',Rz c fn.results.toList R A' st'->Sim c.N (Ge Oth M w) A' st' M' a' w'->Chg M w M' w'->
      LeavesInM Fence.wide 0 P fn a'.tmps (λe w'=>∃v,e=.returned v/\xg st R Oth M w v w') a'.defers .returning w':=by
    rintro a' w' A' st' M' hret ⟨β,s⟩ hchg;refine ygk a'.defers w' (s.dfr.out hD) λw'' hs=>?_;have hblk:∀b o,M' b o->w''.heap[b]?=w'.heap[b]?:=λb o hm=>by
      rcases hs.blk b with e|⟨_,_,e⟩
      · exact e
      grind
    have he:Env w'' (λb o=>M' b o\/Ge Oth M w b o) β A'.ev A'.bx st' a'.eval:=
      ⟨λx=>(s.ev x).keep (hs.keeps _),λk l hk=>(s.bx k l hk).1.same (hs.keeps _) (hblk _ 0 ((s.bx k l hk).2 0)),λb x hx=>((hs.sto s.sto).obj b x hx).1⟩
    obtain⟨l,vs,⟨r,st'',h1,h2,h3⟩,h4,h5⟩:=se hI he _ _ hret;refine⟨_,?_,_,rfl,yek sto h3 (h1 _ _ _ (ycj h5)) (s.sto.weaken h2) hchg hs⟩;unfold results;rw[Sem.run_bind,Fee,Sem.run_map];exact congrArg (λr=>(Result.andThen (Result.andThen r λl w=>.ok l.toArray w) λ(vs:Array Value) w'=>.ok (if h:vs.size=1 then vs[0]else .tuple vs) w')) h4
  rintro e a' w' ⟨A',st',M',h1,h2,h3⟩;cases e with
  |normal=>exact fin a' w' A' st' M' h1 h2 h3
  |ret=>exact fin a' w' A' st' M' h1 h2 h3
  |_=>trivial
def Qb (hI : qe P c.I) {g : FuncId} {fn : Func} {code : Code} {args : List AV} {st : Store} {R : Ja} (hf : P.funcs[g]? = some fn) (h : AWp P c code (cx c fn.results.toList R) (Bo args) st) (hb : fn.body = some code := by rfl) (hname : (fn.name == "runtime.NumGoroutine") = false := by rfl) (hn : fn.ntmps = c.n := by rfl) (hlen : Nat.ble args.length c.n = true := by rfl) (hround : c.round = none := by rfl) (hD : c.D0 = [] := by rfl): ACalls P g args st R := ACalls.of_awp hI hf hb hname hn hlen h hround hD
def ACalls.of_body (hI : qe P c.I) {g : FuncId} {fn : Func} {code : Code} {args : List AV} {st : Store} {R : Ja} (hf : P.funcs[g]? = some fn) (hb : fn.body = some code) (hname : (fn.name == "runtime.NumGoroutine") = false)
    (hn:fn.ntmps=c.n) (hlen:Nat.ble args.length c.n=true) (h:vc P c code (cx c fn.results.toList R) (Bo args) st) (hround:c.round=none:=by rfl) (hD:c.D0=[]:=by rfl):ACalls P g args st R:=
  ACalls.of_awp hI hf hb hname hn hlen (Wv hI code _ _ st h) hround hD
def Qa (hI : qe P c.I) {g : FuncId} {fn : Func} {code : Code} {args : List AV} {st : Store} {R : Ja} (hf : P.funcs[g]? = some fn) (h : vc P c code (cx c fn.results.toList R) (Bo args) st) (hb : fn.body = some code := by rfl) (hname : (fn.name == "runtime.NumGoroutine") = false := by rfl) (hn : fn.ntmps = c.n := by rfl) (hlen : Nat.ble args.length c.n = true := by rfl) (hround : c.round = none := by rfl) (hD : c.D0 = [] := by rfl): ACalls P g args st R := ACalls.of_body hI hf hb hname hn hlen h hround hD
def Fk(l:List (Nat×LV))(i:Nat):LV:=
  match l with
  |[]=>.any
  |(j,x)::l=>bif Nat.beq i j then x else Fk l i
def K4(l:List (Nat×List AV))(i:Nat):Option (List AV):=
  match l with
  |[]=>none
  |(j,x)::l=>bif Nat.beq i j then some x else K4 l i
def Hb(l:List (Nat×LV))(b:List (Nat×List AV)):Fr:=⟨Fk l,K4 b⟩
def Mz(A:Fr):List (Nat×LV)->Prop
  |[]=>True
  |(j,x)::l=>LV.le (A.t j) x/\Mz A l
def M4(A:Fr):List (Nat×List AV)->Prop
  |[]=>True
  |(j,x)::l=>A.bx j=some x/\M4 A l
def yjj{A:Fr}:∀{l:List (Nat×LV)},Mz A l->∀i,LV.le (A.t i) (Fk l i):=by
  intro l;induction l with
  |nil=>intro _ i;exact LV.le_any _
  | cons p l ih=>
    obtain⟨j,x⟩:=p;intro h i;simp only[Fk];by_cases hi:i=j
    · subst hi;simp only[Fb6,cond_true];exact h.1
    · simp only[q9 hi,cond_false];exact ih h.2 i
def yjk{A:Fr}:∀{l:List (Nat×List AV)},M4 A l->∀i x,K4 l i=some x->A.bx i=some x:=by
  intro l;induction l with
  |nil=>intro _ i x h;trivial
  | cons p l ih=>
    obtain⟨j,y⟩:=p;intro h i x hx;simp only[K4]at hx;by_cases hi:i=j
    · subst hi;simp only[Fb6,cond_true]at hx;rw[<-hx];exact h.1
    · simp only[q9 hi,cond_false]at hx;exact ih h.2 i x hx
def Sim.fits{n:SN}{Oth M:BB}{A:Fr}{st st':Store}{a:Act}{w:World}(h:Sim n Oth A st M a w){l:List (Nat×LV)}{b:List (Nat×List AV)}(ht:Mz A l)(hb:M4 A b)(hs:st.Has st'):Sim n Oth (Hb l b) st' M a w:=by
  obtain⟨β,s⟩:=h;have hbx:∀k x,K4 b k=some x->A.bx k=some x:=yjk hb;have hne:∀k,K4 b k≠none->A.bx k≠none:=λk hk=>by
    cases hl:K4 b k with
    |none=>grind
    |some x=>grind
  exact⟨β,
    { tsz:=s.tsz
      dfr:=s.dfr
      tm:=λi=>yjj ht i _ _ _ _ (s.tm i)
      bx:=λk x hk=>s.bx k x (hbx k x hk)
      inj:=λk k' h1 h2=>s.inj k k' (hne k h1) (hne k' h2)
      sep:=λk b hk hb=>s.sep k b (hne k hk) (by
        rcases hb with hb|hb
        · cases ho:st'.obj b with
          |none=>grind
          |some x=>exact .inl (by rw[hs.obj b x ho];simp)
        · cases ho:st'.tok b with
          |none=>grind
          |some x=>exact .inr (by rw[hs.tok b x ho];simp))
      sto:=s.sto.weaken hs}⟩
def AWp.weaken{code:Code}{Q:Exit->Fr->Store->Prop}{A:Fr}{st st':Store}{l:List (Nat×LV)}{b:List (Nat×List AV)}(h:AWp P c code Q (Hb l b) st')(ht:Mz A l)(hb:M4 A b)(hs:st.Has st'):AWp P c code Q A st:=
  ⟨λOth M a w sim=>h.out Oth M a w (sim.fits ht hb hs)⟩
structure LoopHead(σ:Type) where
  t:σ->List (Nat×LV)
  bx:σ->List (Nat×List AV)
  inv:σ->Store->Prop
  μ:σ->Nat
def LoopHead.at{σ:Type}(H:LoopHead σ)(A:Fr)(st:Store)(p:σ->Prop):Prop:=
  ∃s,p s/\H.inv s st/\Mz A (H.t s)/\M4 A (H.bx s)
def ru{σ:Type}(H:LoopHead σ)(s:σ)(Q:Exit->Fr->Store->Prop):Exit->Fr->Store->Prop
  |.normal=>λA st=>H.at A st λs'=>H.μ s'<H.μ s
  |e=>Q e
def AWp.loop{σ:Type}(H:LoopHead σ){b:Code}{Q:Exit->Fr->Store->Prop}{A:Fr}{st:Store}(hI:qe P c.I)(h0:H.at A st λ_=>True)
    (round:∀s st,H.inv s st->vc P c b (ru H s Q) (Hb (H.t s) (H.bx s)) st):AWp P c (.loop b) Q A st:=by
  obtain⟨s0,_,hi0,ht0,hb0⟩:=h0;refine⟨λOth M a w sim=>?_⟩
  refine wpIn_loop_ghost (λn a' w'=>∃s st' M',H.μ s=n/\H.inv s st'/\Sim c.N Oth (Hb (H.t s) (H.bx s)) st' M' a' w'/\Chg M w M' w') (H.μ s0)
    ⟨s0,st,M,rfl,hi0,sim.fits ht0 hb0 (Store.Has.refl st),Chg.refl M w⟩ ?_
  rintro n a' w' ⟨s,st',M',rfl,hi,hsim,hchg⟩;refine Code.wpF_mono ?_ ((Wv hI b _ _ st' (round s st' hi)).out Oth M' a' w' hsim);rintro e a'' w'' ⟨A'',st'',M'',h1,h2,h3⟩;cases e with
  | normal=>
    obtain⟨s',hlt,hi',ht',hb'⟩:=h1;exact⟨H.μ s',hlt,s',st'',M'',rfl,hi',h2.fits ht' hb' (Store.Has.refl st''),hchg.trans h3⟩
  |_=>exact⟨A'',st'',M'',h1,h2,hchg.trans h3⟩
end
section
variable {P:Program} {c:Cfg}
def AWp.of_vc(hI:qe P c.I){code:Code}{Q:Exit->Fr->Store->Prop}{A:Fr}{st:Store}(h:vc P c code Q A st):AWp P c code Q A st:=Wv hI code Q A st h
def AWp.seq{x y:Code}{Q:Exit->Fr->Store->Prop}{A:Fr}{st:Store}(h:AWp P c x (Re (AWp P c y Q) Q) A st):AWp P c (.seq x y) Q A st:=by
  refine⟨λOth M a w sim=>wpIn_seq (Code.wpF_mono ?_ (h.out Oth M a w sim))⟩;rintro e a' w' ⟨A',st',M',h1,h2,h3⟩;cases e with
  | normal=>
    refine Code.wpF_mono ?_ ((AWp.out h1) Oth M' a' w' h2);rintro e a'' w'' ⟨A'',st'',M'',h4,h5,h6⟩;exact⟨A'',st'',M'',h4,h5,h3.trans h6⟩
  |_=>exact⟨A',st',M',h1,h2,h3⟩
theorem AWp.block{id:Nat}{b:Code}{Q:Exit->Fr->Store->Prop}{A:Fr}{st:Store}(h:AWp P c b (Sv id Q) A st):AWp P c (.block id b) Q A st:=by
  refine⟨λOth M a w sim=>wpIn_block (Code.wpF_mono ?_ (h.out Oth M a w sim))⟩;rintro e a' w' ⟨A',st',M',h1,h2,h3⟩;cases e with
  | exit id'=>
    simp only[Sv]at h1;simp only[Exit.inBlock];by_cases he:id'=id
    · subst he
      simp only[Fb6,cond_true]at h1;grind
    · simp only[q9 he,cond_false]at h1
      grind
  |_=>exact⟨A',st',M',h1,h2,h3⟩
structure Meet(σ:Type) where
  t:σ->List (Nat×LV)
  bx:σ->List (Nat×List AV)
  inv:σ->Store->Prop
def Meet.at{σ:Type}(H:Meet σ)(A:Fr)(st:Store):Prop:=∃s,H.inv s st/\Mz A (H.t s)/\M4 A (H.bx s)
def AWp.meet{σ:Type}(H:Meet σ)(hI:qe P c.I){x y:Code}{Q:Exit->Fr->Store->Prop}{A:Fr}{st:Store}(hx:vc P c x (Re H.at Q) A st)
    (hy:∀s st',H.inv s st'->AWp P c y Q (Hb (H.t s) (H.bx s)) st'):AWp P c (.seq x y) Q A st:=by
  refine AWp.seq ((AWp.of_vc hI hx).mono λe A' st' h=>?_);cases e with
  | normal=>
    obtain⟨s,h1,h2,h3⟩:=h;exact AWp.weaken (hy s st' h1) h2 h3 (Store.Has.refl st')
  |_=>exact h
end
section
variable {P:Program}
def gz(P:Program)(t:TypeId):Bool:=
  !P.stoodInHeld t && !P.eqGuardType P.depth t && (match P.underlying t with | some (.struct fs) => fs.toList.all fun f => f.name != "_" | _ => true)
def Wn(z:Value)(d:Ty):Bool:=match z with|.agg _=>Cr d|_=> !Cr d
def infoOf(P:Program)(t:TypeId)(eq:Bool):Option TI:=
  match P.info? t,P.underlying t with
  | some inf,some d=>match inf.zero with
    |some z=>bif Nat.beq z.cells.toList.length inf.size&&(!eq||gz P t)&&Wn z (Ci d)then some {ty:=Ci d,size:=inf.size,bytes:=inf.bytes,zero:=z.cells.toList,eq:=eq}else none
    |none=>none
  |_,_=>none
def yg6{t:TypeId}{eq:Bool}{i:TI}(h:infoOf P t eq=some i):TIok P t i:=by
  unfold infoOf at h;split at h
  · rename_i inf d hinf hd
    split at h
    · rename_i z hz
      cases hb:(Nat.beq z.cells.toList.length inf.size&&(!eq||gz P t)&&Wn z (Ci d))with
      |false=>grind
      | true=>
        rw[hb]at h;simp only[cond_true,Faj]at h;subst h;simp only[Fay]at hb;obtain⟨⟨h2,h3⟩,h4⟩:=hb;refine⟨⟨inf,hinf,rfl,rfl,z,hz,rfl⟩,⟨d,hd,rfl⟩,(wj _ _).1 h2,λinf' z' hi' hz'=>?_,λhe=>?_⟩
        · rw[hinf]at hi'
          cases hi';rw[hz]at hz';cases hz';cases z with
          |agg cs=>exact .inl ⟨h4,cs,rfl⟩
          |_=>exact .inr ⟨by simpa [Wn]using h4,rfl⟩
        simp only at he;subst he;simp only[Bool.not_true,Fdr,gz,Fay,Fb5]at h3;grind
    · cases h
  · cases h
inductive Tr where
  |nil
  |node (k:Nat) (l:Tr) (x:TI) (r:Tr)
def Tr.get:Tr->Nat->Option TI
  |.nil,_=>none
  |.node k l x r,t=>bif Nat.beq t k then some x else bif Nat.blt t k then l.get t else r.get t
def Tr.all(P:Program):Tr->Prop
  |.nil=>True
  |.node k l x r=>infoOf P k x.eq=some x/\l.all P/\r.all P
theorem Tr.ok:∀(tr:Tr),tr.all P->qe P tr.get:=by
  intro tr;induction tr with
  |nil=>intro _ t i h;cases h
  | node k l x r ihl ihr=>
    rintro⟨h1,h2,h3⟩ t i h;simp only[Tr.get]at h;by_cases ht:t=k
    · subst ht
      simp only[Fb6,cond_true,Faj]at h;subst h;exact yg6 h1
    · simp only[q9 ht,cond_false]at h
      cases hb:Nat.blt t k with
      |true=>rw[hb]at h;exact ihl h2 t i h
      |false=>rw[hb]at h;exact ihr h3 t i h
inductive Tr2 where
  |nil
  |node (l:Tr2) (x:Option TI) (r:Tr2)
def Tr.look(P:Program):Tr->Tr2
  |.nil=>.nil
  |.node k l x r=>.node (l.look P) (infoOf P k x.eq) (r.look P)
def Tr.vals:Tr->Tr2
  |.nil=>.nil
  |.node _ l x r=>.node l.vals (some x) r.vals
def Tr.of_look:∀(t:Tr),t.look P=t.vals->t.all P
  |.nil,_=>True.intro
  | .node k l x r,h=>by simp only[Tr.look,Tr.vals,Tr2.node.injEq]at h;exact⟨h.2.1,Tr.of_look l h.1,Tr.of_look r h.2.2⟩
end
section
variable {st st':Store} {k:Nat} {v:AV}
def App(k:Nat)(st:Store)(v:AV)(rows:List (List AV))(st':Store):Prop:=
  (v=.s (.slice none 0 0)/\rows=[]/\st'=st)\/Owned k st v rows st'
def App.start(k:Nat)(st:Store):App k st (.s (.slice none 0 0)) [] st:=.inl ⟨rfl,rfl,rfl⟩
theorem zu6{b:Nat}{x:Option Nat}(h:st.tok b=none):(st.sT b x).sT b none=st:=by
  unfold Store.sT
  congr
  grind[q9]
theorem App.has{rows:List (List AV)}(h:App k st v rows st'):st'.Has st:=by
  rcases h with⟨_,_,rfl⟩|⟨_,_,rfl⟩|⟨_,b,hb,_,rfl⟩
  · exact Store.Has.refl _
  · exact Store.Has.refl _
  · refine⟨λ_ _ h=>h,λi x h=>?_⟩
    have:i≠b:=λe=>by rw[e,hb.2]at h;cases h
    simpa [Store.sT,q9 this]using h
def App.le{rows:List (List AV)}(h:App k st v rows st'):AV.le v (.lst k rows none):=by
  rcases h with⟨rfl,rfl,_⟩|⟨rfl,rfl,_⟩|⟨_,b,hb,rfl,_⟩
  · exact AV.le_nil k
  · intro w T v h
    cases h with
    | emp a h=>
      cases a with
      |none=>exact .nil k none
      | some a=>
        obtain⟨b,off,spot⟩:=a;simp_all[VRel.empty]
  · exact AV.le_tok _ _ _
def Ba{c:Cfg}{e:TypeId}{ie:TI}{x:LV}{K:Ja}{rows rows':List (List AV)}(h:App ie.size st v rows st')(hie:c.I e=some ie)(hx:vz ie.size x=some rows')
    (hroom:room (rows.length+rows'.length) ie.bytes) (hK:∀v2 st2,App ie.size st v2 (rows++rows') st2->K v2 st2) {P:Program} (hp:Nat.blt 0 ie.size=true:=by rfl):appendK P c st' e (.av v) x K:=by
  refine⟨.inl (za ie hie ?_)⟩;rcases h with⟨rfl,rfl,rfl⟩|⟨rfl,rfl,rfl⟩|⟨hne,b,hb,rfl,rfl⟩
  · exact za rows' hx ⟨δ,λv st2 ho=>hK v st2 (.inr δ)⟩
  · exact za rows' hx ⟨δ,λv st2 ho=>hK v st2 (.inr δ)⟩
  · show(bif Nat.beq ie.size ie.size&&Nat.blt 0 ie.size then _ else False)
    rw[Fb6,hp,Bool.and_self,cond_true];refine za rows' hx ⟨by simp[Store.sT],δ,λv st2 ho=>hK v st2 (.inr ?_)⟩
    rwa [zu6 hb.2]at ho
end
section
variable {P:Program} {c:Cfg}
theorem Sl{ev ev':Operand->LV}{l:List Operand}(h:∀x∈l,ev' x=ev x):
    (l.mapM λx=>(ev' x).toAV)=(l.mapM λx=>(ev x).toAV):=by
  induction l with
  |nil=>rfl
  | cons a l ih=>
    grind
theorem yen{ev ev':Operand->LV}{x:Option Operand}(h:∀y∈x.toArray,ev' y=ev y):Gf ev' x=Gf ev x:=by
  cases x with
  |none=>rfl
  |some y=>simp only[Gf];grind
def mr{ev:Operand->LV}{bx:Nat->Option (List AV)}{st:Store}{d:Nat}{op:Op}{K K':LV->Prop}(hI:qe P c.I)(hK:∀x,K x->K' x)(h:vcV c ev bx st d op K):vcV c ev bx st d op K':=by obtain⟨x,hx,hx',_⟩:=Wx hI op h;grind
def mv{ev ev':Operand->LV}{bx:Nat->Option (List AV)}{st:Store}{d:Nat}{op:Op}{K:LV->Prop}(h:∀x∈op.operands,ev' x=ev x)(hv:vcV c ev bx st d op K):vcV c ev' bx st d op K:=by
  cases op<;>simp only[Op.operands]at h<;>first|exact hv|skip
  case move x=>simp_all[vcV]
  case assign x=>simp_all[vcV]
  case pick a b e=>simp_all[vcV]
  case load t x=>simp_all[vcV]
  case nilCheck x=>simp_all[vcV]
  case binOp op t x y yt=>simp_all[vcV]
  case unOp op t x=>simp_all[vcV]
  case convert s t x=>simp_all[vcV]
  case fieldAddr s x f=>simp_all[vcV]
  case field s x f=>simp_all[vcV]
  case indexAddr t x i=>simp_all[vcV]
  case index t x i=>simp_all[vcV]
  case extract x i=>simp_all[vcV]
  case slice t x lo hi mx=>
    simp_all[vcV,yen]
  case build t ps=>
    simp only[vcV]at hv⊢;have e:(ps.toList.map λp=>(p.1,ev' p.2))=(ps.toList.map λp=>(p.1,ev p.2)):=Fby λp hp=>δ
    rwa [e]
  case makeFunc f first cap=>
    cases f<;>simp only[vcV]at hv⊢<;>try exact hv
    have e:first.toList.mapM (λx=>(ev' x).toV)=first.toList.mapM λx=>(ev x).toV:=by
      have:∀l:List Operand,(∀x∈l,ev' x=ev x)->l.mapM (λx=>(ev' x).toV)=l.mapM λx=>(ev x).toV:=λl=>by
        induction l with
        |nil=>intro _;rfl
        |cons a l ih=>intro hl;rw[List.mapM_cons,List.mapM_cons,hl a φ,ih λx hx=>hl x (by simp[hx])]
      exact this _ λx hx=>h x (by simp;exact .inl θn)
    rwa [Sl (ev:=ev) (ev':=ev') λx hx=>h x (by simp;exact .inr θn),e]
  case call cl=>
    obtain⟨callee,args,argTypes⟩:=cl;simp only[vcV,Hx]at hv⊢;cases callee with
    |value f=>exact hv
    |invoke r m=>exact hv
    | builtin b=>
      have ha:∀x∈args,ev' x=ev x:=λx hx=>h x (by simp[Call.operands,hx]);cases b<;>simp only at hv⊢<;>try exact hv
      case len=>
        obtain⟨t,ht,hv⟩:=zy hv;obtain⟨i,hi,hv⟩:=zy hv;obtain⟨x,hx,hv⟩:=zy hv;refine za t ht (za i hi (za x hx ?_))
        rwa [ha x (Fd2 hx)]
      case cap=>
        obtain⟨t,ht,hv⟩:=zy hv;obtain⟨i,hi,hv⟩:=zy hv;obtain⟨x,hx,hv⟩:=zy hv;refine za t ht (za i hi (za x hx ?_))
        rwa [ha x (Fd2 hx)]
      case min=>rwa [show args.toList.map ev'=args.toList.map ev from Fby λx hx=>ha x θn]
      case max=>rwa [show args.toList.map ev'=args.toList.map ev from Fby λx hx=>ha x θn]
def Mk:Op->Bool
  |.load ..=>false
  |.call cl=>match cl.callee with|.builtin .min=>true|.builtin .max=>true|_=>false
  |_=>true
def mq{ev:Operand->LV}{bx bx':Nat->Option (List AV)}{st st':Store}{d:Nat}{op:Op}{K:LV->Prop}(hn:Mk op=true)(hv:vcV c ev bx st d op K):vcV c ev bx' st' d op K:=by
  cases op<;>first|exact hv|skip
  case load t x=>simp[Mk]at hn
  case call cl=>
    obtain⟨callee,args,argTypes⟩:=cl;simp only[vcV,Hx]at hv⊢;cases callee with
    |value f=>exact hv
    |invoke r m=>exact hv
    |builtin b=>cases b<;>simp[Mk]at hn<;>exact hv
def bsK(c:Cfg)(ev:Operand->LV)(t:TypeId)(n:Nat)(parts:Array (Nat×Operand))(K:LV->Prop):Prop:=
  optK (c.I t) λi=>match i.ty with
    | .slice e=>optK (c.I e) λie=>optK (Il ie.size n (List.replicate n (Bt ie)) (parts.toList.map λp=>(p.1,ev p.2))) λrows=>
      bif rows.flatten.all AV.one then n*ie.size<=16777216/\(match rows with
        |[]=>K (.av .emp)
        |_::_=>K (.av (.lst ie.size rows none)))else False
    |_=>False
def vcW(c:Cfg)(ev:Operand->LV)(bx:Nat->Option (List AV))(st:Store)(d:Nat)(op:Op)(K:LV->Prop):Prop:=
  match op with
  |.buildSlice t n parts=>bsK c ev t n parts K
  |op=>vcV c ev bx st d op K
def zdx{ev:Operand->LV}{t:TypeId}{n:Nat}{parts:Array (Nat×Operand)}{K:LV->Prop}(h:bsK c ev t n parts K):
    ∃ (i ie:TI) (e:TypeId) (rows:List (List AV)) (x:LV),c.I t=some i/\i.ty=.slice e/\c.I e=some ie/\Il ie.size n (List.replicate n (Bt ie)) (parts.toList.map λp=>(p.1,ev p.2))=some rows/\rows.flatten.all AV.one=true∧
      n*ie.size<=16777216/\x=(match rows with|[]=>.av .emp|_::_=>.av (.lst ie.size rows none))/\K x/\∀K':LV->Prop,K' x->bsK c ev t n parts K':=by
  unfold bsK at h;obtain⟨i,hi,h⟩:=zy h;split at h
  · rename_i e hty
    obtain⟨ie,hie,h⟩:=zy h;obtain⟨rows,hrows,h⟩:=zy h;cases hone:rows.flatten.all AV.one with
    |false=>rw[hone]at h;exact h.elim
    | true=>
      rw[hone]at h;simp only[cond_true]at h;obtain⟨hroom,h⟩:=h;refine⟨i,ie,e,rows,_,hi,hty,hie,hrows,hone,hroom,rfl,by cases rows<;>exact h,λK' h'=>za i hi ?_⟩;simp only[hty];refine za ie hie (za rows hrows ?_);rw[hone];exact⟨hroom,by cases rows<;>exact h'⟩
  · exact h.elim
def Ww{ev ev':Operand->LV}{bx:Nat->Option (List AV)}{st:Store}{d:Nat}{op:Op}{K:LV->Prop}(h:∀x∈op.operands,ev' x=ev x)(hv:vcW c ev bx st d op K):vcW c ev' bx st d op K:=by
  cases op<;>first|exact mv (bx:=bx) (st:=st) (d:=d) (K:=K) h (show vcV c ev bx st d _ K from hv)|skip
  case buildSlice t n parts=>
    have e:(parts.toList.map λp=>(p.1,ev' p.2))=(parts.toList.map λp=>(p.1,ev p.2)):=Fby λp hp=>by rw[h p.2 (by simp[Op.operands];exact⟨p.1,by simpa using hp⟩)]
    simp only[vcW]at hv⊢;unfold bsK at hv⊢
    rwa [e]
theorem zf1{ev:Operand->LV}{bx bx':Nat->Option (List AV)}{st st':Store}{d:Nat}{op:Op}{K:LV->Prop}(hn:Mk op=true)(hv:vcW c ev bx st d op K):vcW c ev bx' st' d op K:=by
  cases op<;>first|exact mq (bx:=bx) (st:=st) (d:=d) (K:=K) hn (show vcV c ev bx st d _ K from hv)|exact hv|skip
  case call cl=>exact mq (bx:=bx) (bx':=bx') (st:=st) (st':=st') (d:=d) (op:=.call cl) hn hv
end
inductive Sched where
  |done
  |v (i:Nat) (r:Sched)
  |e (i:Nat) (chk:List Nat) (r alt:Sched)
  |stop
def sv:List Nat->Sched->Sched
  |[],s=>s
  |i::l,s=>.v i (sv l s)
def isV(c:Cfg)(o:Oper):Bool:=
  match o.op with
  |.alloc _=>false
  |.box _ _=>false
  |.store _ _ _=>false
  |.assign _=>false
  |.convert s t _=> !Nat.beq s t
  |.buildSlice _ _ _=>match o.dst with|some d=> !c.G.contains d|none=>false
  | .call cl=>match cl.callee with
    |.builtin .len=>true
    |.builtin .cap=>true
    |.builtin .min=>true
    |.builtin .max=>true
    |_=>false
  |.mapUpdate ..|.insert ..|.mapEntry ..|.entryStore ..|.makeMap ..|.makeSlice ..|.lookup ..|.range ..|.next ..|.entry ..|.makeInterface ..|.typeAssert ..|.select ..|.go ..|.defer ..|.panic ..|.send ..|.recv ..|.ready ..|.waits ..|.makeChan ..=>false
  |_=>true
def jr(ops:Array Oper)(i:Nat):List Nat:=
  match ops[i]? with
  |some o=>o.after.toList.filterMap λe=>bif Region.binds .any e then some e.on else none
  |none=>[]
def mem(i:Nat):List Nat->Bool
  |[]=>false
  |j::l=>bif Nat.beq i j then true else mem i l
theorem mem_iff(i:Nat):∀(l:List Nat),mem i l=true↔i∈l:=by
  intro l;induction l with
  |nil=>simp[mem]
  | cons j l ih=>
    simp_all[mem]
def sub(l m:List Nat):Bool:=l.all λi=>mem i m
def Pp:Sched->List Nat
  |.e i _ _ alt=>i::Pp alt
  |_=>[]
def Oh(ops:Array Oper)(i:Nat):List Nat:=
  (List.range i).reverse.foldl (λacc j=>bif mem j acc then jr ops j++acc else acc) (jr ops i)
def Pe(c:Cfg)(ops:Array Oper)(i:Nat)(chk L:List Nat):Bool:=
  !mem i L&&Nat.blt i ops.size&&sub (jr ops i) L&&(match ops[i]? with|some o=> !isV c o|none=>false)&&
  L.all λj=>mem j (Oh ops i)||mem j chk||(match ops[j]?,ops[i]? with
    |some o,some o'=> !isV c o||(Mk o.op&&(match o'.op with|.alloc _=>false|.box _ _=>false|_=>true))
    |_,_=>false)
def Ac(c:Cfg)(ops:Array Oper):Sched->List Nat->Bool->Bool
  |.done,L,first=>first&&(List.range ops.size).all λi=>mem i L
  |.v i r,L,first=>first&&(!mem i L&&Nat.blt i ops.size&&(match ops[i]? with|some o=>isV c o|none=>false)&&sub (jr ops i) L&&Ac c ops r (i::L) true)
  |.e i chk r alt,L,first=>Pe c ops i chk L&&Ac c ops r (i::L) true&&Ac c ops alt L false&&
      (!first||(List.range ops.size).all λj=>mem j L|| !sub (jr ops j) L||mem j (i::Pp alt))
  |.stop,_,first=> !first
def Dn(c:Cfg)(ops:Array Oper):Bool:=
  (List.range ops.size).all λi=>match ops[i]? with
    |none=>false
    | some o=>(jr ops i).all (λj=>Nat.blt j i)&&(match o.op with|.select ..=>false|.defer ..=>false|_=>true)&&(match o.dst with
      |none=> !isV c o
      | some t=>Nat.blt t c.n&& !mem t (o.looksAt ops)&&
        (List.range ops.size).all λk=>Nat.beq k i||(match ops[k]? with
          |none=>false
          |some o'=>(match o'.dst with|some t'=> !Nat.beq t t'|none=>true)&&(!mem t (o'.looksAt ops)||mem i (jr ops k)||(!isV c o&&mem k (jr ops i)))))
def Iv(ops:Array Oper)(o:Oper)(A:Fr)(go skip:Fr->Prop):Prop:=
  match o.guard with
  |none=>go A
  | some (j,want)=>optK ((ops[j]?).bind (·.dst)) λt=>
    match A.t t with
    |.av (.s (.bool b))=>Cv b (bif want then go (A.put t (kl true))else skip (A.put t (kl true))) (bif want then skip (A.put t (kl false))else go (A.put t (kl false)))
    |.und=>skip A
    |_=>False
def stands(c:Cfg)(ops:Array Oper)(A:Fr)(st:Store)(i:Nat):Prop:=
  optK ops[i]? λo=>optK o.dst λd=>Iv ops o A (λA=>vcW c A.ev A.bx st d o.op λx=>x=A.t d) λA=>A.t d=.und
def Kq(c:Cfg)(ops:Array Oper)(A:Fr)(st:Store):List Nat->Prop
  |[]=>True
  |i::l=>stands c ops A st i/\Kq c ops A st l
def wz(P:Program)(c:Cfg)(ops:Array Oper)(K:Fr->Store->Prop):Sched->Fr->Store->Prop
  |.done,A,st=>K A st
  |.v i r,A,st=>optK ops[i]? λo=>optK o.dst λd=>
      Iv ops o A (λA=>vcW c A.ev A.bx st d o.op λx=>wz P c ops K r (A.put d x) st) (λA=>wz P c ops K r (A.put d .und) st)
  |.e i chk r alt,A,st=>(optK ops[i]? λo=>
      Iv ops o A (λA=>Di P c o (λA' st'=>Kq c ops A' st' chk/\wz P c ops K r A' st') A st)
        λA=>xe A c.n o.dst .und λA'=>Kq c ops A' st chk/\wz P c ops K r A' st)/\wz P c ops K alt A st
  |.stop,_,_=>True
section
variable {P:Program} {c:Cfg} {ops:Array Oper}
def Bn(ops:Array Oper)(o:Oper)(A:Fr):Option Bool:=
  match o.guard with
  |none=>some true
  | some (j,want)=>match(ops[j]?).bind (·.dst)with
    |none=>none
    | some t=>match A.t t with
      |.av (.s (.bool b))=>some (b==want)
      |.und=>some false
      |_=>none
theorem guardK_iff{o:Oper}{A:Fr}{go skip:Fr->Prop}:Iv ops o A go skip↔(Bn ops o A=some true/\go A)\/(Bn ops o A=some false/\skip A):=by
  unfold Iv Bn;cases hg:o.guard with
  |none=>simp
  | some jw=>
    obtain⟨j,want⟩:=jw;simp only;cases hd:(ops[j]?).bind (·.dst)with
    |none=>simp[optK]
    | some t=>
      simp only[optK];generalize hy:A.t t=y;split
      · rename_i b
        cases b with
        |true=>grind[Fr.put_self,kl,Cv]
        |false=>grind[Fr.put_self,kl,Cv]
      · simp
      simp
theorem Vb{o:Oper}{B:Fr}{st:Store}{n:SN}{Oth M:BB}{a:Act}{w:World}(sim:Sim n Oth B st M a w){b:Bool}(h:Bn ops o B=some b):Region.wanted o (yielded ops a.tmps)=b:=by
  obtain⟨β,s⟩:=sim;unfold Bn at h;unfold Region.wanted;cases hg:o.guard with
  |none=>grind
  | some jw=>
    obtain⟨j,want⟩:=jw;rw[hg]at h;simp only at h⊢;cases hd:(ops[j]?).bind (·.dst)with
    |none=>grind
    | some t=>
      rw[hd]at h;simp only at h;have hs:=s.tm t;split at h
      · rename_i b' hb
        simp at h;rw[hb]at hs;rw[zbm hd (VRel.eq_s hs),<-h];simp
      · rename_i hb
        simp at h;rw[hb]at hs;rw[zbl hd hs,h];rfl
      · cases h
def ir{b:Bool}{p:Prop}(h:bif b then p else False):b=true/\p:=by grind
def zda{b:Bool}{p:Prop}(hb:b=true)(h:p):bif b then p else False:=by grind
def qo(A:Fr)(D:List Nat):Fr:=⟨λt=>bif mem t D then .any else A.t t,A.bx⟩
theorem Ik{t:Nat}{D:List Nat}(h:t∉D):mem t D=false:=by grind[mem_iff]
theorem Vg{A:Fr}{D:List Nat}{t:Nat}(h:t∉D):(qo A D).t t=A.t t:=by simp[qo,Ik h]
def yiy{A:Fr}{D:List Nat}{x:Operand}(h:∀t,x=.tmp t->t∉D):(qo A D).ev x=A.ev x:=by
  cases x with
  |tmp t=>exact Vg (h t rfl)
  |_=>rfl
theorem Hn{A:Fr}{D:List Nat}{d:Nat}(h:d∉D)(x:LV):(qo A D).put d x=qo (A.put d x) D:=by unfold qo Fr.put;grind[Ik,q9]
def zbw{A:Fr}{D:List Nat}{d:Nat}(h:d∉D)(l:List AV):(qo A D).newBx d l=qo (A.newBx d l) D:=by
  unfold qo Fr.newBx
  congr
  funext i
  by_cases hi:i=d
  · subst hi;simp[Ik h]
  · simp only[q9 hi,cond_false]
    cases mem i D<;>rfl
def D4(o:Oper)(A A':Fr):Prop:=(match o.op with|.alloc _=>False|.box _ _=>False|_=>True)->∀t,o.dst≠some t->A'.t t=A.t t
theorem K5{o:Oper}{A:Fr}{d:Nat}{x:LV}(hd:o.dst=some d):D4 o A (A.put d x):=λ_ t ht=>by grind[Fr.put,q9]
def fo{o:Oper}{A:Fr}:D4 o A A:=λ_ _ _=>rfl
def zf2(hI:qe P c.I){o:Oper}{K:Fr->Store->Prop}{A:Fr}{st:Store}{D:List Nat}(h:Di P c o K A st)(hop:∀x∈o.op.operands,∀t,x=.tmp t->t∉D)(hd:∀d,o.dst=some d->d∉D):
    Di P c o (λB' st'=>∃A',K A' st'/\B'=qo A' D/\D4 o A A') (qo A D) st:=by
  have hev:∀x∈o.op.operands,(qo A D).ev x=A.ev x:=λx hx=>yiy (hop x hx);have hputO:∀(x:LV) (st':Store),(xe A c.n o.dst x λA'=>K A' st')->xe (qo A D) c.n o.dst x λB'=>∃A',K A' st'/\B'=qo A' D/\D4 o A A':=by
    intro x st' hx;unfold xe at hx⊢;cases hdst:o.dst with
    |none=>rw[hdst]at hx;exact⟨A,hx,rfl,fo⟩
    | some d=>
      rw[hdst]at hx;obtain⟨hlt,hx⟩:=Ay hx;simp only[show Nat.blt d c.n=true from Fco hlt,cond_true];grind[Hn,K5]
  have hval:∀op',op'=o.op->(optK o.dst λd=>bif Nat.blt d c.n then vcV c A.ev A.bx st d op' (λx=>K (A.put d x) st)else False)->
      optK o.dst λd=>bif Nat.blt d c.n then vcV c (qo A D).ev (qo A D).bx st d op' (λx=>∃A',K A' st/\(qo A D).put d x=qo A' D/\D4 o A A')else False:=by
    rintro op' rfl hx;obtain⟨d,hdst,hx⟩:=zy hx;obtain⟨hlt,hx⟩:=Ay hx;refine za d hdst ?_;simp only[show Nat.blt d c.n=true from Fco hlt,cond_true];exact mr hI (λx hx=>⟨_,hx,Hn (hd d hdst) x,K5 hdst⟩) (mv hev hx)
  unfold Di at h⊢;have hX:vcX P c o K A st->vcX P c o (λB' st'=>∃A',K A' st'/\B'=qo A' D/\D4 o A A') (qo A D) st:=by
    intro h;obtain⟨vs,hvs,h⟩:=zy h
    have e:(o.op.operands.toList.mapM λx=>((qo A D).ev x).toAV)=o.op.operands.toList.mapM λx=>(A.ev x).toAV:=
      Sl λx hx=>hev x δ
    refine za vs δ ⟨λOth M w ρ hI' sto hr=>?_⟩;have:=h.out Oth M w ρ hI' sto hr
    have hpost:∀v w',xg st (λr st'=>xe A c.n o.dst (.av r) λA'=>K A' st') Oth M w v w'->xg st (λr st'=>xe (qo A D) c.n o.dst (.av r) λB'=>∃A',K A' st'/\B'=qo A' D/\D4 o A A') Oth M w v w':=
      λv w' ⟨r,st',M',h1,h2⟩=>⟨r,st',M',hputO _ st' h1,h2⟩
    grind
  cases hx:isX o.op with
  |true=>grind
  |false=>
  rw[hx]at h;replace h:F4 P c o K A st:=h;change F4 P c o (λB' st'=>∃A',K A' st'/\B'=qo A' D/\D4 o A A') (qo A D) st;unfold F4 at h⊢;cases ho:o.op with
  | alloc t=>
    simp only[ho,Gm]at h⊢;obtain⟨i,hi,h⟩:=zy h;obtain⟨d,hdst,h⟩:=zy h;obtain⟨hlt,h⟩:=Ay h;refine za i hi (za d hdst ?_);simp only[show Nat.blt d c.n=true from Fco hlt,cond_true];cases hg:c.G.contains d with
    |true=>rw[hg]at h;exact λb hb=>⟨_,h b hb,Hn (hd d hdst) _,λhh=>δ⟩
    |false=>rw[hg]at h;exact⟨_,h,zbw (hd d hdst) _,λhh=>δ⟩
  | box t x=>
    simp only[ho]at h⊢;rw[ho]at hev;obtain⟨d,hdst,h⟩:=zy h;obtain⟨hlt,h⟩:=Ay h;refine za d hdst ?_;simp only[show Nat.blt d c.n=true from Fco hlt,cond_true];rw[hev x θx];split at h
    · obtain⟨l,hl,h⟩:=zy h
      refine za l hl ?_;cases hg:c.G.contains d with
      |true=>rw[hg]at h;exact λb hb=>⟨_,h b hb,Hn (hd d hdst) _,λhh=>δ⟩
      |false=>rw[hg]at h;exact⟨_,h,zbw (hd d hdst) _,λhh=>δ⟩
    omega
  | buildSlice t n parts=>
    simp only[ho]at h⊢;rw[ho]at hev;have e:(parts.toList.map λp=>(p.1,(qo A D).ev p.2))=(parts.toList.map λp=>(p.1,A.ev p.2)):=Fby λp hp=>by grind[Op.operands]
    rw[e];obtain⟨i,hi,h⟩:=zy h;obtain⟨d,hdst,h⟩:=zy h;obtain⟨hlt,h⟩:=Ay h;refine za i hi (za d hdst ?_);simp only[show Nat.blt d c.n=true from Fco hlt,cond_true];split at h
    · obtain⟨ie,hie,h⟩:=zy h
      obtain⟨rows,hrows,h⟩:=zy h;refine za ie hie (za rows hrows ?_);cases hone:rows.flatten.all AV.one with
      |false=>grind
      | true=>
        rw[hone]at h;simp only[cond_true]at h⊢;refine⟨h.1,?_⟩;replace h:=h.2;cases rows with
        |nil=>grind[Hn,K5]
        | cons r rs=>
          cases hg:c.G.contains d with
          | true=>
            cases hg2:c.G.contains (d+1000000)with
            |true=>simp only[hg,hg2,cond_true]at h⊢;grind[Hn,K5]
            |false=>simp only[hg,hg2,cond_true,cond_false]at h⊢;grind[Hn,K5]
          |false=>simp only[hg,cond_false]at h⊢;grind[Hn,K5]
    omega
  | store t p x=>
    simp only[ho]at h⊢;rw[ho]at hev;cases hdst:o.dst with
    |some d=>grind
    | none=>
      rw[hdst]at h;simp only[Option.isNone_none,cond_true]at h⊢;obtain⟨i,hi,h⟩:=zy h;refine za i hi ?_;rw[hev x θx];split at h
      · unfold Gx at h⊢
        rw[hev p θx];obtain⟨xs,hxs,h⟩:=zy h;refine za xs hxs ?_;cases hb:(Nat.beq xs.length i.size&&xs.all AV.one)with
        |false=>grind
        | true=>
          rw[hb]at h;simp only[cond_true]at h⊢;split at h
          · rename_i k off hp
            obtain⟨l,hl,h⟩:=zy h;refine za l hl ?_;cases hb2:Nat.ble (off+xs.length) l.length with
            |false=>grind
            |true=>rw[hb2]at h;simp only[cond_true,Gm]at h⊢;exact⟨_,h,rfl,λ_ _ _=>rfl⟩
          · obtain⟨y,hy,h⟩:=zy h
            refine za y hy ?_;cases y with
            |cells l=>simp only[Gm]at h⊢;exact⟨h.1,_,h.2,rfl,fo⟩
            |map es bs clock=>omega
            |iter m since seen last=>omega
            |ghost o gh=>omega
          omega
      omega
  | binOp op t x y yt=>
    simp only[ho]at h⊢;have hev':=hev;rw[ho]at hev';unfold V9 at h⊢;rw[hev' x θx,hev' y θx];split at h
    · obtain⟨i,hi,h⟩:=zy h
      refine za i hi ?_;cases hty:i.ty with
      | slice e=>
        rw[hty]at h;cases op with
        |eql=>simp_all
        |neq=>simp_all
        |_=>omega
      |_=>grind
    grind
  | convert s t x=>
    simp only[ho]at h⊢;have hev':=hev;rw[ho]at hev';unfold Vx at h⊢;rw[hev' x θx];split at h
    · obtain⟨hb,h⟩:=ir h
      refine zda hb ?_;obtain⟨i,hi,h⟩:=zy h;refine za i hi ?_;split at h
      · obtain⟨ie,hie,h⟩:=zy h
        obtain⟨hu,h⟩:=ir h;obtain⟨top,htop,h⟩:=zy h;simp_all
      omega
    · exact hX h
    · exact hX h
    grind
  | call cl=>
    simp only[ho]at h⊢;have hev':=hev;rw[ho]at hev';cases hcl:cl.callee with
    | value f=>
      simp only[hcl]at h⊢;rw[hev' f (by simp[Op.operands,Call.operands,hcl])];split at h
      · obtain⟨vs,hvs,h⟩:=zy h
        have e:(cl.args.toList.mapM λx=>((qo A D).ev x).toAV)=cl.args.toList.mapM λx=>(A.ev x).toAV:=
          Sl λx hx=>hev' x ψo
        rw[e];refine za vs hvs ⟨λOth M w us sto hr=>?_⟩;have:=h.out Oth M w us sto hr
        have hpost:∀v w',xg st (λr st'=>xe A c.n o.dst (.av r) λA'=>K A' st') Oth M w v w'->xg st (λr st'=>xe (qo A D) c.n o.dst (.av r) λB'=>∃A',K A' st'/\B'=qo A' D/\D4 o A A') Oth M w v w':=
          λv w' ⟨r,st',M',h1,h2⟩=>⟨r,st',M',hputO _ st' h1,h2⟩
        generalize(callFunc _ us).run P w=res at*;cases res with
        |halt x w'=>trivial
        | ok nx w'=>
          cases nx with
          |enter f as=>exact Calls.mono this λe w'' ⟨v,he,hp⟩=>⟨v,he,hpost v w'' hp⟩
          |value v=>exact hpost v w' this
          |_=>trivial
      omega
    | invoke y m=>
      simp only[hcl]at h⊢;unfold Sq at h⊢;rw[hev' y (by simp[Op.operands,Call.operands,hcl])];split at h
      · obtain⟨vs,hvs,g,x,hm,h⟩:=zy h
        have e:(cl.args.toList.mapM λx=>((qo A D).ev x).toAV)=cl.args.toList.mapM λx=>(A.ev x).toAV:=
          Sl λx hx=>hev' x ψo
        rw[e];refine za vs hvs ⟨g,x,hm,⟨λOth M w us sto hr=>?_⟩⟩;have:=h.out Oth M w us sto hr
        have hpost:∀v w',xg st (λr st'=>xe A c.n o.dst (.av r) λA'=>K A' st') Oth M w v w'->xg st (λr st'=>xe (qo A D) c.n o.dst (.av r) λB'=>∃A',K A' st'/\B'=qo A' D/\D4 o A A') Oth M w v w':=
          λv w' ⟨r,st',M',h1,h2⟩=>⟨r,st',M',hputO _ st' h1,h2⟩
        generalize(callFunc _ us).run P w=res at*;cases res with
        |halt x w'=>trivial
        | ok nx w'=>
          cases nx with
          |enter f as=>exact Calls.mono this λe w'' ⟨v,he,hp⟩=>⟨v,he,hpost v w'' hp⟩
          |value v=>exact hpost v w' this
          |_=>trivial
      omega
    | builtin b=>
      cases b with
      | append=>
        simp only[hcl]at h⊢;obtain⟨t,ht,h⟩:=zy h;obtain⟨i,hi,h⟩:=zy h;obtain⟨s,hs,h⟩:=zy h;obtain⟨x,hx,h⟩:=zy h;refine za t ht (za i hi (za s hs (za x hx ?_)));rw[hev' s (by simp[Op.operands,Call.operands,hcl];exact Fd2 hs),hev' x (by simp[Op.operands,Call.operands,hcl];exact Fd2 hx)];split at h
        · cases hb:(cl.argTypes[1]?.bind c.I).any N6 with
          |false=>rw[hb]at h;exact hX h
          |true=>
          rw[hb]at h;replace h:=h.out;rcases h with h|⟨s',x',hes,hex,h⟩;rotate_left
          · refine⟨.inr ⟨s',x',hes,hex,h.has,λie hie Oth M w sv xv at' ty args t sto h1 h2 h3 h4 h5 h6 h7 h8=>?_⟩⟩
            obtain⟨v,w',hr,r,st',M',hK,hp⟩:=h.out ie hie Oth M w sv xv at' ty args t sto h1 h2 h3 h4 h5 h6 h7 h8;exact⟨v,w',hr,r,st',M',hputO _ st' hK,hp⟩
          refine⟨.inl ?_⟩;unfold ln at h⊢;obtain⟨ie,hie,h⟩:=zy h;refine za ie hie ?_;split at h
          · obtain⟨rows,hrows,hroom,h⟩:=zy h
            exact za rows hrows ⟨hroom,λv st' ho=>hputO _ st' (h v st' ho)⟩
          · obtain⟨rows,hrows,hroom,h⟩:=zy h
            exact za rows hrows ⟨hroom,λv st' ho=>hputO _ st' (h v st' ho)⟩
          · rename_i k rows b hev2
            obtain⟨hk,h⟩:=ir h;obtain⟨rows',hrows,htok,hroom,h⟩:=zy h;exact zda hk (za rows' hrows ⟨htok,hroom,λv st' ho=>hputO _ st' (h v st' ho)⟩)
          · exact h.elim
        · exact h.elim
      |_=>simp only[hcl]at h⊢;have:=hval o.op rfl (by rw[ho];exact h);rw[ho]at this;exact this
  |_=>simp only[ho]at h⊢;exact hval _ ho.symm h
end
section
variable {P:Program} {c:Cfg} {ops:Array Oper}
def all_range{n:Nat}{p:Nat->Bool}:(List.range n).all p=true↔∀i,i<n->p i=true:=φ
structure OpFacts(c:Cfg)(ops:Array Oper)(i:Nat)(o:Oper):Prop where
  lt:∀j∈jr ops i,j<i
  sel:∀cs b,o.op≠.select cs b
  nd:∀cl,o.op≠.defer cl
  dst:isV c o=true->∃d,o.dst=some d
  dlt:∀d,o.dst=some d->d<c.n
  own:∀d,o.dst=some d->d∉o.looksAt ops
  one:∀d,o.dst=some d->∀k o',ops[k]?=some o'->k≠i->o'.dst≠some d
  look:∀d,o.dst=some d->∀k o',ops[k]?=some o'->k≠i->d∈o'.looksAt ops->i∈jr ops k\/(isV c o=false/\k∈jr ops i)
def Ie(h:Dn c ops=true){i:Nat}{o:Oper}(hi:ops[i]?=some o):OpFacts c ops i o:=by
  have hlt:i<ops.size:=(Fbt.1 hi).1;have h1:=all_range.1 h i hlt;simp only[hi,Fay,Fck]at h1;obtain⟨⟨hd,hs⟩,h2⟩:=h1;refine⟨λj hj=>Fbj (hd j hj),λcs b hop=>δ,λcl hop=>δ,λhv=>?_,λd hdst=>?_,λd hdst=>?_,λd hdst k o' hk hne=>?_,λd hdst k o' hk hne hl=>?_⟩
  · grind
  all_goals
    rw[hdst]at h2;simp only[Fay,Fb5]at h2;obtain⟨⟨h3,h4⟩,h5⟩:=h2
  · exact Fbj h3
  · intro hm
    rw[(mem_iff _ _).2 hm]at h4;cases h4
  all_goals
    have hklt:k<ops.size:=(Fbt.1 hk).1;have h6:=all_range.1 h5 k hklt;rw[hk]at h6;simp only[Bool.or_eq_true,q9 hne,Fah,false_or,Fay,Fb5]at h6
  · intro hd'
    simp_all
  grind[mem_iff]
def yls{p q:Nat->Bool}{i:Nat}:∀(l:List Nat),l.Nodup->i∈l->p i=true->q i=false->(∀j,j≠i->p j=q j)->l.countP p=l.countP q+1:=by
  intro l;induction l with
  |nil=>simp
  | cons a l ih=>
    grind[List.countP_congr]
def left(ops:Array Oper)(listed:Array Bool):Nat:=(List.range ops.size).countP λi=> !listed.getD i true
def Sm{listed:Array Bool}(hs:listed.size=ops.size){i:Nat}(hi:i<ops.size)(hl:listed.getD i true=false):left ops listed=left ops (listed.setIfInBounds i true)+1:=by
  unfold left;refine yls (i:=i) _ List.nodup_range (Fbd.2 hi) (by simp[hl]) ?_ λj hj=>?_
  · simp
  · rw[getD_set_ne true (Ne.symm hj)]
theorem zat{listed:Array Bool}(h:left ops listed=0){i:Nat}(hi:i<ops.size):listed.getD i true=true:=by grind[left,List.countP_eq_zero]
def least{p:Nat->Prop}:∀n,(∃i,i<n/\p i)->∃i,i<n/\p i/\∀j,j<i->¬p j:=by
  intro n;induction n with
  |zero=>simp
  | succ n ih=>
    rintro⟨i,h,hp⟩;by_cases hx:∃j,j<n/\p j
    · grind
    grind
def u9{i j:Nat}{o:Oper}(hi:ops[i]?=some o):j∈jr ops i↔∃e∈o.after,Region.binds .any e=true/\e.on=j:=by grind[jr]
theorem ready_iff{i:Nat}{listed:Array Bool}:i∈Region.ready .any ops listed↔listed.getD i true=false/\i<ops.size/\∀j∈jr ops i,listed.getD j false=true:=by
  rw[mem_ready];constructor
  · rintro⟨h1,o,ho,h2⟩
    refine⟨h1,(Fbt.1 ho).1,λj hj=>?_⟩;obtain⟨e,he,hb,rfl⟩:=(u9 ho).1 hj;grind
  · rintro⟨h1,hlt,h2⟩
    refine⟨h1,ops[i],Fbe hlt,λe he hb=>h2 _ ((u9 (Fbe hlt)).2 ⟨e,he,hb,rfl⟩)⟩
def Ax(ops:Array Oper)(U:List Nat):List Nat:=U.filterMap λi=>(ops[i]?).bind (·.dst)
def mem_dsts{U:List Nat}{t:Nat}:t∈Ax ops U↔∃k∈U,∃o,ops[k]?=some o/\o.dst=some t:=by grind[Ax]
def SimB.weaken{n:SN}{Oth M:BB}{β:Nat->Nat}{A B:Fr}{st:Store}{a:Act}{w:World}(h:SimB n Oth β A st M a w)(hb:B.bx=A.bx)(ht:∀t,A.t t=B.t t\/B.t t=.any):SimB n Oth β B st M a w where
  tsz:=h.tsz
  dfr:=h.dfr
  tm i:=by
    rcases ht i with h1|h1
    · rw[<-h1];exact h.tm i
    · rw[h1];trivial
  bx:=by rw[hb];exact h.bx
  inj:=by rw[hb];exact h.inj
  sep:=by rw[hb];exact h.sep
  sto:=h.sto
def Oper.wp_q{o:Oper}{a:Act}{w:World}{K:Act->World->Prop}{Q:Exit->Act->World->Prop}(h:o.wp P a w K λ_ _ _=>False):o.wp P a w K Q:=by
  unfold Oper.wp at*;generalize(execOp a.eval o).run P w=r at*;cases r with
  | ok n w'=>
    cases n<;>simp only[Oper.upon]at h⊢<;>
      first
        |exact h
        |exact Calls.mono h (λe w'' he=>by cases e<;>first|exact he|exact he.elim|(obtain⟨_,_,he⟩:=he;exact he.elim))
        |exact Rows.mono h (λ_ _ he=>he)
  |halt x w'=>cases x<;>trivial<;>exact h.elim
def ynw(hI:qe P c.I){o:Oper}{d:Nat}{x:LV}{B:Fr}{st:Store}(hd:o.dst=some d)(hlt:d<c.n)(h:vcW c B.ev B.bx st d o.op λy=>y=x):AOp P c.N o (λA' st'=>A'=B.put d x/\st'=st) B st:=by
  have key:(∀t n ps,o.op≠.buildSlice t n ps)->AOp P c.N o (λA' st'=>A'=B.put d x/\st'=st) B st:=by
    intro hne;refine Po hI (za d hd ?_);simp only[show Nat.blt d c.n=true from Fco hlt,cond_true];unfold vcW at h;split at h
    · grind
    · exact mr hI (λy hy=>⟨by rw[hy],Tv⟩) h
  cases hop:o.op with
  | buildSlice t n parts=>
    clear key;rw[hop]at h;obtain⟨i,ie,e,rows,y,hi,hty,hie,hrows,hone,hroom,hy,hyx,_⟩:=zdx (show bsK c B.ev t n parts (λy=>y=x)from h);subst hyx;refine zen (c:={c with G:=[]}) hop hI (za i hi (za d hd ?_));simp only[show Nat.blt d c.n=true from Fco hlt,cond_true,hty];refine za ie hie (za rows hrows ?_);grind
  |_=>grind
theorem Mt{o:Oper}{A B:Fr}(h:∀t∈o.looksAt ops,B.t t=A.t t):Bn ops o B=Bn ops o A:=by grind[Bn,Oper.looksAt]
def zaq{o:Oper}{t:Nat}(h:Operand.tmp t∈o.op.operands):t∈o.looksAt ops:=
  Fdi _ (List.mem_filterMap.2 ⟨.tmp t,δ,rfl⟩)
def gy{o:Oper}{A B:Fr}(h:∀t∈o.looksAt ops,B.t t=A.t t):∀x∈o.op.operands,B.ev x=A.ev x:=by
  intro x hx;cases x with
  |tmp t=>exact h t (zaq hx)
  |_=>rfl
def stands_iff{A:Fr}{st:Store}{i:Nat}:stands c ops A st i↔∃o d,ops[i]?=some o/\o.dst=some d∧
    ((Bn ops o A=some true/\vcW c A.ev A.bx st d o.op λx=>x=A.t d)\/(Bn ops o A=some false/\A.t d=.und)):=by
  unfold stands;constructor
  · intro h
    obtain⟨o,ho,h⟩:=zy h;simp_all[zy,guardK_iff]
  grind[za,guardK_iff]
def ot{A B:Fr}{st st':Store}{i:Nat}{o:Oper}(hi:ops[i]?=some o)(h:stands c ops A st i)(hl:∀t∈o.looksAt ops,B.t t=A.t t)(hd:∀d,o.dst=some d->B.t d=A.t d)
    (hn:(B.bx=A.bx/\st'=st)\/Mk o.op=true):stands c ops B st' i:=by
  obtain⟨o',d,ho,hdst,h⟩:=stands_iff.1 h;rw[hi]at ho;cases ho;refine stands_iff.2 ⟨o,d,hi,hdst,?_⟩;rw[Mt hl,hd d hdst];refine h.imp (λh=>⟨h.1,?_⟩) id;have h2:=Ww (ev':=B.ev) (gy hl) h.2;grind[zf1]
def zua{A:Fr}{st:Store}:∀{l:List Nat},Kq c ops A st l->∀i∈l,stands c ops A st i:=by
  intro l;induction l with
  |nil=>simp
  | cons a l ih=>
    intro h i hi;rcases Fa7.1 hi with rfl|h'
    · exact h.1
    · exact ih h.2 i h'
def zcr(P:Program)(c:Cfg)(ops:Array Oper)(K:Fr->Store->Prop)(i:Nat)(chk:List Nat)(r:Sched)(A:Fr)(st:Store):Prop:=
  optK ops[i]? λo=>
      Iv ops o A (λA=>Di P c o (λA' st'=>Kq c ops A' st' chk/\wz P c ops K r A' st') A st)
        λA=>xe A c.n o.dst .und λA'=>Kq c ops A' st chk/\wz P c ops K r A' st
def yn8{K:Fr->Store->Prop}{A:Fr}{st:Store}{i:Nat}{L:List Nat}:∀(S:Sched) (first:Bool),Ac c ops S L first=true->wz P c ops K S A st->i∈Pp S->
    ∃chk r,Pe c ops i chk L=true/\Ac c ops r (i::L) true=true/\zcr P c ops K i chk r A st:=by
  intro S;induction S with
  |done=>intro _ _ _ h;cases h
  |stop=>intro _ _ _ h;cases h
  |v j r _=>intro _ _ _ h;cases h
  | e j chk r alt _ ih=>
    intro first hs hv hi
    simp only[Ac,Fay]at hs;simp only[Pp,Fa7]at hi;rcases hi with rfl|hi
    · exact⟨chk,r,hs.1.1.1,hs.1.1.2,hv.1⟩
    · exact ih false hs.1.2 hv.2 hi
structure DInv(c:Cfg)(ops:Array Oper)(Oth M0:BB)(w0:World)(listed:Array Bool)(Lab U:List Nat)(A:Fr)(st:Store)(M:BB)(a:Act)(w:World):Prop where
  lsz:listed.size=ops.size
  lst:∀i,i<ops.size->(listed.getD i false=true↔i∈Lab/\i∉U)
  usub:∀i∈U,i∈Lab
  lab:∀i∈Lab,i<ops.size/\∀j∈jr ops i,j∈Lab
  uv:∀i∈U,∃o,ops[i]?=some o/\isV c o=true
  std:∀i∈U,stands c ops A st i
  sim:Sim c.N Oth (qo A (Ax ops U)) st M a w
  chg:Chg M0 w0 M w
  cls:∀i,i<ops.size->listed.getD i false=true->∀j∈jr ops i,listed.getD j false=true
theorem zbs{listed:Array Bool}{i:Nat}(h:i<listed.size):listed.getD i true=listed.getD i false:=by simp[h]
def ycl{ops:Array Oper}{listed:Array Bool}(cls:∀i,i<ops.size->listed.getD i false=true->∀j∈jr ops i,listed.getD j false=true)(hlt:∀i j,j∈jr ops i->j<ops.size){i:Nat}(hi:∀j∈jr ops i,listed.getD j false=true):
    ∀k∈Oh ops i,listed.getD k false=true:=by
  have key:∀(l acc:List Nat),(∀k∈acc,k<ops.size/\listed.getD k false=true)->∀k∈l.foldl (λacc j=>bif mem j acc then jr ops j++acc else acc) acc,k<ops.size/\listed.getD k false=true:=by
    intro l;induction l with
    |nil=>simp
    | cons j l ih=>
      intro acc h;refine ih _ ?_;by_cases hm:mem j acc=false
      · grind
      · have hm:mem j acc=true:=by grind
        have hj:=h j ((mem_iff _ _).1 hm);grind
  exact λk hk=>(key _ _ (λk hk=>⟨hlt i k hk,hi k hk⟩) k hk).2
end
section
variable {P:Program} {c:Cfg} {ops:Array Oper} {Oth M0:BB} {w0:World}
def Db(c:Cfg)(Oth M0:BB)(w0:World)(K:Fr->Store->Prop):Exit->Act->World->Prop:=
  λe a' w'=>∃A' st' M',(match e with|.normal=>K A' st'|_=>False)/\Sim c.N Oth A' st' M' a' w'/\Chg M0 w0 M' w'
theorem zf0(hI:qe P c.I){ev:Operand->LV}{bx:Nat->Option (List AV)}{st:Store}{d:Nat}{op:Op}{K:LV->Prop}(h:vcW c ev bx st d op K):∃x,K x/\vcW c ev bx st d op λy=>y=x:=by
  unfold vcW at h⊢;split at h
  · obtain⟨_,_,_,_,x,_,_,_,_,_,_,_,hx,hx'⟩:=zdx h
    grind
  · obtain⟨x,hx,hx',_⟩:=Wx hI _ h
    grind
section
variable {listed:Array Bool} {Lab U:List Nat} {A:Fr} {st:Store} {M:BB} {a:Act} {w:World}
def DInv.listed_iff(h:DInv c ops Oth M0 w0 listed Lab U A st M a w){i:Nat}(hi:i<ops.size):listed.getD i true=false↔¬(i∈Lab/\i∉U):=by rw[zbs (by rw[h.lsz];exact hi),<-h.lst i hi];simp
def DInv.done(hops:Dn c ops=true){K:Fr->Store->Prop}{S:Sched}(h:DInv c ops Oth M0 w0 listed Lab U A st M a w)(hs:Ac c ops S Lab true=true)(hv:wz P c ops K S A st)
    (hl:left ops listed=0):Db c Oth M0 w0 K .normal a w:=by
  have hall:∀i,i<ops.size->i∈Lab/\i∉U:=λi hi=>by have:=zat hl hi;rw[zbs (by rw[h.lsz];exact hi)]at this;exact(h.lst i hi).1 this
  have hU:U=[]:=by
    cases U with
    |nil=>rfl
    |cons u U=>exact absurd (Fbo) (hall u (h.lab u (h.usub u Fbo)).1).2
  subst hU;cases S with
  |done=>exact⟨A,st,M,hv,h.sim,h.chg⟩
  |stop=>trivial
  | v i r=>
    simp only[Ac,Fay,Fb5]at hs;grind[mem_iff]
  | e i chk r alt=>
    simp only[Ac,Pe,Fay,Fb5]at hs;grind[mem_iff]
def DInv.ready_ne(hops:Dn c ops=true)(h:DInv c ops Oth M0 w0 listed Lab U A st M a w){n:Nat}(hl:left ops listed=n+1):Region.ready .any ops listed≠[]:=by
  intro hr;have hex:∃i,i<ops.size/\listed.getD i true=false:=by grind[left,List.countP_pos_iff]
  obtain⟨i,hi,hp,hmin⟩:=least ops.size hex;have:i∈Region.ready .any ops listed:=by rw[ready_iff];refine⟨hp,hi,λj hj=>?_⟩;have hlt:=(Ie hops (Fbe hi)).lt j hj;grind
  grind
def DInv.clear(hops:Dn c ops=true)(h:DInv c ops Oth M0 w0 listed Lab U A st M a w){i:Nat}(hr:i∈Region.ready .any ops listed){o:Oper}(hi:ops[i]?=some o):∀t∈o.looksAt ops,t∉Ax ops U:=by
  intro t ht hd;obtain⟨k,hk,o',ho',hd'⟩:=mem_dsts.1 hd;have hf:=Ie hops ho';by_cases hki:i=k
  · subst hki
    rw[hi]at ho';cases ho';exact hf.own t hd' ht
  · obtain⟨o2,ho2,hv⟩:=h.uv k hk
    rw[ho']at ho2;cases ho2;rcases hf.look t hd' i o hi hki ht with h1|⟨h1,_⟩
    · have:=(ready_iff.1 hr).2.2 k h1
      exact((h.lst k (h.lab k (h.usub k hk)).1).1 this).2 hk
    grind
theorem DInv.look(h:DInv c ops Oth M0 w0 listed Lab U A st M a w){i:Nat}{o:Oper}(hl:∀t∈o.looksAt ops,t∉Ax ops U):∀t∈o.looksAt ops,(qo A (Ax ops U)).t t=A.t t:=
  λt ht=>Vg (hl t ht)
def ylc(hops:Dn c ops=true):∀i j,j∈jr ops i->j<ops.size:=by
  intro i j hj;cases hi:ops[i]? with
  |none=>grind[jr]
  | some o=>
    have:=(Ie hops hi).lt j hj;grind
def zdf(h:DInv c ops Oth M0 w0 listed Lab U A st M a w)(hops:Dn c ops=true){i:Nat}(hr:i∈Region.ready .any ops listed):
    ∀k,k<ops.size->(listed.setIfInBounds i true).getD k false=true->∀j∈jr ops k,(listed.setIfInBounds i true).getD j false=true:=by
  have mono:∀j,listed.getD j false=true->(listed.setIfInBounds i true).getD j false=true:=by
    intro j hj;by_cases hji:i=j
    · grind[ready_iff]
    simp_all
  intro k hk hl j hj;by_cases hki:i=k
  · grind[ready_iff]
  · rw[getD_set_ne false hki]at hl
    exact mono j (h.cls k hk hl j hj)
def DInv.pend(hI:qe P c.I)(hops:Dn c ops=true){K:Fr->Store->Prop}{fuel:Nat}(h:DInv c ops Oth M0 w0 listed Lab U A st M a w){i:Nat}(hr:i∈Region.ready .any ops listed)(hU:i∈U)
    (ih:∀(U':List Nat) (M':BB) (a':Act) (w':World),DInv c ops Oth M0 w0 (listed.setIfInBounds i true) Lab U' A st M' a' w'->wpAny P .any ops (Db c Oth M0 w0 K) fuel (listed.setIfInBounds i true) a' w'):
    wpOp P ops (Db c Oth M0 w0 K) i (wpAny P .any ops (Db c Oth M0 w0 K) fuel (listed.setIfInBounds i true)) a w:=by
  obtain⟨o,d,hi,hd,hst⟩:=stands_iff.1 (h.std i hU);have hf:=Ie hops hi;have hclear:=h.clear hops hr hi;have hlook:=h.look (i:=i) hclear;have hilt:=(Fbt.1 hi).1
  -- the frame behind it
  have next:∀(M':BB) (a':Act) (w':World),Sim c.N Oth ((qo A (Ax ops U)).put d (A.t d)) st M' a' w'->Chg M w M' w'->
      wpAny P .any ops (Db c Oth M0 w0 K) fuel (listed.setIfInBounds i true) a' w':=by
    rintro M' a' w' ⟨β,sim⟩ hchg;refine ih (U.filter λk=> !Nat.beq k i) M' a' w' ⟨by simp[h.lsz],λj hj=>?_,λj hj=>h.usub j (Fb4.1 hj).1,h.lab,λj hj=>h.uv j (Fb4.1 hj).1,λj hj=>h.std j (Fb4.1 hj).1,⟨β,sim.weaken rfl λt=>?_⟩,h.chg.trans hchg,zdf h hops hr⟩
    · by_cases hji:i=j
      · subst hji
        have:i<listed.size:=by rw[h.lsz];exact hilt
        simp[this,h.usub i hU]
      · rw[getD_set_ne false hji,h.lst j hj]
        simp_all[Ne.symm]
    · by_cases ht:t=d
      · subst ht
        left;rw[Vg]
        · simp[Fr.put]
        · intro hm
          obtain⟨k,hk,o',ho',hd'⟩:=mem_dsts.1 hm;have hki:k≠i:=by have:=(Fb4.1 hk).2;intro h;simp_all
          exact hf.one t hd k o' ho' hki hd'
      · by_cases hm:t∈Ax ops (U.filter λk=> !Nat.beq k i)
        · right;simp[qo,(mem_iff _ _).2 hm]
        · left
          have hm2:t∉Ax ops U:=by
            intro h2;obtain⟨k,hk,o',ho',hd'⟩:=mem_dsts.1 h2;refine hm (mem_dsts.2 ⟨k,Fb4.2 ⟨hk,?_⟩,o',ho',hd'⟩);by_cases hki:k=i
            · grind
            · simp[q9 hki]
          simp_all[Fr.put,q9,Vg]
  unfold Go.wpOp;simp only[hi];rcases hst with⟨hg,hv⟩|⟨hg,hu⟩
  · have hg':Bn ops o (qo A (Ax ops U))=some true:=by rw[Mt hlook];exact hg
    rw[Vb h.sim hg'];simp only[if_true];refine .inl (Oper.wp_q (Oper.wp_mono ?_ (ynw hI hd (hf.dlt d hd) (Ww (ev':=(qo A (Ax ops U)).ev) (gy hlook) hv) Oth M a w h.sim)));grind
  · have hg':Bn ops o (qo A (Ax ops U))=some false:=by rw[Mt hlook];exact hg
    rw[Vb h.sim hg'];simp only[Fah,if_false];obtain⟨β,sim⟩:=h.sim;refine next M _ w ⟨β,?_⟩ (Chg.refl M w)
    rw[hd,hu];exact sim.put (hf.dlt d hd) rfl
def DInv.eff(hI:qe P c.I)(hops:Dn c ops=true){K K2:Fr->Store->Prop}{fuel:Nat}(h:DInv c ops Oth M0 w0 listed Lab U A st M a w){i:Nat}(hr:i∈Region.ready .any ops listed){chk:List Nat}{r:Sched}
    (he:Pe c ops i chk Lab=true) (hv:zcr P c ops K i chk r A st)
    (ih:∀(A':Fr) (st':Store) (M':BB) (a':Act) (w':World),wz P c ops K r A' st'->DInv c ops Oth M0 w0 (listed.setIfInBounds i true) (i::Lab) U A' st' M' a' w'->wpAny P .any ops (Db c Oth M0 w0 K2) fuel (listed.setIfInBounds i true) a' w'):
    wpOp P ops (Db c Oth M0 w0 K2) i (wpAny P .any ops (Db c Oth M0 w0 K2) fuel (listed.setIfInBounds i true)) a w:=by
  obtain⟨o,hi,hv⟩:=zy hv;have hf:=Ie hops hi;have hclear:=h.clear hops hr hi;have hlook:=h.look (i:=i) hclear;have hilt:=(Fbt.1 hi).1;simp only[Pe,hi,Fay,Fb5,Fck]at he;obtain⟨⟨⟨⟨hnL,_⟩,hdeps⟩,hnV⟩,hL⟩:=he;have hiL:i∉Lab:=λhm=>by grind[mem_iff]
  have hiU:i∉U:=λhm=>hiL (h.usub i hm);have hdD:∀d,o.dst=some d->d∉Ax ops U:=by intro d hd hm;obtain⟨k,hk,o',ho',hd'⟩:=mem_dsts.1 hm;exact hf.one d hd k o' ho' (λh=>hiU (h▸hk)) hd'
  have hdl:∀j∈jr ops i,j∈Lab/\j∉U:=λj hj=>by
    have h1:=(ready_iff.1 hr).2.2 j hj;have hlt:j<ops.size:=by have:=hf.lt j hj;omega
    exact(h.lst j hlt).1 h1
  have hkr:∀k∈U,k∉Oh ops i:=λk hk hm=>by have h1:=ycl h.cls (ylc hops) (ready_iff.1 hr).2.2 k hm;exact((h.lst k (h.lab k (h.usub k hk)).1).1 h1).2 hk
  -- what follows
  have next:∀(A':Fr) (st':Store) (M':BB) (a':Act) (w':World),Kq c ops A' st' chk->wz P c ops K r A' st'->D4 o A A'->((∃k,A'=A.put k .und/\o.dst=some k/\st'=st)\/A'=A/\st'=st\/True)->Sim c.N Oth (qo A' (Ax ops U)) st' M' a' w'->Chg M w M' w'->
      (∀k∈U,k∉chk->∀o',ops[k]?=some o'->∀t,o.dst≠some t->A'.t t=A.t t)->
      wpAny P .any ops (Db c Oth M0 w0 K2) fuel (listed.setIfInBounds i true) a' w':=by
    intro A' st' M' a' w' hchk hvc hkept _ hsim hchg hk2;refine ih A' st' M' a' w' hvc ⟨by simp[h.lsz],λj hj=>?_,λj hj=>Fba _ (h.usub j hj),λj hj=>?_,h.uv,λk hk=>?_,hsim,h.chg.trans hchg,zdf h hops hr⟩
    · by_cases hji:i=j
      · subst hji
        have:i<listed.size:=by rw[h.lsz];exact hilt
        simp_all
      · rw[getD_set_ne false hji,h.lst j hj]
        grind
    · rcases Fa7.1 hj with rfl|hj
      · grind
      · exact⟨(h.lab j hj).1,λk hk=>Fba _ ((h.lab j hj).2 k hk)⟩
    · by_cases hkc:k∈chk
      · exact zua hchk k hkc
      · obtain⟨o',ho',hV⟩:=h.uv k hk
        have hk3:=hk2 k hk hkc o' ho';have hki:k≠i:=λh=>hiU (h▸hk);have hkd:k∉jr ops i:=λhd=>(hdl k hd).2 hk;have h4:=hL k (h.usub k hk);have m1:mem k (Oh ops i)=false:=Ik (hkr k hk);have m2:mem k chk=false:=Ik hkc;rw[ho']at h4;simp only[m1,m2,Fdr,Bool.or_eq_true,Fb5,Fay,hV,Bool.true_eq_false,false_or]at h4;refine ot ho' (h.std k hk) (λt ht=>hk3 t λhd=>?_) (λd hd=>hk3 d λhd2=>hf.one d hd2 k o' ho' hki hd) (.inr h4.1);rcases hf.look t hd k o' ho' hki ht with h5|⟨_,h5⟩
        · exact hiL ((h.lab k (h.usub k hk)).2 i h5)
        grind
  have hkept:∀(A':Fr),D4 o A A'->∀k∈U,k∉chk->∀o',ops[k]?=some o'->∀t,o.dst≠some t->A'.t t=A.t t:=by intro A' hK k hk hkc o' ho' t ht;obtain⟨o2,ho2,hV⟩:=h.uv k hk;rw[ho']at ho2;cases ho2;have hkd:k∉jr ops i:=λhd=>(hdl k hd).2 hk;have h4:=hL k (h.usub k hk);have m1:mem k (Oh ops i)=false:=Ik (hkr k hk);have m2:mem k chk=false:=Ik hkc;rw[ho']at h4;simp only[m1,m2,Fdr,Bool.or_eq_true,Fb5,Fay,hV,Bool.true_eq_false,false_or]at h4;refine hK ?_ t ht;grind
  unfold Go.wpOp;simp only[hi];rcases guardK_iff.1 hv with⟨hg,hv⟩|⟨hg,hv⟩
  · have hg':Bn ops o (qo A (Ax ops U))=some true:=by rw[Mt hlook];exact hg
    rw[Vb h.sim hg'];simp only[if_true];have hF:=zf2 (D:=Ax ops U) hI hv (λx hx t ht=>hclear t (zaq δ)) hdD;refine .inl (Oper.wp_q (Oper.wp_mono ?_ (zem hI hF Oth M a w h.sim)));grind
  · have hg':Bn ops o (qo A (Ax ops U))=some false:=by rw[Mt hlook];exact hg
    rw[Vb h.sim hg'];simp only[Fah,if_false];obtain⟨β,sim⟩:=h.sim;unfold xe at hv;cases hd:o.dst with
    | none=>
      rw[hd]at hv;exact next A st M _ w hv.1 hv.2 fo (.inr (.inr trivial)) ⟨β,sim⟩ (Chg.refl M w) (λ_ _ _ _ _ _ _=>rfl)
    | some d=>
      rw[hd]at hv;obtain⟨hlt,hv⟩:=Ay hv;refine next (A.put d .und) st M _ w hv.1 hv.2 (K5 hd) (.inr (.inr trivial)) ⟨β,?_⟩ (Chg.refl M w) (λ_ _ _ _ _ t ht=>by grind[Fr.put,q9])
      rw[<-Hn (hdD d hd)];exact sim.put hlt rfl
def DInv.move(hI:qe P c.I)(hops:Dn c ops=true){K:Fr->Store->Prop}(h:DInv c ops Oth M0 w0 listed Lab U A st M a w){j:Nat}{r:Sched}(hs:Ac c ops (.v j r) Lab true=true)(hv:wz P c ops K (.v j r) A st):
    ∃A',Ac c ops r (j::Lab) true=true/\wz P c ops K r A' st/\DInv c ops Oth M0 w0 listed (j::Lab) (j::U) A' st M a w:=by
  simp only[Ac,Fay,Fb5,true_and]at hs;obtain⟨⟨⟨⟨hn,hlt⟩,hV⟩,hdep⟩,hs⟩:=hs;have hjL:j∉Lab:=λhm=>by rw[(mem_iff _ _).2 hm]at hn;cases hn
  have hlt:j<ops.size:=Fbj hlt;obtain⟨o,hi,hv⟩:=zy hv;obtain⟨d,hd,hv⟩:=zy hv;rw[hi]at hV;replace hV:isV c o=true:=hV;have hf:=Ie hops hi;have hdl:∀k∈jr ops j,k∈Lab:=λk hk=>(mem_iff _ _).1 (Fck.1 hdep k hk)
  have key:∀x,wz P c ops K r (A.put d x) st->((Bn ops o A=some true/\vcW c A.ev A.bx st d o.op λy=>y=x)\/(Bn ops o A=some false/\x=.und))->
      ∃A',Ac c ops r (j::Lab) true=true/\wz P c ops K r A' st/\DInv c ops Oth M0 w0 listed (j::Lab) (j::U) A' st M a w:=by
    intro x hx hst;have hout:∀t,t≠d->(A.put d x).t t=A.t t:=λt ht=>by simp[Fr.put,q9 ht]
    refine⟨A.put d x,hs,hx,h.lsz,λk hk=>?_,λk hk=>?_,λk hk=>?_,λk hk=>?_,λk hk=>?_,?_,h.chg,h.cls⟩
    · rw[h.lst k hk]
      grind
    · rcases Fa7.1 hk with rfl|hk
      · simp
      · exact Fba _ (h.usub k hk)
    · rcases Fa7.1 hk with rfl|hk
      · grind
      · exact⟨(h.lab k hk).1,λk' hk'=>Fba _ ((h.lab k hk).2 k' hk')⟩
    · rcases Fa7.1 hk with rfl|hk
      · grind
      · exact h.uv k hk
    · rcases Fa7.1 hk with rfl|hk
      · have hl:∀t∈o.looksAt ops,(A.put d x).t t=A.t t:=λt ht=>hout t λhh=>hf.own d hd (hh▸ht)
        refine stands_iff.2 ⟨o,d,hi,hd,?_⟩;rw[Mt hl,show(A.put d x).t d=x by simp[Fr.put]];exact hst.imp (λh=>⟨h.1,Ww (ev':=(A.put d x).ev) (gy hl) h.2⟩) id
      · obtain⟨o',ho',hV'⟩:=h.uv k hk
        have hkj:k≠j:=λhh=>hjL (hh▸h.usub k hk);refine ot ho' (h.std k hk) (λt ht=>hout t λhh=>?_) (λd' hd'=>hout d' λhh=>hf.one d hd k o' ho' hkj (hh▸hd')) (.inl ⟨rfl,rfl⟩);subst hh;rcases hf.look t hd k o' ho' hkj ht with h5|⟨h5,_⟩
        · exact hjL ((h.lab k (h.usub k hk)).2 j h5)
        grind
    · obtain⟨β,sim⟩:=h.sim
      refine⟨β,sim.weaken rfl λt=>?_⟩;grind[Ax,qo,mem_iff]
  rcases guardK_iff.1 hv with⟨hg,hv⟩|⟨hg,hv⟩
  · grind[zf0]
  grind
end
def ykm(hI:qe P c.I)(hops:Dn c ops=true){K:Fr->Store->Prop}{fuel:Nat}
    (ih:∀(S:Sched) (listed:Array Bool) (Lab U:List Nat) (A:Fr) (st:Store) (M:BB) (a:Act) (w:World),Ac c ops S Lab true=true->wz P c ops K S A st->DInv c ops Oth M0 w0 listed Lab U A st M a w->left ops listed=fuel->
      wpAny P .any ops (Db c Oth M0 w0 K) fuel listed a w) {listed:Array Bool} {M:BB} {a:Act} {w:World} {st:Store} (hl:left ops listed=fuel+1) {i:Nat} (hr:i∈Region.ready .any ops listed):
    ∀ (S:Sched) (Lab U:List Nat) (A:Fr),Ac c ops S Lab true=true->wz P c ops K S A st->DInv c ops Oth M0 w0 listed Lab U A st M a w->
      wpOp P ops (Db c Oth M0 w0 K) i (wpAny P .any ops (Db c Oth M0 w0 K) fuel (listed.setIfInBounds i true)) a w:=by
  obtain⟨hun,hilt,hdeps⟩:=ready_iff.1 hr;intro S;induction S with
  | done=>
    intro Lab U A hs hv h;by_cases hU:i∈U
    · exact h.pend hI hops hr hU λU' M' a' w' h'=>ih .done _ _ _ _ _ _ _ _ hs hv h' ψc
    · simp only[Ac,Fel]at hs
      exact absurd ⟨(mem_iff _ _).1 (all_range.1 hs i hilt),hU⟩ ((h.listed_iff hilt).1 hun)
  |stop=>intro Lab U A hs;trivial
  | v j r ihr=>
    intro Lab U A hs hv h;by_cases hU:i∈U
    · exact h.pend hI hops hr hU λU' M' a' w' h'=>ih (.v j r) _ _ _ _ _ _ _ _ hs hv h' ψc
    · obtain⟨A',h1,h2,h3⟩:=h.move hI hops hs hv
      grind
  | e j chk r alt _ _=>
    intro Lab U A hs hv h;by_cases hU:i∈U
    · exact h.pend hI hops hr hU λU' M' a' w' h'=>ih (.e j chk r alt) _ _ _ _ _ _ _ _ hs hv h' ψc
    · have hiL:i∉Lab:=λhm=>(h.listed_iff hilt).1 hun ⟨hm,hU⟩
      have hin:i∈Pp (.e j chk r alt):=by
        have hs2:=hs;simp only[Ac,Fay,Bool.not_true,Fdr]at hs2;have h1:=all_range.1 hs2.2 i hilt;simp only[Bool.or_eq_true,Fb5,Ik hiL,Fah,false_or]at h1;rcases h1 with h1|h1
        · have:sub (jr ops i) Lab=true:=by
            unfold sub;rw[Fck];intro k hk;have hlt:k<ops.size:=by have:=(Ie hops (Fbe hilt)).lt k hk;omega
            exact(mem_iff _ _).2 ((h.lst k hlt).1 (hdeps k hk)).1
          grind
        · exact(mem_iff _ _).1 h1
      obtain⟨chk',r',h1,h2,h3⟩:=yn8 _ true hs hv hin;exact h.eff hI hops hr h1 h3 λA' st' M' a' w' h4 h5=>ih r' _ _ _ _ _ _ _ _ h2 h4 h5 ψc
def ykn(hI:qe P c.I)(hops:Dn c ops=true){K:Fr->Store->Prop}:∀(fuel:Nat) (S:Sched) (listed:Array Bool) (Lab U:List Nat) (A:Fr) (st:Store) (M:BB) (a:Act) (w:World),Ac c ops S Lab true=true->wz P c ops K S A st->DInv c ops Oth M0 w0 listed Lab U A st M a w->left ops listed=fuel->
      wpAny P .any ops (Db c Oth M0 w0 K) fuel listed a w:=by
  intro fuel;induction fuel with
  | zero=>
    intro S listed Lab U A st M a w hs hv h hl;refine⟨?_,h.done hops hs hv hl⟩;cases hr:Region.ready .any ops listed with
    |nil=>rfl
    | cons i rs=>
      grind[List.mem_cons_self,ready_iff,zat]
  | succ fuel ih=>
    intro S listed Lab U A st M a w hs hv h hl;refine⟨λhr=>absurd hr (h.ready_ne hops hl),λi hi=>ykm hI hops ih hl hi S Lab U A hs hv h⟩
def ze5{ops:Array Oper}(hd:∀(i:Nat) (o:Oper),ops[i]?=some o->∀cl,o.op≠.defer cl){Q:Exit->Act->World->Prop}{i:Nat}{K K':Act->World->Prop}{a:Act}{w:World}(hk:∀a w,K a w->K' a w)(h:wpOp P ops Q i K a w)(hn:∀e a w,e≠.normal->¬Q e a w):wpOpIn c.F 0 P ops Q i K' a w:=by
  unfold wpOp at h;unfold wpOpIn;split
  · grind
  · rename_i o hi
    simp only[hi]at h;split
    · rename_i hw
      simp only[hw,if_true]at h;rcases h with h|⟨_,a1,w1,h⟩
      · exact Pv hk hn (Oper.wpIn_F (hd i o hi) h)
      grind
    · rename_i hw
      simp only[hw]at h;exact⟨λ_ _=>Tv,hk _ _ h⟩
def ze8{ops:Array Oper}(hd:∀(i:Nat) (o:Oper),ops[i]?=some o->∀cl,o.op≠.defer cl){Q:Exit->Act->World->Prop}(hn:∀e a w,e≠.normal->¬Q e a w){md:Region.Mode}:∀(fuel:Nat) (listed:Array Bool) (a:Act) (w:World),wpAny P md ops Q fuel listed a w->wpAnyIn c.F 0 P md ops Q fuel listed a w:=by
  intro fuel;induction fuel with
  |zero=>intro listed a w h;exact h
  |succ fuel ih=>intro listed a w h;exact⟨h.1,λi hi=>ze5 hd (λa w h=>ih _ a w h) (h.2 i hi) hn⟩
def ADraw.of_sched(hI:qe P c.I)(hm:P.follows .mixedOrders=true)(hops:Dn c ops=true){K:Fr->Store->Prop}{A:Fr}{st:Store}(S:Sched)(hs:Ac c ops S [] true=true)(hv:wz P c ops K S A st):ADraw P c ops K A st:=by
  refine⟨λid=>⟨λOth M a w sim=>wpIn_region_any hm (ze8 (λi o hi=>(Ie hops hi).nd) ?_ _ _ _ _ ?_)⟩⟩
  · grind
  obtain⟨β,sim⟩:=sim;have g:=Grow.drew w
  have hinv:DInv c ops Oth M w (Array.replicate ops.size false) [] [] A st M a w.drew:=
    ⟨φ,λi hi=>by simp[hi],λi h=>ω,λi h=>ω,λi h=>ω,λi h=>ω,⟨β,sim.grow g⟩,g.chg M,λi hi hl=>by simp_all⟩
  have hl:left ops (Array.replicate ops.size false)=ops.size:=by
    unfold left;have:(List.range ops.size).countP (λi=> !(Array.replicate ops.size false).getD i true)=(List.range ops.size).length:=by rw[List.countP_eq_length];simp_all
    grind
  exact ykn hI hops ops.size S _ [] [] A st M a w.drew hs hv hinv hl
def Qc(hI:qe P c.I){K:Fr->Store->Prop}{A:Fr}{st:Store}(S:Sched)(hv:wz P c ops K S A st)(hm:P.follows .mixedOrders=true:=by rfl)(hops:Dn c ops=true:=by rfl)(hs:Ac c ops S [] true=true:=by rfl):ADraw P c ops K A st:=ADraw.of_sched hI hm hops S hs hv
end
section
variable {x:AV} {st:Store} {a b v:Int}
def ret{R:Ja}(h:R x st):∃r st',AV.le x r/\st.Has st'/\R r st':=⟨x,st,Tt,Store.Has.refl _,h⟩
def vh{r:AV}{st':Store}{R:Ja}(h:AV.le x r)(k:st.Has st')(q:R r st'):∃r st',AV.le x r/\st.Has st'/\R r st':=⟨r,st',h,k,q⟩
def optR{α:Type}{x:α}{K:α->Prop}(h:K x):optK (some x) K:=h
def bcd{c:Prop}[Decidable c]{p q:Prop}(h:c->p)(h':¬c->q):Cv (decide c) p q:=zh (λe=>h (of_decide_eq_true e)) λe=>h' (of_decide_eq_false e)
def zt{p q:Prop}(h:a=b->p)(h':a≠b->q):Cv (a==b) p q:=zh (λe=>h (eq_of_beq e)) λe=>h' (ne_of_beq_false e)
def qd{p q:Prop}(h:a≠b->p)(h':a=b->q):Cv (a != b) p q:=by grind[zh]
def ye{b:Bool}{p q:Prop}(h:Cv b q p):Cv (!b) p q:=by cases b<;>exact h
def ze{K:Prop}(h:-9223372036854775808<=v/\v<=9223372036854775807)(k:K):ym v/\K:=⟨h,k⟩
def Qd{K:Prop}(k:K)(h:-9223372036854775808<=v/\v<=9223372036854775807:=by omega):ym v/\K:=⟨h,k⟩
end
section
variable {st:Store} {b p o:Nat} {v:AV} {i:TI} {A:Fr}
theorem Fresh.ne_obj{x:AObj}(h:Fresh st b)(hp:st.obj p=some x):b≠p:=λe=>by rw[<-e,h.1]at hp;cases hp
theorem zd(st:Store)(p:Nat)(x:AObj):(st.sO p x).obj p=some x:=by simp[Store.sO]
theorem zj{x:AObj}(h:b≠p):(st.sO p x).obj b=st.obj b:=by simp[Store.sO,q9 h]
theorem yy(st:Store)(p:Nat)(x y:AObj):(st.sO p x).sO p y=st.sO p y:=by unfold Store.sO;grind
def Hl{x:AObj}(h:st.obj p=none):(st.sO p x).Has st:=
  ⟨λb y hb=>by grind[zj],λ_ _ h=>h⟩
theorem App.obj{k:Nat}{st':Store}{rows:List (List AV)}(h:App k st v rows st')(p:Nat):st'.obj p=st.obj p:=by rcases h with⟨_,_,rfl⟩|⟨_,_,rfl⟩|⟨_,_,_,_,rfl⟩<;>rfl
def xo{l:List AV}{K:Fr->Store->Prop}(hc:cellsOf v=some [v])(h1:v.one=true)(hi:i.size=1)(ho:st.obj b=some (.cells l))(hl:o+1<=l.length)
    (hk:K A (st.sO b (.cells (zv l o [v])))):Gx i A st (.av (.s (.pointer (some ⟨b,o,none⟩)))) v K:=by
  unfold Gx;rw[hc];show(bif Nat.beq 1 i.size&&([v].all AV.one)then _ else False);rw[hi];simp only[List.all_cons,h1,List.all_nil,Fb6,Bool.and_self,cond_true];rw[ho];exact⟨hl,Lb hk⟩
def yu{st2:Store}{l:List AV}{K:Fr->Store->Prop}(hc:cellsOf v=some [v])(h1:v.one=true)(hi:i.size=1)(ho:st.obj b=some (.cells l))(hl:o+1<=l.length)
    (he:st.sO b (.cells (zv l o [v]))=st2) (hk:K A st2):Gx i A st (.av (.s (.pointer (some ⟨b,o,none⟩)))) v K:=
  xo hc h1 hi ho hl (he▸hk)
theorem F7{q:Nat}{x y:AObj}(h:q≠p):(st.sO p x).sO q y=(st.sO q y).sO p x:=by
  unfold Store.sO
  congr
  funext i
  by_cases hi:i=p
  · subst hi;simp[q9 (Ne.symm h)]
  · simp[q9 hi]
end
def u8(b:UInt8):AV:=.s (.int .u8 b.toNat)
def int(n:Int):AV:=.s (.int .i64 n)
def u64(n:Int):AV:=.s (.int .u64 n)
def bool(b:Bool):AV:=.s (.bool b)
def nil:AV:=.s (.slice none 0 0)
def rws{α:Type}(f:α->List AV)(l:List α):List (List AV):=l.map f
def lst{α:Type}(k:Nat)(f:α->List AV)(l:List α):AV:=.lst k (rws f l) none
section
variable {α:Type} {f:α->List AV}
theorem zl(l:List α):(rws f l).length=l.length:=by simp[rws]
theorem zn{l:List α}{i:Nat}(h:i<l.length):(rws f l)[i]?=some (f l[i]):=by simp[rws,h]
theorem N9{l:List α}{i:Nat}(h:i<l.length):rws f (l.take i)++[f l[i]]=rws f (l.take (i+1)):=by grind[rws,List.take_succ_eq_append_getElem]
theorem cj(a b:List α):rws f a++rws f b=rws f (a++b):=by simp[rws]
def qn{l:List α}{i:Nat}(h:decide ((i:Int)<((rws f l).length:Int))=true):i<l.length:=by rw[zl]at h;grind
def qw{l:List α}{i:Nat}(h:decide ((i:Int)<((rws f l).length:Int))=false)(h2:i<=l.length):i=l.length:=by rw[zl]at h;grind
def Mm{l m:List α}(h:(((rws f l).length:Int) != ((rws f m).length:Int))=true):l.length≠m.length:=by grind[zl]
def I0{l m:List α}(h:(((rws f l).length:Int) != ((rws f m).length:Int))=false):l.length=m.length:=by grind[zl]
end
def u8C(b:UInt8):List AV:=[u8 b]
def zx(n:Int):List AV:=[int n]
def jt(l:List UInt8):AV:=lst 1 u8C l
def y9(l:List Int):AV:=lst 1 zx l
def isF{R:Ja}{b:Bool}{st:Store}(h:R (bool b) st)(hb:b=false):R (bool false) st:=δ
def isT{R:Ja}{b:Bool}{st:Store}(h:R (bool b) st)(hb:b=true):R (bool true) st:=δ
structure Gnd where
 W:Int
 H:Int
 T:List UInt8
 deriving DecidableEq
structure Cmd where
 P:Int
 S:Int
 K:Int
 N:Int
 U:List Int
 T:Int
 W:Int
 H:Int
 X:Int
 Y:Int
 deriving DecidableEq
def zq(g:Gnd):List AV:=[int g.W,int g.H,jt g.T]
def yh(c:Cmd):List AV:=[int c.P,int c.S,int c.K,int c.N,y9 c.U,int c.T,int c.W,int c.H,int c.X,int c.Y]
def Cmd.fits(c:Cmd):Prop:=c.U.length<=1000000000000
def Gnd.fits(g:Gnd):Prop:=g.T.length<=1000000000000
def zw(g:Gnd):Prop:=(1<=g.W/\g.W<=128)/\(1<=g.H/\g.H<=128)/\(g.T.length:Int)=g.W*g.H/\∀t∈g.T,t.toNat<=5
def Bh(l:List Int):Prop:=(1<=l.length/\l.length<=64)/\∀j,j<l.length->(1<=l.getD j 0/\l.getD j 0<=1099511627776)/\(0<j->l.getD (j-1) 0<l.getD j 0)
def kx(t:Int):Prop:=0<=t/\t<=16383
def idP(t:Int):Prop:=1<=t/\t<=1099511627776
def qs(x y:Int):Prop:=(-1099511627776<=x/\x<=1099511627776)/\(-1099511627776<=y/\y<=1099511627776)
def Cmd.only(c:Cmd):Cmd:=
 if c.K=1 then⟨c.P,c.S,c.K,c.N,[],0,0,0,c.X,c.Y⟩else
 if c.K=2 then⟨c.P,c.S,c.K,0,c.U,c.T,0,0,0,0⟩else
 if c.K=3 then⟨c.P,c.S,c.K,0,c.U,0,0,0,0,0⟩else
 if c.K=4 then⟨c.P,c.S,c.K,0,[],c.T,c.W,c.H,0,0⟩else
 if c.K=5 then⟨c.P,c.S,c.K,c.N,[],0,0,0,0,0⟩else
 if c.K=6 then⟨c.P,c.S,c.K,c.N,c.U,0,0,0,0,0⟩else
 if c.K=7 then⟨c.P,c.S,c.K,c.N,[],c.T,0,0,0,0⟩else
 ⟨c.P,c.S,c.K,0,[],0,0,0,0,0⟩
def Cmd.okP(c:Cmd):Prop:=
 (c.K=1/\(0<=c.N/\c.N<=3)/\qs c.X c.Y)\/(c.K=2/\Bh c.U/\kx c.T)\/(c.K=3/\Bh c.U)∨
 (c.K=4/\kx c.T/\(1<=c.W/\c.W<=4)/\(1<=c.H/\c.H<=4))\/(c.K=5/\idP c.N)\/(c.K=6/\Bh c.U/\idP c.N)\/(c.K=7/\idP c.N/\kx c.T)
def js(c:Cmd):Prop:=c.okP/\(1<=c.P/\c.P<=8)/\(0<=c.S/\c.S<=1099511627776)/\c.only=c
def Cmd.ok1{c:Cmd}(h:c.K=1):c.okP↔(0<=c.N/\c.N<=3)/\qs c.X c.Y:=θo
theorem Cmd.only1{c:Cmd}(h:c.K=1):c.only=⟨c.P,c.S,c.K,c.N,[],0,0,0,c.X,c.Y⟩:=θp
def Cmd.ok2{c:Cmd}(h:c.K=2):c.okP↔Bh c.U/\kx c.T:=θo
theorem Cmd.only2{c:Cmd}(h:c.K=2):c.only=⟨c.P,c.S,c.K,0,c.U,c.T,0,0,0,0⟩:=θp
def Cmd.ok3{c:Cmd}(h:c.K=3):c.okP↔Bh c.U:=θo
theorem Cmd.only3{c:Cmd}(h:c.K=3):c.only=⟨c.P,c.S,c.K,0,c.U,0,0,0,0,0⟩:=θp
def Cmd.ok4{c:Cmd}(h:c.K=4):c.okP↔kx c.T/\(1<=c.W/\c.W<=4)/\(1<=c.H/\c.H<=4):=θo
theorem Cmd.only4{c:Cmd}(h:c.K=4):c.only=⟨c.P,c.S,c.K,0,[],c.T,c.W,c.H,0,0⟩:=θp
def Cmd.ok5{c:Cmd}(h:c.K=5):c.okP↔idP c.N:=θo
theorem Cmd.only5{c:Cmd}(h:c.K=5):c.only=⟨c.P,c.S,c.K,c.N,[],0,0,0,0,0⟩:=θp
def Cmd.ok6{c:Cmd}(h:c.K=6):c.okP↔Bh c.U/\idP c.N:=θo
theorem Cmd.only6{c:Cmd}(h:c.K=6):c.only=⟨c.P,c.S,c.K,c.N,c.U,0,0,0,0,0⟩:=θp
def Cmd.ok7{c:Cmd}(h:c.K=7):c.okP↔idP c.N/\kx c.T:=θo
theorem Cmd.only7{c:Cmd}(h:c.K=7):c.only=⟨c.P,c.S,c.K,c.N,[],c.T,0,0,0,0⟩:=θp
def Cmd.ok0{c:Cmd}(h1:c.K≠1)(h2:c.K≠2)(h3:c.K≠3)(h4:c.K≠4)(h5:c.K≠5)(h6:c.K≠6)(h7:c.K≠7):¬c.okP:=by grind[Cmd.okP]
theorem Cmd.only0{c:Cmd}(h1:c.K≠1)(h2:c.K≠2)(h3:c.K≠3)(h4:c.K≠4)(h5:c.K≠5)(h6:c.K≠6)(h7:c.K≠7):c.only=⟨c.P,c.S,c.K,0,[],0,0,0,0,0⟩:=by grind[Cmd.only]
def leL:List AV->List AV->Prop
 |[],[]=>True
 |x::xs,y::ys=>AV.le x y/\leL xs ys
 |_,_=>False
def fi:∀{xs ys:List AV},leL xs ys->xs.length=ys.length/\∀(i:Nat) (x y:AV),xs[i]?=some x->ys[i]?=some y->AV.le x y:=by
 intro xs;induction xs with
 |nil=>
  intro ys h;cases ys with
  |nil=>simp
  |cons y ys=>exact h.elim
 |cons x xs ih=>
  intro ys h;cases ys with
  |nil=>exact h.elim
  |cons y ys=>
   obtain⟨h1,h2⟩:=ih h.2;refine⟨by simp[h1],λi u v hu hv=>?_⟩;cases i with
   |zero=>simp at hu hv;subst hu hv;exact h.1
   |succ i=>grind
def AV.le_aggL{xs ys:List AV}(h:leL xs ys):AV.le (.agg xs) (.agg ys):=AV.le_agg (fi h).1 (fi h).2
theorem sh{w:World}{T:BB}{xs ys:List AV}{vs:List Value}(h:leL xs ys)(hr:Reads w T xs vs):Reads w T ys vs:=by obtain⟨h1,h2⟩:=fi h;refine⟨by rw[<-h1];exact hr.1,λi y v hy hv=>?_⟩;have hi:i<xs.length:=δ;exact h2 i xs[i] y (Fac hi) hy w T v (hr.2 i _ v (Fac hi) hv)
def AV.le_tupL{xs ys:List AV}(h:leL xs ys):AV.le (.tup xs) (.tup ys):=by intro w T v hv;grind[mj,wk,sh]
def ACalls.le{P:Program}{f:FuncId}{xs ys:List AV}{st:Store}{R:Ja}(h:leL xs ys)(hc:ACalls P f ys st R):ACalls P f xs st R:=
 ⟨λOth M w vs sto hr=>hc.out Oth M w vs sto (sh h hr)⟩
def Cmd.eq_of{a b:Cmd}(h1:a.P=b.P)(h2:a.S=b.S)(h3:a.K=b.K)(h4:a.N=b.N)(h5:a.U=b.U)(h6:a.T=b.T)(h7:a.W=b.W)(h8:a.H=b.H)(h9:a.X=b.X)(h10:a.Y=b.Y):a=b:=by cases a;simp_all
def pm{a b:Int}(h1:1<=a/\a<=128)(h2:1<=b/\b<=128):1<=a*b/\a*b<=16384:=by have h3:a*b<=128*128:=Fa9 h1.2 h2.2 θ θ;have h4:0<a*b:=Int.mul_pos θ θ;omega
def Hq(a b:Int):Int:=if a<b then -1 else if a>b then 1 else 0
def ynd(op:BinOp)(a b:UInt8):jj op .u8 a.toNat b.toNat=((match op with|.and=>a &&& b|.or=>a ||| b|.xor=>a^^^b|_=>a &&& ~~~b:UInt8).toNat:Int):=by
 have h:∀a:UInt8,BitVec.ofInt IntKind.u8.bits (a.toNat:Int)=a.toBitVec:=by intro a;apply BitVec.eq_of_toNat_eq;show(BitVec.ofInt 8 (a.toNat:Int)).toNat=a.toBitVec.toNat;simp
 have hw:∀x:UInt8,IntKind.u8.wrap (x.toBitVec.toNat:Int)=(x.toNat:Int):=by intro x;have hx:=x.toNat_lt;grind[IntKind.wrap,IntKind.bits,IntKind.signed]
 unfold jj;simp only[h];cases op<;>exact hw _
end Go.V
namespace Go.V
theorem uq(a q m:Nat)(h:a<2^m):a ||| q*2^m=a+q*2^m:=by grind[Nat.two_pow_add_eq_or_of_lt,Nat.mul_comm]
theorem zd4(a b:Nat)(ha:a<2^64)(hb:b<2^64):jj .or .i64 a b=IntKind.i64.wrap ((a ||| b:Nat):Int)/\jj .or .u64 a b=IntKind.u64.wrap ((a ||| b:Nat):Int):=by
 have h:∀a:Nat,a<2^64->(BitVec.ofInt 64 (a:Int)).toNat=a:=φ;constructor
 ·show IntKind.i64.wrap ((BitVec.ofInt 64 (a:Int) ||| BitVec.ofInt 64 (b:Int)).toNat:Int)=_;grind
 ·show IntKind.u64.wrap ((BitVec.ofInt 64 (a:Int) ||| BitVec.ofInt 64 (b:Int)).toNat:Int)=_;grind
theorem j6{v:Int}(h:0<=v)(h2:v<18446744073709551616):IntKind.u64.wrap v=v:=by grind[IntKind.wrap,IntKind.bits,IntKind.signed]
def yel{n:Int}{q m:Nat}(h0:0<=n)(h1:n<2^m)(h2:n+q*2^m<18446744073709551616):jj .or .u64 n (q*2^m)=n+q*2^m:=by obtain⟨a,rfl⟩:=Fbx h0;have e:((q:Int)*2^m)=((q*2^m:Nat):Int):=φ;have h1':a<2^m:=δ;rw[e]at h2⊢;have h3:a+q*2^m<18446744073709551616:=θ;rw[(zd4 a (q*2^m) θ θ).2,uq a q m h1',j6 θ θ];simp
end Go.V
namespace Go.V
end Go.V
namespace Go.V
end Go.V
namespace Go.V
end Go.V
namespace Go.V
end Go.V
namespace Go.V
end Go.V
namespace Go.V
def Cmd.sized(c:Cmd):Prop:=c.U.length<=140737488355328
end Go.V
namespace Go.V
end Go.V
namespace Go.V
section
variable {n a:Int}
def nrm(a:Int):Int:=if a< -9223372036854775807 then -9223372036854775807 else a
theorem ye3(n:Int):max2 n (Int.negSucc 9223372036854775806)=nrm n:=by simp_all[max2,nrm]
theorem Ad(h:ym n):-9223372036854775807<=nrm n/\nrm n<=9223372036854775807:=by grind[ym,nrm]
theorem Ff(h:-9223372036854775807<=n):nrm n=n:=by unfold nrm;omega
theorem ye2(n:Int):nrm (nrm n)=nrm n:=by unfold nrm;omega
def vp(s:Int):Int:=if s>9223372036854775807 then 9223372036854775807 else if s< -9223372036854775807 then -9223372036854775807 else s
def qp(a b:Int):Int:=vp (nrm a+nrm b)
def qf(a b:Int):Int:=qp a (-nrm b)
def V5(s:Int):-9223372036854775807<=vp s/\vp s<=9223372036854775807:=by grind[vp]
def gu(a b:Int):-9223372036854775807<=qp a b/\qp a b<=9223372036854775807:=V5 _
theorem gg(a b:Int):-9223372036854775807<=qf a b/\qf a b<=9223372036854775807:=V5 _
def Vp(a b:Int):ym (qp a b):=by have:=gu a b;unfold ym;omega
def Iw(a b:Int):ym (qf a b):=by have:=gg a b;unfold ym;omega
def asz(a:Int):Int:=if nrm a<0 then -nrm a else nrm a
def Ka(h:ym n):0<=asz n/\asz n<=9223372036854775807:=by have:=Ad h;unfold asz;omega
def jc(n:Int):List AV:=[u64 (n/18446744073709551616),u64 (n%18446744073709551616)]
theorem Lp(v:Int):IntKind.u64.wrap v=v%18446744073709551616:=ξ
theorem Nj(h:0<=a):jj .and .u64 a 4294967295=a%4294967296:=by obtain⟨n,rfl⟩:=Fbx h;show IntKind.u64.wrap ((BitVec.ofInt 64 (n:Int) &&& BitVec.ofInt 64 (4294967295:Int)).toNat:Int)=_;rw[Lp];have e1:BitVec.ofInt 64 (n:Int)=BitVec.ofNat 64 n:=BitVec.ofInt_natCast ..;have e2:BitVec.ofInt 64 (4294967295:Int)=BitVec.ofNat 64 4294967295:=rfl;rw[e1,e2,BitVec.toNat_and,BitVec.toNat_ofNat,BitVec.toNat_ofNat];have e3:(4294967295:Nat)%2^64=2^32-1:=ψ;rw[e3,Nat.and_two_pow_sub_one_eq_mod];omega
theorem zu3(a:Int):a.fdiv (2^(min (32:Int).toNat IntKind.u64.bits))=a/4294967296:=by have:(min (32:Int).toNat IntKind.u64.bits)=32:=ψ;grind
theorem yd1:(2:Int)^(min (32:Int).toNat IntKind.u64.bits)=4294967296:=ψ
theorem yjv(a:Int):a.fdiv 4294967296=a/4294967296:=Fcz _ ψ
def Px{hi lo:Int}(h1:hi=n/18446744073709551616)(h2:lo=n%18446744073709551616):[AV.s (.int .u64 hi),AV.s (.int .u64 lo)]=jc n:=by subst h1 h2;rfl
theorem yem{b:Int}(ha:0<=a)(hb:0<=b)(hb2:b<4294967296):jj .or .u64 ((a*4294967296)%18446744073709551616) b=(a*4294967296)%18446744073709551616+b:=by
 have e:(a*4294967296)%18446744073709551616=(a%4294967296)*2^32:=θ;obtain⟨q,hq⟩:=Fbx (show 0<=a%4294967296 by omega);have e2:=@yel b q 32 hb θ θ;have comm:∀x y:Int,jj .or .u64 x y=jj .or .u64 y x:=by grind[jj]
 grind
def ny(x y:Int)(hx:0<=x)(hx2:x<18446744073709551616)(hy:0<=y)(hy2:y<18446744073709551616):
  ∃p00 p10 p01 p11:Int,p00=(x%4294967296)*(y%4294967296)/\p10=(x/4294967296)*(y%4294967296)/\p01=(x%4294967296)*(y/4294967296)/\p11=(x/4294967296)*(y/4294967296)∧
   x*y=p11*18446744073709551616+(p10+p01)*4294967296+p00/\0<=p00/\p00<=18446744065119617025/\0<=p10/\p10<=18446744065119617025/\0<=p01/\p01<=18446744065119617025/\0<=p11/\p11<=18446744065119617025:=by
 have b:∀u v:Int,0<=u->u<=4294967295->0<=v->v<=4294967295->0<=u*v/\u*v<=18446744065119617025:=by intro u v h1 h2 h3 h4;refine⟨Fav h1 h3,?_⟩;have h5:u*v<=4294967295*4294967295:=Fa9 h2 h4 h3 ψ;exact h5
 refine⟨_,_,_,_,rfl,rfl,rfl,rfl,?_,?_⟩
 ·grind
 ·obtain⟨h1,h2⟩:=b (x%4294967296) (y%4294967296) θ θ θ θ;obtain⟨h3,h4⟩:=b (x/4294967296) (y%4294967296) θ θ θ θ;obtain⟨h5,h6⟩:=b (x%4294967296) (y/4294967296) θ θ θ θ;obtain⟨h7,h8⟩:=b (x/4294967296) (y/4294967296) θ θ θ θ;omega
abbrev Vc:=Int×Int
def zu(p:Vc):List AV:=[int p.1,int p.2]
def Vc.ok(p:Vc):Prop:=ym p.1/\ym p.2
def qy(a b:Vc):Vc:=(qf a.1 b.1,qf a.2 b.2)
def sqr(v:Vc):Int:=asz v.1*asz v.1+asz v.2*asz v.2
def near(a b:Vc)(r:Int):Bool:=decide (0<r/\sqr (qy a b)<r*r)
end
end Go.V
namespace Go.V
def Store.un(a g:Store):Store:=
  ⟨λb=>match g.obj b with|some x=>some x|none=>a.obj b,λb=>match g.tok b with|some x=>some x|none=>a.tok b⟩
def Store.has(g:Store)(b:Nat):Prop:=g.obj b≠none\/g.tok b≠none
def zk(a g:Store):Prop:=∀b,a.has b->¬g.has b
theorem k8{g:Store}{b:Nat}(h:¬g.has b):g.obj b=none/\g.tok b=none:=by
  constructor
  · cases h1:g.obj b with
    |none=>rfl
    |some x=>exact absurd (Or.inl δ) h
  · cases h1:g.tok b with
    |none=>rfl
    |some x=>exact absurd (Or.inr δ) h
theorem xf{g:Store}{b:Nat}{x:AObj}(h:g.obj b=some x):g.has b:=.inl δ
theorem Iu{g:Store}{b:Nat}{x:Nat}(h:g.tok b=some x):g.has b:=.inr δ
theorem fresh_iff{g:Store}{b:Nat}:Fresh g b↔¬g.has b:=
  ⟨λ⟨h1,h2⟩ h=>h.elim (λh=>h h1) λh=>h h2,k8⟩
theorem zg{a g:Store}{b:Nat}{x:AObj}(h:g.obj b=some x):(a.un g).obj b=some x:=by simp[Store.un,h]
theorem yg{a g:Store}{b:Nat}{x:AObj}(hd:zk a g)(h:a.obj b=some x):(a.un g).obj b=some x:=by simp[Store.un,(k8 (hd b (xf h))).1,h]
def Kk{a g:Store}{b:Nat}{x:Nat}(hd:zk a g)(h:a.tok b=some x):(a.un g).tok b=some x:=by simp[Store.un,(k8 (hd b (Iu h))).2,h]
def F5{a g:Store}{b:Nat}{x:Nat}(h:g.tok b=some x):(a.un g).tok b=some x:=by simp[Store.un,h]
def Lu{a g:Store}{b:Nat}{x:AObj}(h:(a.un g).obj b=some x):g.obj b=some x\/(g.obj b=none/\a.obj b=some x):=by simp only[Store.un]at h;grind
def P6{a g:Store}{b:Nat}{x:Nat}(h:(a.un g).tok b=some x):g.tok b=some x\/(g.tok b=none/\a.tok b=some x):=by simp only[Store.un]at h;grind
theorem un_has{a g:Store}{b:Nat}:(a.un g).has b↔a.has b\/g.has b:=by grind[Store.has,Store.un]
section
variable {P:Program}
def ACalls.frame{f:FuncId}{xs:List AV}{a g:Store}{R R':Ja}(hd:zk a g)(h:ACalls P f xs a R)(hR:∀r a',R r a'->zk a' g->R' r (a'.un g)):ACalls P f xs (a.un g) R':=by
  refine⟨λOth M w vs sto hr=>?_⟩
  let gM:Nat->Nat->Prop:=λb o=>M b o/\g.has b
  let M1:Nat->Nat->Prop:=λb o=>M b o/\¬g.has b
  let O1:Nat->Nat->Prop:=λb o=>Oth b o\/gM b o
  have hT:(λ(b o:Nat)=>M1 b o\/O1 b o)=λb o=>M b o\/Oth b o:=δ
  have sto1:StoreOK a O1 M1 w:=
    { obj:=λb x hx=>by
        rw[hT];have:=sto.obj b x (yg hd hx);exact⟨this.1,λo=>⟨this.2 o,hd b (xf hx)⟩⟩
      tok:=λb top hx=>by obtain⟨c,e,fr,h1,h2,h3,h4⟩:=sto.tok b top (Kk hd hx);exact⟨c,e,fr,h1,h2,h3,λo ho=>⟨h4 o ho,hd b (Iu hx)⟩⟩
      mlt:=λb o hm=>sto.mlt b o hm.1
      olt:=λb o hm=>by
        rcases hm with h|h
        · exact sto.olt b o h
        · exact sto.mlt b o h.1
      dis:=λb o hO hM=>by
        rcases hO with h|h
        · exact sto.dis b o h hM.1
        grind}
  have h1:=h.out O1 M1 w vs sto1 δ;have key:∀v w',xg a R O1 M1 w v w'->xg (a.un g) R' Oth M w v w':=by
    rintro v w' ⟨r,a',M2,hRr,hv,hsto,hchg⟩
    let M':Nat->Nat->Prop:=λb o=>M2 b o\/gM b o
    have hT2:(λ(b o:Nat)=>M2 b o\/O1 b o)=λb o=>M' b o\/Oth b o:=δ;have hglt:∀b,g.has b->b<w.heap.size:=by
      intro b hb;rcases hb with hb|hb
      · cases hx:g.obj b with
        |none=>grind
        |some x=>exact sto.mlt b 0 ((sto.obj b x (zg hx)).2 0)
      · cases hx:g.tok b with
        |none=>grind
        | some x=>
          obtain⟨c,e,fr,h1,_⟩:=sto.tok b x (F5 hx);grind
    have hno:∀b o,M2 b o->¬g.has b:=λb o hm hg=>(hchg.sub b o hm (hglt b hg)).2 hg;have hd':zk a' g:=by
      intro b hb;rcases hb with hb|hb
      · cases hx:a'.obj b with
        |none=>grind
        |some x=>exact hno b 0 ((hsto.obj b x hx).2 0)
      · cases hx:a'.tok b with
        |none=>grind
        | some x=>
          obtain⟨c,e,fr,h1,h2,h3,h4⟩:=hsto.tok b x hx;grind
    have hblk:∀b,g.has b->w'.heap[b]?=w.heap[b]?:=λb hg=>hchg.blk b (hglt b hg) λo hm=>hm.2 hg;refine⟨r,a'.un g,M',hR r a' hRr hd',δ,?_,?_⟩
    · refine{obj:=λb x hx=>?_,tok:=λb top hx=>?_,mlt:=λb o hm=>?_,olt:=λb o hm=>Nat.lt_of_lt_of_le (sto.olt b o hm) hchg.size,dis:=λb o hO hM=>?_}
      · rcases Lu hx with hx|⟨_,hx⟩
        · have h5:=sto.obj b x (zg hx)
          have hk:=hchg.keeps (Oth:=O1);grind[ObjRel.same,xf]
        · have h5:=hsto.obj b x hx
          grind
      · rcases P6 hx with hx|⟨_,hx⟩
        · obtain⟨c,e,fr,h1,h2,h3,h4⟩:=sto.tok b top (F5 hx)
          grind[Iu]
        · obtain⟨c,e,fr,h1,h2,h3,h4⟩:=hsto.tok b top hx
          grind
      · rcases hm with h|h
        · exact hsto.mlt b o h
        grind
      · rcases hM with h|h
        · exact hsto.dis b o (.inl hO) h
        · exact sto.dis b o hO h.1
    · exact
        { size:=hchg.size
          keep:=λb o hb hm=>hchg.keep b o hb λh=>hm h.1
          blk:=λb hb hm=>hchg.blk b hb λo h=>hm o h.1
          shp:=hchg.shp
          sub:=λb o hm hb=>by
            rcases hm with h|h
            · exact(hchg.sub b o h hb).1
            grind
          tape:=hchg.tape
          os:=hchg.os
          output:=hchg.output}
  generalize(callFunc f vs).run P w=res at h1;cases res with
  | ok n w'=>
    cases n with
    |enter f' args=>exact Calls.mono h1 λe w'' ⟨v,he,hv⟩=>⟨v,he,key _ _ hv⟩
    |value v=>exact key _ _ h1
    |_=>exact h1
  |_=>exact h1
def flat(r:AV):Prop:=∀w T w' T' v,VRel w T r v->VRel w' T' r v
theorem Cu(v:Value):flat (.s v):=λ_ _ _ _ _ h=>by cases h;exact .s _
def yjg(cs:List Value):flat (.agg (cs.map AV.s)):=by
  intro w T w' T' v h;obtain⟨c,rfl,hr⟩:=F0 h;refine Ls ⟨hr.1,λi x y hx hy=>?_⟩;have:=hr.2 i x y hx hy;rw[Far]at hx;cases hc:cs[i]? with
  |none=>grind
  | some z=>
    rw[hc]at hx;simp at hx;subst hx;cases this;exact .s _
def ACalls.read{f:FuncId}{xs ys:List AV}{g:Store}{Q:AV->Prop}{R:Ja}
    (hb:∀Oth M w vs,StoreOK g Oth M w->Reads w (λb o=>M b o\/Oth b o) xs vs->Reads w (λb o=>(M b o\/Oth b o)/\g.obj b=none) ys vs)
    (h:ACalls P f ys Store.empty λr _=>Q r) (hf:∀r,Q r->flat r) (hR:∀r,Q r->R r g):ACalls P f xs g R:=by
  refine⟨λOth M w vs sto hr=>?_⟩
  let O1:Nat->Nat->Prop:=λb o=>(M b o\/Oth b o)/\g.obj b=none
  have sto0:StoreOK Store.empty O1 (λ_ _=>False) w:=
    {obj:=λb x hx=>γ,tok:=λb x hx=>γ,mlt:=λ_ _ h=>h.elim,olt:=λb o h=>Or.elim h.1 (sto.mlt b o) (sto.olt b o),dis:=λ_ _ _ h=>h}
  have h1:=h.out O1 (λ_ _=>False) w vs sto0 δ;have key:∀v w',xg Store.empty (λr _=>Q r) O1 (λ_ _=>False) w v w'->xg g R Oth M w v w':=by
    rintro v w' ⟨r,a',M2,hQ,hv,hsto,hchg⟩;have hg:Grow w w':=⟨hchg.size,λb hb=>hchg.blk b hb λ_ h=>h,hchg.tape,hchg.os,hchg.output⟩
    exact⟨r,g,M,hR r hQ,hf r hQ _ _ _ _ _ hv,sto.grow hg,hg.chg M⟩
  generalize(callFunc f vs).run P w=res at h1;cases res with
  | ok n w'=>
    cases n with
    |enter f' args=>exact Calls.mono h1 λe w'' ⟨v,he,hv⟩=>⟨v,he,key _ _ hv⟩
    |value v=>exact key _ _ h1
    |_=>exact h1
  |_=>exact h1
def ym6{w:World}{T:BB}{b n cap k:Nat}{rows:List (List AV)}{pad:List AV}(ho:CellsRel w T (rows.flatten++pad) b){T':BB}(hT:∀o,¬T' b o)(hn:rows.length=n)(hcap:n<=cap)
    (hk:∀row∈rows,row.length=k) (hall:∀row∈rows,∀x∈row,∃v,x=AV.s v/\xp v=true):VRel w T' (.lst k rows none) (.slice (some ⟨b,0,none⟩) n cap):=by
  obtain⟨cs,e0,fr,hb0,huf,hlen,hrel⟩:=ho;subst hn;have at1:∀(i:Nat) (row:List AV) (j:Nat) (x:AV),rows[i]?=some row->row[j]?=some x->∃v,x=.s v/\xp v=true/\cs[i*k+j]?=some v:=by
    intro i row j x hi hj;obtain⟨v,rfl,hv⟩:=hall row (Fa3 hi) x (Fa3 hj);have h5:=Iy hk hi hj;have hlt:=(Fax.1 h5).1;have h6:(rows.flatten++pad)[i*k+j]?=some (.s v):=δ;have hlt2:i*k+j<cs.size:=δ;have h7:=hrel _ _ cs[i*k+j] h6 (by simp[hlt2]);have:cs[i*k+j]=v:=by generalize cs[i*k+j]=y at h7;cases h7;rfl
    grind
  refine VRel.lst rows none b 0 cap k (λp=>cs.getD p undef) hcap (λi row hi=>hk row (Fa3 hi)) (λ_ h=>ω) (λi row j x hi hj=>?_) (λi row j x hi hj=>?_) λi row j x hi hj=>?_
  · obtain⟨v,rfl,hv,h5⟩:=at1 i row j x hi hj
    simp_all[World.cell?]
  · obtain⟨v,rfl,hv,h5⟩:=at1 i row j x hi hj
    simp_all
  · obtain⟨v,rfl,hv,h5⟩:=at1 i row j x hi hj
    rw[Fbi,h5];exact .s _
def AObj.le(x y:AObj):Prop:=∀w T b,ObjRel w T x b->ObjRel w T y b
structure Store.Le(st st':Store):Prop where
  obj:∀b y,st'.obj b=some y->∃x,st.obj b=some x/\AObj.le x y
  tok:∀b x,st'.tok b=some x->st.tok b=some x
theorem AObj.le_refl(x:AObj):AObj.le x x:=λ_ _ _ h=>h
def Store.Le.refl(st:Store):st.Le st:=⟨λb y h=>⟨y,h,AObj.le_refl y⟩,λ_ _ h=>h⟩
def Store.Has.toLe{st st':Store}(h:st.Has st'):st.Le st':=⟨λb y hy=>⟨y,h.obj b y hy,AObj.le_refl y⟩,h.tok⟩
def AObj.le_cells{l l':List AV}(hl:l.length=l'.length)(h:∀(i:Nat) (x y:AV),l[i]?=some x->l'[i]?=some y->AV.le x y):AObj.le (.cells l) (.cells l'):=by rintro w T b ⟨c,e,fr,h1,h2,h3,h4⟩;refine⟨c,e,fr,h1,h2,θ,λi y v hy hv=>?_⟩;have hi:i<l.length:=δ;exact h i _ y (Fac hi) hy w T v (h4 i _ v (Fac hi) hv)
def StoreOK.weakenLe{st st':Store}{Oth M:BB}{w:World}(h:StoreOK st Oth M w)(hh:st.Le st'):StoreOK st' Oth M w:=
  ⟨λb y k=>by obtain⟨x,hx,hle⟩:=hh.obj b y k;exact⟨hle _ _ _ (h.obj b x hx).1,(h.obj b x hx).2⟩,λb x k=>h.tok b x (hh.tok b x k),h.mlt,h.olt,h.dis⟩
def ACalls.post{f:FuncId}{xs:List AV}{st st0:Store}{R R':Ja}(h:ACalls P f xs st0 R)(h0:st.Le st0)(hR:∀r st',R r st'->∃r' st'',AV.le r r'/\st'.Le st''/\R' r' st''):ACalls P f xs st R':=by
  refine⟨λOth M w vs sto hr=>?_⟩;have h1:=h.out Oth M w vs (sto.weakenLe h0) hr;have key:∀v w',xg st0 R Oth M w v w'->xg st R' Oth M w v w':=by rintro v w' ⟨r,a',M2,hQ,hv,hsto,hchg⟩;obtain⟨r',st'',h2,h3,h4⟩:=hR r a' hQ;exact⟨r',st'',M2,h4,h2 _ _ _ hv,hsto.weakenLe h3,hchg⟩
  generalize(callFunc f vs).run P w=res at h1;cases res with
  | ok n w'=>
    cases n with
    |enter f' args=>exact Calls.mono h1 λe w'' ⟨v,he,hv⟩=>⟨v,he,key _ _ hv⟩
    |value v=>exact key _ _ h1
    |_=>exact h1
  |_=>exact h1
def ACalls.imp{f:FuncId}{xs:List AV}{st:Store}{R R':Ja}(h:ACalls P f xs st R)(hR:∀r st',R r st'->R' r st'):ACalls P f xs st R':=
  h.post (Store.Le.refl st) λr st' hr=>⟨r,st',AV.le_refl r,Store.Le.refl st',hR r st' hr⟩
def ACalls.of_calls {f : FuncId} {fn : Func} {code : Code} {xs : List AV} {st : Store} {R : Ja} (hf : P.funcs[f]? = some fn) (hb : fn.body = some code) (hname : (fn.name == "runtime.NumGoroutine") = false)
    (h:∀(Oth M:BB) (w:World) (vs:Array Value),StoreOK st Oth M w->Reads w (λb o=>M b o\/Oth b o) xs vs.toList->Calls P f vs w λe w'=>∃v,e=.returned v/\xg st R Oth M w v w'):ACalls P f xs st R:=by
  refine⟨λOth M w vs sto hr=>?_⟩;have hrun:(callFunc f vs).run P w=.ok (.enter f vs) w:=θ4;rw[hrun];exact h Oth M w vs sto hr
def ACalls.of_value{f:FuncId}{xs:List AV}{st:Store}{R:Ja}
    (h:∀(Oth M:BB) (w:World) (vs:Array Value),StoreOK st Oth M w->Reads w (λb o=>M b o\/Oth b o) xs vs.toList->∃v w',(callFunc f vs).run P w=.ok (.value v) w'/\xg st R Oth M w v w'):ACalls P f xs st R:=by
  refine⟨λOth M w vs sto hr=>?_⟩;obtain⟨v,w',h1,h2⟩:=h Oth M w vs sto hr;rw[h1];exact h2
end
def AWp.meetA{P:Program}{c:Cfg}{σ:Type}(H:Meet σ){x y:Code}{Q:Exit->Fr->Store->Prop}{A:Fr}{st:Store}(hx:AWp P c x (Re H.at Q) A st)
    (hy:∀s st',H.inv s st'->AWp P c y Q (Hb (H.t s) (H.bx s)) st'):AWp P c (.seq x y) Q A st:=by
  refine AWp.seq (hx.mono λe A' st' h=>?_);cases e with
  | normal=>
    obtain⟨s,h1,h2,h3⟩:=h;exact AWp.weaken (hy s st' h1) h2 h3 (Store.Has.refl st')
  |_=>exact h
def AWp.cond{P:Program}{c:Cfg}{x:Operand}{p q:Code}{Q:Exit->Fr->Store->Prop}{A:Fr}{st:Store}(t:Bool)(ht:A.ev x=.av (.s (.bool t)))(h:Cv t (AWp P c p Q A st) (AWp P c q Q A st)):AWp P c (.cond x p q) Q A st:=by
  refine⟨λOth M a w sim=>?_⟩;have hv:a.eval x=.bool t:=ψn;refine wpIn_cond hv ?_;cases t with
  |true=>exact(AWp.out (show AWp P c p Q A st from h)) Oth M a w sim
  |false=>exact(AWp.out (show AWp P c q Q A st from h)) Oth M a w sim
section
variable {P:Program} {c:Cfg} {I:Info} {w:World} {T:BB}
def za2:Ty->Bool
  |.int _=>true
  |_=>false
def O2(I:Info)(kt:TypeId)(k:AV):Bool:=
  match I kt with
  |none=>false
  | some i=>match i.ty,k with
    |.int _,_=>true
    |.bool,_=>true
    |.struct fs,.agg cs=>fs.all λf=>match I f.2 with|some j=>za2 j.ty&&(Dm j (cs.drop f.1)).isSome|none=>false
    |_,_=>false
def zdm{kt:TypeId}{k:IntKind}(h:P.underlying kt=some (.int k))(v:Value)(e:Bool)(n:Nat):(Instr.checkKey e (n+1) kt v).run P w=.ok () w:=by simp_all[Instr.checkKey,yv]
theorem ymo{kt:TypeId}(h:P.underlying kt=some .bool)(v:Value)(e:Bool)(n:Nat):(Instr.checkKey e (n+1) kt v).run P w=.ok () w:=by simp_all[Instr.checkKey,yv]
def iz(hI:qe P I){kt:TypeId}{k:AV}{kv:Value}(h:O2 I kt k=true)(hv:VRel w T k kv)(e:Bool):(Instr.checkKey e 10000 kt kv).run P w=.ok () w:=by
  unfold O2 at h;cases hi:I kt with
  |none=>grind
  | some i=>
    rw[hi]at h;have ht:=hI kt i hi;simp only at h;split at h
    · rename_i k' hy;exact zdm (Lv ht hy) kv e 9999
    · grind[ymo,nj]
    · rename_i fs cs hy
      obtain⟨cv,rfl,hr⟩:=F0 hv;obtain⟨a,ha1,ha2⟩:=Nn ht hy;rw[show(10000:Nat)=9999+1 from rfl,Instr.checkKey];simp only[Sem.run_bind,yv ha1,Result.andThen_ok];rw[<-Array.forIn_toList];subst ha2;clear ha1 hy;generalize a.toList=L at h;induction L with
      |nil=>simp
      | cons f L ih=>
        simp only[Fcc,List.all_cons,Fay]at h;obtain⟨h1,h2⟩:=h;cases hj:I f.type with
        |none=>grind
        | some j=>
          simp only[hj,Fay]at h1;obtain⟨h3,h4⟩:=h1;obtain⟨x,hx⟩:=Option.isSome_iff_exists.1 h4;obtain⟨v,r1,r2⟩:=Om (hI _ _ hj) hr hx;have hk:∃k,j.ty=.int k:=by unfold za2 at h3;grind
          obtain⟨k,hk⟩:=hk;have r3:=zdm (w:=w) (Lv (hI _ _ hj) hk) v e 9998;simp_all
    · cases h
def yab{kt:TypeId}{d:TypeDesc}(hd:P.underlying kt=some d){a b:Value}{r:Bool}(h:Instr.sameNow d a b=some r)(D:Nat):(Op.equalIn (D+1) kt a b).run P w=.ok r w:=by
  unfold Instr.sameNow at h;split at h
  · simp_all[Op.equalIn,yv]
  · simp_all[Op.equalIn,yv]
  · simp_all[Op.equalIn,yv]
  · cases h
def gp(hI:qe P I){kt:TypeId}{k:AV}{kv:Value}(hv:VRel w T k kv)(q:AV×AV->Bool){es:List (AV×AV)}{ms:List MapEntry}(hl:es.length=ms.length)
    (hr:∀(i:Nat) (x:AV×AV) (y:MapEntry),es[i]?=some x->ms[i]?=some y->VRel w T x.1 y.key) (hq:∀e∈es,Fs I 5 kt k e.1=some (q e)) (hkt:(I kt).isSome):
    ∃r,(Instr.findKey kt kv ms).run P w=.ok r w/\((r=none/\es.findIdx? q=none)\/∃i e m,r=some (i,m.val)/\es.findIdx? q=some i/\es[i]?=some e/\ms[i]?=some m/\q e=true):=by
  have eqrun:∀(i:Nat) (e:AV×AV) (m:MapEntry),es[i]?=some e->ms[i]?=some m->(Op.equal kt kv m.key).run P w=.ok (q e) w:=λi e m he hm=>
    zcq hI 5 kt k e.1 (q e) (hq e (Fa3 he)) 10000 θ kv m.key hv (hr i e m he hm)
  obtain⟨ik,hik⟩:=Option.isSome_iff_exists.1 hkt;obtain⟨d,hd,_⟩:=(hI kt ik hik).und;have same:∀(i:Nat) (e:AV×AV) (m:MapEntry) (b:Bool),es[i]?=some e->ms[i]?=some m->Instr.sameNow d kv m.key=some b->b=q e:=by intro i e m b he hm hs;have h1:=eqrun i e m he hm;have h2:(Op.equal kt kv m.key).run P w=.ok b w:=yab hd hs 9999;grind
  have res:∀(es:List (AV×AV)) (ms:List MapEntry) (i0:Nat),es.length=ms.length->
      (∀(i:Nat) (e:AV×AV) (m:MapEntry),es[i]?=some e->ms[i]?=some m->(Op.equal kt kv m.key).run P w=.ok (q e) w/\∀b,Instr.sameNow d kv m.key=some b->b=q e)->
      ∃ r,((r=none/\es.findIdx? q=none)\/∃i e m,r=some (i0+i,m.val)/\es.findIdx? q=some i/\es[i]?=some e/\ms[i]?=some m/\q e=true)/\(Instr.findAsking kt kv ms i0).run P w=.ok r w∧
        ∀r',Instr.findNow d kv ms i0=some r'->r'=r:=by
    intro es;induction es with
    | nil=>
      intro ms i0 hl _;cases ms with
      |cons m ms=>simp at hl
      |nil=>simp_all[Instr.findAsking,Instr.findNow]
    | cons e es ih=>
      intro ms i0 hl hall;cases ms with
      |nil=>simp at hl
      | cons m ms=>
        obtain⟨h1,h2⟩:=hall 0 e m rfl rfl;cases hqe:q e with
        | true=>
          rw[hqe]at h1 h2;refine⟨some (i0,m.val),.inr ⟨0,e,m,rfl,δ,rfl,rfl,hqe⟩,?_,λr' h=>?_⟩
          · simp_all[Instr.findAsking]
          · unfold Instr.findNow at h
            grind
        | false=>
          rw[hqe]at h1 h2;obtain⟨r,h3,h4,h5⟩:=ih ms (i0+1) δ λi e' m' he hm=>hall (i+1) e' m' he hm;refine⟨r,?_,?_,λr' h=>?_⟩
          · rcases h3 with⟨h6,h7⟩|⟨i,e',m',h6,h7,h8,h9,h10⟩
            · grind
            · exact .inr ⟨i+1,e',m',δ,δ,h8,h9,h10⟩
          · simp_all[Instr.findAsking]
          · unfold Instr.findNow at h
            grind
  obtain⟨r,h1,h2,h3⟩:=res es ms 0 hl λi e m he hm=>⟨eqrun i e m he hm,λb=>same i e m b he hm⟩
  refine⟨r,?_,?_⟩
  · unfold Instr.findKey
    simp only[Sem.run_bind,yv hd,Result.andThen_ok];cases hf:Instr.findNow d kv ms 0 with
    |none=>exact h2
    |some r'=>simp_all
  grind
def Dg(i:TI):AV:=bif Cr i.ty then .agg (i.zero.map AV.s)else match i.zero with|v::_=>.s v|[]=>.any
def zev{t:TypeId}{i:TI}(h:TIok P t i)(w:World)(T:BB):∃z,(zeroValue t).run P w=.ok z w/\VRel w T (Dg i) z:=by
  obtain⟨inf,h1,_,_,z,h2,h3⟩:=h.info;refine⟨z,by simp[zeroValue,typeInfo,h1,h2],?_⟩;unfold Dg;rcases h.zag inf z h1 h2 with⟨h4,cs,rfl⟩|⟨h4,h5⟩
  · rw[h4]
    refine Ls ?_;have:i.zero=cs.toList:=h3.symm;rw[this];exact Reads.map_s _
  · rw[h4,h5]
    exact .s _
end
end Go.V
