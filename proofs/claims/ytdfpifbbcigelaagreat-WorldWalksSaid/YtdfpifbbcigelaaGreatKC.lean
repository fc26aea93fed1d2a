/- Ground of laws of thronglaw25: contracts and plain lemmas; no condition beyond the row's own. -/
import Derived.RangeFuncLeaves
import Derived.Test.YtdfpifbbcigelaaGreatKB
set_option linter.unusedSimpArgs false
set_option linter.unusedVariables false
namespace Go.V
def K9(c:Cfg)(o:Oper)(A:Fr)(K:Fr->Prop):Prop:=ql A c.n o.dst .und K
def Aj(P:Program)(c:Cfg)(ops:Array Oper)(K:Fr->Store->Prop):List Oper->Fr->Store->Prop
  |[],A,st=>K A st
  | o::rest,A,st=>
    match o.guard with
    |none=>Ib P c o (Aj P c ops K rest) A st
    | some (j,want)=>optK ((ops[j]?).bind (·.dst)) λt=>
      match A.t t with
      |.av (.s (.bool b))=>Bb b
          (bif want then Ib P c o (Aj P c ops K rest) (A.put t (xr true)) st else K9 c o (A.put t (xr true)) λA'=>Aj P c ops K rest A' st)
          (bif want then K9 c o (A.put t (xr false)) λA'=>Aj P c ops K rest A' st else Ib P c o (Aj P c ops K rest) (A.put t (xr false)) st)
      |.und=>K9 c o A λA'=>Aj P c ops K rest A' st
      |_=>False
structure AWp(P:Program)(c:Cfg)(code:Code)(Q:Exit->Fr->Store->Prop)(A:Fr)(st:Store):Prop where
  out:∀Oth M a w,Sim c.N Oth A st M a w->code.wpIn c.F 0 P (λe a' w'=>∃A' st' M',Q e A' st'/\Sim c.N Oth A' st' M' a' w'/\Chg M w M' w') a w
structure ADraw(P:Program)(c:Cfg)(ops:Array Oper)(K:Fr->Store->Prop)(A:Fr)(st:Store):Prop where
  out:∀id,AWp P c (.region id ops true) (λe A' st'=>match e with|.normal=>K A' st'|_=>False) A st
def Nd(next:Fr->Store->Prop)(Q:Exit->Fr->Store->Prop):Exit->Fr->Store->Prop
  |.normal=>next
  |e=>Q e
def O5(id:Nat)(Q:Exit->Fr->Store->Prop):Exit->Fr->Store->Prop
  |.exit id'=>bif Nat.beq id' id then Q .normal else Q (.exit id')
  |e=>Q e
def l8(Q:Exit->Fr->Store->Prop):Exit->Fr->Store->Prop
  |.goto _=>λ_ _=>False
  |e=>Q e
def vc(P:Program)(c:Cfg):Code->(Exit->Fr->Store->Prop)->Fr->Store->Prop
  |.skip,Q,A,st=>Q .normal A st
  | .region _ ops draw,Q,A,st=>match draw with
    |false=>Aj P c ops (Q .normal) ops.toList A st
    |true=>ADraw P c ops (Q .normal) A st
  |.seq a b,Q,A,st=>vc P c a (Nd (vc P c b Q) Q) A st
  | .cond x a b,Q,A,st=>match A.ev x with
    |.av (.s (.bool t))=>Bb t (vc P c a Q A st) (vc P c b Q A st)
    |_=>False
  |.block id b,Q,A,st=>vc P c b (O5 id Q) A st
  |.loop b,Q,A,st=>AWp P c (.loop b) Q A st
  |.exit id,Q,A,st=>Q (.exit id) A st
  |.scope b,Q,A,st=>vc P c b (l8 Q) A st
  |.label _,Q,A,st=>Q .normal A st
  |.ret,Q,A,st=>Q .ret A st
  |_,_,_,_=>False
section
variable {P:Program} {c:Cfg}
theorem Fr.put_self{A:Fr}{d:Nat}{x:LV}(h:A.t d=x):A.put d x=A:=by
  unfold Fr.put
  congr
  funext i
  by_cases hi:i=d
  · subst hi;simp[h]
  · simp[yv hi]
theorem oz{ops:Array Oper}{tmps:Array Value}{j t:Nat}{b:Bool}(hd:(ops[j]?).bind (·.dst)=some t)(h:tmps.getD t undef=.bool b):yielded ops tmps j=some b:=by
  unfold yielded
  rw[hd]
  simp only[Option.bind_some]
  rw[Fav]at h
  cases ht:tmps[t]? with
  |none=>rw[ht]at h;simp[undef]at h
  |some v=>rw[ht]at h;simp at h;subst h;rfl
theorem ow{ops:Array Oper}{tmps:Array Value}{j t:Nat}(hd:(ops[j]?).bind (·.dst)=some t)(h:tmps.getD t undef=undef):yielded ops tmps j=none:=by
  unfold yielded
  rw[hd]
  simp only[Option.bind_some]
  rw[Fav]at h
  cases ht:tmps[t]? with
  |none=>rfl
  |some v=>rw[ht]at h;simp at h;subst h;rfl
theorem Mu{o:Oper}{a:Act}{w:World}{K K':Act->World->Prop}{Q Q':Exit->Act->World->Prop}(hk:∀a w,K a w->K' a w)(hn:∀e a w,e≠.normal->¬Q e a w)(h:o.wpIn c.F 0 P a w K Q):o.wpIn c.F 0 P a w K' Q':=by
  refine⟨h.1,?_⟩
  have h:=h.2
  generalize(o.semAt c.F.round a.eval).run P w=r at*
  have nq:∀(e:Exit) (a:Act) (w:World) {p:Prop},e≠.normal->Q e a w->p:=λe a w p hne h=>(hn e a w hne h).elim
  cases r with
  | ok x w'=>
    cases x<;>simp only[Oper.uponIn]at h⊢<;>
      first
        |exact hk _ _ h
        |exact⟨h.1,CallsIn.mono h.2 (λe w'' he=>by
            cases e with
            |returned v=>exact hk _ _ he
            |panicked ch=>exact nq _ _ _ (by simp) he
            |outgrown=>obtain⟨a2,w2,h2⟩:=he;exact nq _ _ _ (by simp) h2)⟩
        |exact⟨h.1,RowsIn.mono h.2 (λ_ _ he=>hk _ _ he)⟩
        |exact⟨h.1,RoundIn.mono h.2 (λe w'' he=>by
            cases e with
            |returned v=>exact hk _ _ he
            |panicked ch=>exact nq _ _ _ (by simp) he
            |outgrown=>obtain⟨a2,w2,h2⟩:=he;exact nq _ _ _ (by simp) h2)⟩
        |exact h
  |halt x w'=>cases x<;>simp only[Oper.uponIn]at h⊢<;>first|exact nq _ _ _ (by simp) h|exact h
theorem dl(hI:yp P c.I)(ops:Array Oper)(K:Fr->Store->Prop):∀(l:List Oper) (A:Fr) (st:Store),Aj P c ops K l A st->
    ∀Oth M a w,Sim c.N Oth A st M a w->wpListIn c.F 0 P ops (λe a' w'=>e=.normal/\∃A' st' M',K A' st'/\Sim c.N Oth A' st' M' a' w'/\Chg M w M' w') l a w:=by
  intro l
  induction l with
  |nil=>intro A st h Oth M a w sim;exact⟨rfl,A,st,M,h,sim,Chg.refl M w⟩
  | cons o rest ih=>
    intro A st h Oth M a w sim
    have mono:∀(M':Nat->Nat->Prop) (w':World) (a':Act) (A':Fr) (st':Store),Aj P c ops K rest A' st'->Sim c.N Oth A' st' M' a' w'->Chg M w M' w'->
        wpListIn c.F 0 P ops (λe a' w'=>e=.normal/\∃A' st' M',K A' st'/\Sim c.N Oth A' st' M' a' w'/\Chg M w M' w') rest a' w':=by
      intro M' w' a' A' st' h1 h2 h3
      have:=ih A' st' h1 Oth M' a' w' h2
      clear h h1
      -- weaken the post
      have wm:∀(l:List Oper) (a w0) (Q Q':Exit->Act->World->Prop),(∀e a w,Q e a w->Q' e a w)->(∀e a w,e≠.normal->¬Q e a w)->wpListIn c.F 0 P ops Q l a w0->wpListIn c.F 0 P ops Q' l a w0:=by
        intro l
        induction l with
        |nil=>intro a w0 Q Q' hq _ h;exact hq _ _ _ h
        | cons o l ihl=>
          intro a w0 Q Q' hq hn h
          unfold wpListIn at h⊢
          split
          · rename_i hw
            rw[if_pos hw]at h
            exact Mu (λa w h=>ihl a w Q Q' hq hn h) (λe a w hne h=>hn e a w hne h) h
          · rename_i hw
            rw[if_neg hw]at h
            exact⟨λ_ _=>Tv,ihl _ _ _ _ hq hn h.2⟩
      refine wm rest a' w' _ _ ?_ ?_ this
      · rintro e a w ⟨he,A',st',M'',h4,h5,h6⟩
        exact⟨he,A',st',M'',h4,h5,h3.trans h6⟩
      · rintro e a w hne ⟨he,_⟩
        exact hne he
    -- an operation that is carried out
    have go:∀A1,Ib P c o (Aj P c ops K rest) A1 st->Sim c.N Oth A1 st M a w->Region.wanted o (yielded ops a.tmps)=true->
        wpListIn c.F 0 P ops (λe a' w'=>e=.normal/\∃A' st' M',K A' st'/\Sim c.N Oth A' st' M' a' w'/\Chg M w M' w') (o::rest) a w:=by
      intro A1 h1 sim1 hw
      unfold wpListIn
      rw[if_pos hw]
      exact Mu (λa' w' ⟨A',st',M',h3,h4,h5⟩=>mono M' w' a' A' st' h3 h4 h5) (λ_ _ _ _ h=>h) (ygx hI h1 Oth M a w sim1)
    have skip:∀A1,(K9 c o A1 λA'=>Aj P c ops K rest A' st)->Sim c.N Oth A1 st M a w->Region.wanted o (yielded ops a.tmps)=false->
        wpListIn c.F 0 P ops (λe a' w'=>e=.normal/\∃A' st' M',K A' st'/\Sim c.N Oth A' st' M' a' w'/\Chg M w M' w') (o::rest) a w:=by
      intro A1 h1 sim1 hw
      unfold wpListIn
      rw[if_neg (by rw[hw];simp)]
      refine⟨λ_ _=>Tv,?_⟩
      obtain⟨β,sim1⟩:=sim1
      unfold K9 ql at h1
      cases hd:o.dst with
      |none=>rw[hd]at h1;exact mono M w _ A1 st h1 ⟨β,sim1⟩ (Chg.refl _ _)
      | some d=>
        rw[hd]at h1
        obtain⟨hlt,h1⟩:=vz h1
        exact mono M w _ _ st h1 ⟨β,sim1.put hlt (x:=.und) rfl⟩ (Chg.refl _ _)
    unfold Aj at h
    cases hg:o.guard with
    | none=>
      rw[hg]at h
      exact go A h sim (by simp[Region.wanted,hg])
    | some jw=>
      obtain⟨j,want⟩:=jw
      rw[hg]at h
      obtain⟨t,ht,h⟩:=zl h
      have hwant:∀y,yielded ops a.tmps j=y->Region.wanted o (yielded ops a.tmps)=(y==some want):=λy hy=>by simp[Region.wanted,hg,hy]
      split at h
      · rename_i b hb
        have htv:a.tmps.getD t undef=.bool b:=by
          obtain⟨β,s⟩:=sim
          have:=s.tm t
          rw[hb]at this
          exact VRel.eq_s this
        have hw:=hwant _ (oz ht htv)
        cases b with
        | true=>
          rw[Fr.put_self (A:=A) (x:=xr true) hb]at h
          cases want with
          |true=>exact go A h sim (by rw[hw];rfl)
          |false=>exact skip A h sim (by rw[hw];rfl)
        | false=>
          rw[Fr.put_self (A:=A) (x:=xr false) hb]at h
          cases want with
          |true=>exact skip A h sim (by rw[hw];rfl)
          |false=>exact go A h sim (by rw[hw];rfl)
      · rename_i hb
        have htv:a.tmps.getD t undef=undef:=by
          obtain⟨β,s⟩:=sim
          have:=s.tm t
          rw[hb]at this
          exact this
        exact skip A h sim (by rw[hwant _ (ow ht htv)];rfl)
      · exact h.elim
end
section
variable {P:Program} {c:Cfg}
theorem Code.wpF_mono{F:Fence}{code:Code}{Q Q':Exit->Act->World->Prop}{a:Act}{w:World}(hq:∀e a w,Q e a w->Q' e a w)(h:code.wpIn F 0 P Q a w):code.wpIn F 0 P Q' a w:=wpIn_mono h hq
theorem cm{F:Fence}{n:Nat}{code:Code}{Q:Exit->Act->World->Prop}{a:Act}{w:World}(h:code.wpIn F n P (Exit.noGoto Q) a w):(Code.scope code).wpIn F n P Q a w:=by
  intro b k cs hro hb hr
  have s1:step P (lone (b.atR a (.code (.scope code)::k)) cs w)=.next (lone (b.atR a (.code code::.inScope code::k)) cs w):=step_lone_go (by simp[stepG,stepG.exec,Frame.atR])
  have h0:(lone (b.atR a (.code (.scope code)::k)) cs w).fenced P F:=fenced_calm hb hr rfl
  obtain⟨e,a₁,w₁,hq,harr⟩:=h b (.inScope code::k) cs hro hb hr
  cases e with
  | normal=>
    have s2:step P (lone (b.atR a₁ (.inScope code::k)) cs w₁)=.next (lone (b.atR a₁ k) cs w₁):=step_lone_go (by simp[stepG,stepG.exec,Frame.atR])
    exact⟨.normal,a₁,w₁,hq,.head h0 s1 (StepsIn.trans harr (.one (fenced_calm hb hr rfl) s2))⟩
  | exit id=>
    have hx:exitTo id (.inScope code::k)=exitTo id k:=by simp[exitTo]
    exact⟨.exit id,a₁,w₁,hq,λk' hk=>.head h0 s1 (harr.1 k' (by rw[hx];exact hk)),λhr' hk=>let⟨k₁,h1,h2⟩:=harr.2 hr' (by rw[hx];exact hk);⟨k₁,h1,.head h0 s1 h2⟩⟩
  |goto l=>exact hq.elim
  |ret=>exact⟨_,a₁,w₁,hq,.of_steps (.one h0 s1) harr⟩
  |panic ch=>exact⟨_,a₁,w₁,hq,.of_steps (.one h0 s1) harr⟩
  |outgrown=>exact⟨_,a₁,w₁,hq,.of_steps (.one h0 s1) harr⟩
theorem AWp.mono{code:Code}{Q Q':Exit->Fr->Store->Prop}{A:Fr}{st:Store}(h:AWp P c code Q A st)(hq:∀e A st,Q e A st->Q' e A st):AWp P c code Q' A st:=
  ⟨λOth M a w sim=>Code.wpF_mono (λe a' w' ⟨A',st',M',h1,h2,h3⟩=>⟨A',st',M',hq _ _ _ h1,h2,h3⟩) (h.out Oth M a w sim)⟩
theorem zaq{F:Fence}{ops:Array Oper}{id:Nat}{Q:Exit->Act->World->Prop}{R:Act->World->Prop}{a:Act}{w:World}(h:wpListIn F 0 P ops (λe a' w'=>e=.normal/\R a' w') ops.toList a w)(hq:∀a w,R a w->Q .normal a w):(Code.region id ops false).wpIn F 0 P Q a w:=
  Code.wpF_mono (λe a' w' ⟨he,hr⟩=>by subst he;exact hq _ _ hr) (wpIn_region_list h)
theorem Ro(hI:yp P c.I):∀(code:Code) (Q:Exit->Fr->Store->Prop) (A:Fr) (st:Store),vc P c code Q A st->AWp P c code Q A st:=by
  intro code
  induction code with
  |skip=>intro Q A st h;exact⟨λOth M a w sim=>wpIn_skip ⟨A,st,M,h,sim,Chg.refl _ _⟩⟩
  | region id ops draw=>
    intro Q A st h
    cases draw with
    |false=>exact⟨λOth M a w sim=>zaq (dl hI ops (Q .normal) ops.toList A st h Oth M a w sim) λ_ _ h=>h⟩
    |true=>exact(ADraw.out h id).mono λe A' st' h'=>by cases e<;>first|exact h'|exact h'.elim
  | seq x y ihx ihy=>
    intro Q A st h
    refine⟨λOth M a w sim=>wpIn_seq ?_⟩
    refine Code.wpF_mono ?_ ((ihx _ A st h).out Oth M a w sim)
    rintro e a' w' ⟨A',st',M',h1,h2,h3⟩
    cases e with
    | normal=>
      refine Code.wpF_mono ?_ ((ihy _ A' st' h1).out Oth M' a' w' h2)
      rintro e a'' w'' ⟨A'',st'',M'',h4,h5,h6⟩
      exact⟨A'',st'',M'',h4,h5,h3.trans h6⟩
    |_=>exact⟨A',st',M',h1,h2,h3⟩
  | cond x p q ihp ihq=>
    intro Q A st h
    simp only[vc]at h
    split at h
    · rename_i t ht
      refine⟨λOth M a w sim=>?_⟩
      have hv:a.eval x=.bool t:=by
        obtain⟨β,s⟩:=sim
        exact VRel.eq_s (yz s.env ht)
      refine wpIn_cond hv ?_
      cases t with
      |true=>exact(ihp Q A st h).out Oth M a w sim
      |false=>exact(ihq Q A st h).out Oth M a w sim
    · exact h.elim
  | block id b ih=>
    intro Q A st h
    refine⟨λOth M a w sim=>wpIn_block ?_⟩
    refine Code.wpF_mono ?_ ((ih _ A st h).out Oth M a w sim)
    rintro e a' w' ⟨A',st',M',h1,h2,h3⟩
    cases e with
    | exit id'=>
      simp only[O5]at h1
      simp only[Exit.inBlock]
      by_cases he:id'=id
      · subst he
        simp only[Fbs,cond_true]at h1
        rw[if_pos rfl]
        exact⟨A',st',M',h1,h2,h3⟩
      · simp only[yv he,cond_false]at h1
        rw[if_neg he]
        exact⟨A',st',M',h1,h2,h3⟩
    |_=>exact⟨A',st',M',h1,h2,h3⟩
  |loop b ih=>intro Q A st h;exact h
  |rangeFunc f ps x y ihx ihy=>intro Q A st h;exact h.elim
  |exit id=>intro Q A st h;exact⟨λOth M a w sim=>wpIn_exit ⟨A,st,M,h,sim,Chg.refl _ _⟩⟩
  | scope b ih=>
    intro Q A st h
    refine⟨λOth M a w sim=>cm ?_⟩
    refine Code.wpF_mono ?_ ((ih _ A st h).out Oth M a w sim)
    rintro e a' w' ⟨A',st',M',h1,h2,h3⟩
    cases e with
    |goto l=>exact h1.elim
    |_=>exact⟨A',st',M',h1,h2,h3⟩
  |label l=>intro Q A st h;exact⟨λOth M a w sim=>wpIn_label ⟨A,st,M,h,sim,Chg.refl _ _⟩⟩
  |goto l=>intro Q A st h;exact h.elim
  |ret=>intro Q A st h;exact⟨λOth M a w sim=>wpIn_ret ⟨A,st,M,h,sim,Chg.refl _ _⟩⟩
  |refuse s=>intro Q A st h;exact h.elim
def Iy(c:Cfg)(A:Fr)(st:Store):List ResultVar->(List AV->Prop)->Prop
  |[],K=>K []
  | .tmp t::rest,K=>match A.t t with
    |.av x=>Iy c A st rest λl=>K (x::l)
    |_=>False
  |.cell p t::rest,K=>optK (c.I t) λi=>Mk A.bx st (A.t p) λl=>optK (Bt i l) λx=>Iy c A st rest λl=>K (x::l)
def iq:List AV->AV
  |[x]=>x
  |l=>.tup l
def Ny(c:Cfg)(rs:List ResultVar)(R:Ja)(A:Fr)(st:Store):Prop:=
  Iy c A st rs λl=>∃r st',AV.le (iq l) r/\st.Has st'/\R r st'
def Sq(c:Cfg)(rs:List ResultVar)(R:Ja):Exit->Fr->Store->Prop
  |.normal=>Ny c rs R
  |.ret=>Ny c rs R
  |_=>λ_ _=>False
def Kt(args:List AV)(i:Nat):LV:=
  match args,i with
  |[],_=>.und
  |x::_,0=>.av x
  |_::l,i+1=>Kt l i
def vj(args:List AV):Fr:=⟨Kt args,λ_=>none⟩
theorem bu(args:List AV)(i:Nat):Kt args i=match args[i]? with|some x=>.av x|none=>.und:=by
  induction args generalizing i with
  |nil=>simp[Kt]
  | cons x l ih=>
    cases i with
    |zero=>simp[Kt]
    |succ i=>simp[Kt,ih]
theorem ir(hI:yp P c.I){w:World}{T:Nat->Nat->Prop}{β:Nat->Nat}{A:Fr}{st:Store}{a:Act}(he:Env w T β A.ev A.bx st a.eval):∀(rs:List ResultVar) (K:List AV->Prop),Iy c A st rs K->
    ∃l vs,K l/\(rs.mapM (m:=Sem) λ|.tmp t=>pure (a.tmps.getD t undef)|.cell p t=>do loadVar t (<-asAddr (a.tmps.getD p undef))).run P w=.ok vs w/\Reads w T l vs:=by
  intro rs
  induction rs with
  |nil=>intro K h;exact⟨[],[],h,by simp,Reads.nil⟩
  | cons r rs ih=>
    intro K h
    cases r with
    | tmp t=>
      simp only[Iy]at h
      split at h
      · rename_i x hx
        obtain⟨l,vs,h1,h2,h3⟩:=ih _ h
        refine⟨x::l,a.tmps.getD t undef::vs,h1,by simp only[Fc7,Sem.run_bind,Sem.run_pure,Result.andThen_ok,h2],Reads.cons ?_ h3⟩
        have:=he.ev (.tmp t)
        simp only[Fr.ev,hx]at this
        exact this
      · exact h.elim
    | cell p t=>
      simp only[Iy]at h
      obtain⟨i,hi,h⟩:=zl h
      obtain⟨cl,hcl,_,hs⟩:=te (ev:=A.ev) h
      obtain⟨x,hx,hcl⟩:=zl hcl
      obtain⟨b,off,hv,hav⟩:=hs w T β a.eval he _ (he.ev (.tmp p))
      obtain⟨v,hr,hvr⟩:=nn (P:=P) (hI _ _ hi) hav hx
      obtain⟨l,vs,h1,h2,h3⟩:=ih _ hcl
      have hv':a.tmps.getD p undef=.pointer (some ⟨b,off,none⟩):=hv
      refine⟨x::l,v::vs,h1,?_,Reads.cons hvr h3⟩
      have ha:(asAddr (a.tmps.getD p undef)).run P w=.ok ⟨b,off,none⟩ w:=by rw[hv'];rfl
      simp only[Fc7,Sem.run_bind,ha,Sem.run_pure,Result.andThen_ok,hr,h2]
theorem zwz{w:World}{T:Nat->Nat->Prop}{l:List AV}{vs:List Value}(h:Reads w T l vs):VRel w T (iq l) (if h:vs.toArray.size=1 then vs.toArray[0]else .tuple vs.toArray):=by
  obtain⟨hl,hr⟩:=h
  match l,vs,hl with
  |[x],[v],_=>exact hr 0 x v rfl rfl
  |[],[],_=>exact j8 ⟨rfl,hr⟩
  | x::y::l,u::v::vs,hl=>
    have:¬(u::v::vs).toArray.size=1:=by simp
    rw[dif_neg this]
    exact j8 ⟨by simpa using hl,by simpa using hr⟩
def D7(w:World)(b:Nat)(o:Obj):World:={w with heap:=w.heap.setIfInBounds b o}
theorem lj{w:World}{b:Nat}{o:Obj}(h:b<w.heap.size):(D7 w b o).heap[b]?=some o:=by simp[D7,h]
theorem Sz{w:World}{b k:Nat}{o:Obj}(h:k≠b):(D7 w b o).heap[k]?=w.heap[k]?:=by
  simp[D7,Fco (Ne.symm h)]
theorem zxl{w:World}{b:Nat}{o:Obj}:(D7 w b o).heap.size=w.heap.size:=by simp[D7]
theorem zvn{w:World}{b:Nat}(h:w.heap[b]?=some (.deferred (some []))):(Instr.takeDeferred b).run P w=.ok [] (D7 w b (.deferred none)):=by
  simp[Instr.takeDeferred,getObj,setObj,Sem.run_bind,Sem.run,h,Result.andThen,D7]
structure Shut(Oth M:Nat->Nat->Prop)(w w':World):Prop where
  size:w'.heap.size=w.heap.size
  blk:∀b,w'.heap[b]?=w.heap[b]?\/(w.heap[b]?=some (.deferred (some []))/\w'.heap[b]?=some (.deferred none)/\∀o,¬M b o/\¬Oth b o)
  tape:w'.tape=w.tape
  os:w'.os=w.os
  output:w'.output=w.output
theorem Shut.keeps{Oth M:Nat->Nat->Prop}{w w':World}(h:Shut Oth M w w')(T:Nat->Nat->Prop):Keeps w T w' T where
  cell b o c hc _:=by
    rcases h.blk b with e|⟨e,_,_⟩
    · rw[Ch e];exact hc
    · simp[World.cell?,e]at hc
  out _ _ _ _ hT:=hT
  shp b c e fr hw:=by
    rcases h.blk b with e'|⟨e',_,_⟩
    · exact⟨c,fr,by rw[e'];exact hw,rfl⟩
    · rw[e']at hw;cases hw
theorem Shut.sto{Oth M:Nat->Nat->Prop}{w w':World}{st:Store}(h:Shut Oth M w w')(s:StoreOK st Oth M w):StoreOK st Oth M w' where
  obj b x hx:=by
    have h1:=s.obj b x hx
    refine⟨ObjRel.same h1.1 (h.keeps _) ?_,h1.2⟩
    rcases h.blk b with e|⟨_,_,e⟩
    · exact e
    · exact absurd (h1.2 0) (e 0).1
  tok b top ht:=by
    obtain⟨c,e,fr,h1,h2,h3,h4⟩:=s.tok b top ht
    refine⟨c,e,fr,?_,h2,h3,h4⟩
    rcases h.blk b with e'|⟨e',_,_⟩
    · rw[e'];exact h1
    · rw[e']at h1;cases h1
  mlt b o hm:=by rw[h.size];exact s.mlt b o hm
  olt b o hm:=by rw[h.size];exact s.olt b o hm
  dis:=s.dis
theorem zz0{Oth M:Nat->Nat->Prop}{fn:Func}{tmps:Array Value}{R:Ending->World->Prop}:∀(ds:List Deferred) (w:World),Marks Oth M w ds->
    (∀w',Shut Oth M w w'->∃v,(results fn tmps).run P w'=.ok v w'/\R (.returned v) w')->LeavesInM Fence.wide 0 P fn tmps R ds .returning w:=by
  intro ds
  induction ds with
  |nil=>intro w _ h;exact h w ⟨rfl,λ_=>.inl rfl,rfl,rfl,rfl⟩
  | cons d ds ih=>
    intro w hm h
    obtain⟨D,rfl,h1,h2⟩:=hm.all d (Fbj)
    have hnd:=Fc4.1 hm.nd
    have hne:∀d'∈ds,∀D',d'={target:=.collected D',args:=#[]}->D'≠D:=λd' hd' D' e e2=>hnd.1 d' hd' (by rw[e,e2])
    refine⟨by simp,.inl ⟨D,D7 w D (.deferred none),rfl,zvn h1,ih _ ⟨hnd.2,λd' hd'=>?_⟩ λw' hs=>h w' ?_⟩⟩
    · obtain⟨D',e,h3,h4⟩:=hm.all d' (Fa3 _ hd')
      exact⟨D',e,(Sz (hne d' hd' D' e)).trans h3,h4⟩
    · refine⟨hs.size.trans zxl,λb=>?_,hs.tape,hs.os,hs.output⟩
      by_cases hb:b=D
      · subst hb
        refine .inr ⟨h1,?_,h2⟩
        rcases hs.blk b with e|⟨e,_,_⟩
        · rw[e];exact lj (j4 h1)
        · rw[lj (j4 h1)]at e;cases e
      · rcases hs.blk b with e|⟨e,e2,e3⟩
        · exact .inl (e.trans (Sz hb))
        · exact .inr ⟨(Sz hb).symm.trans e,e2,e3⟩
def Dm(Oth M:Nat->Nat->Prop)(w:World):Nat->Nat->Prop:=λb o=>Oth b o\/(b<w.heap.size/\¬M b o/\∀c e fr,w.heap[b]?=some (.cells c e fr)->c.size<=o)
theorem lr{Oth M:Nat->Nat->Prop}(w:World):Keeps w (λb o=>M b o\/Oth b o) w (λb o=>M b o\/Dm Oth M w b o) where
  cell _ _ _ h _:=h
  out b o v hc hT:=by
    rintro(h|h|⟨_,_,h⟩)
    · exact hT (.inl h)
    · exact hT (.inr h)
    · unfold World.cell? at hc
      cases hb:w.heap[b]? with
      |none=>simp[hb]at hc
      | some x=>
        cases x with
        | cells c e fr=>
          have h1:=h c e fr hb
          simp[hb]at hc
          have:=(Fbl.1 hc).1
          omega
        |_=>simp[hb]at hc
  shp b c e fr h:=⟨c,fr,h,rfl⟩
theorem zx4{Oth M:Nat->Nat->Prop}{w:World}{st:Store}(s:StoreOK st Oth M w):StoreOK st (Dm Oth M w) M w where
  obj b x hx:=⟨ObjRel.same (s.obj b x hx).1 (lr w) rfl,(s.obj b x hx).2⟩
  tok:=s.tok
  mlt:=s.mlt
  olt b o h:=h.elim (s.olt b o) λh=>h.1
  dis b o h:=h.elim (s.dis b o) λh=>h.2.1
theorem zx5{Oth M:Nat->Nat->Prop}{w:World}{st:Store}{R:Ja}{r:AV}{v:Value}{st':Store}{M':Nat->Nat->Prop}{w' w'':World}(s:StoreOK st Oth M w)(hR:R r st')(hr:VRel w'' (λb o=>M' b o\/Dm Oth M w b o) r v)
    (sto:StoreOK st' (Dm Oth M w) M' w') (hc:Chg M w M' w') (hs:Shut (Dm Oth M w) M' w' w''):qn st R Oth M w v w'':=by
  have hT:∀b o,(M' b o\/Oth b o)->(M' b o\/Dm Oth M w b o):=λb o h=>h.imp id .inl
  have sto':=hs.sto sto
  refine⟨r,st',M',hR,hr.mono hT,⟨λb x hx=>⟨(sto'.obj b x hx).1.mono hT,(sto'.obj b x hx).2⟩,sto'.tok,sto'.mlt,λb o h=>sto'.olt b o (.inl h),λb o h=>sto'.dis b o (.inl h)⟩,?_⟩
  refine{size:=by rw[hs.size];exact hc.size,keep:=λb o hb hm=>?_,blk:=λb hb hm=>?_,shp:=λb c e fr hw=>?_,sub:=hc.sub,tape:=hs.tape.trans hc.tape,os:=hs.os.trans hc.os,output:=hs.output.trans hc.output}
  · rw[<-hc.keep b o hb hm]
    rcases hs.blk b with e|⟨e,e2,_⟩
    · exact Ch e o
    · simp[World.cell?,e,e2]
  · rcases hs.blk b with e|⟨_,_,e⟩
    · exact e.trans (hc.blk b hb hm)
    · exfalso
      cases hx:w.heap[b]? with
      | none=>
        rw[Array.getElem?_eq_none_iff]at hx
        omega
      | some x=>
        cases x with
        |cells c e1 fr=>exact(e c.size).2 (.inr ⟨hb,hm _,λc' e' fr' h=>by rw[hx]at h;cases h;exact Fak _⟩)
        |_=>exact(e 0).2 (.inr ⟨hb,hm _,λc' e' fr' h=>by rw[hx]at h;cases h⟩)
  · obtain⟨c',fr',h1,h2⟩:=hc.shp b c e fr hw
    refine⟨c',fr',?_,h2⟩
    rcases hs.blk b with e'|⟨e',_,_⟩
    · rw[e'];exact h1
    · rw[e']at h1;cases h1
theorem ACalls.of_awp (hI : yp P c.I) {g : FuncId} {fn : Func} {code : Code} {args : List AV} {st : Store} {R : Ja} (hf : P.funcs[g]? = some fn) (hb : fn.body = some code) (hname : (fn.name == "runtime.NumGoroutine") = false)
    (hn:fn.ntmps=c.n) (hlen:Nat.ble args.length c.n=true) (h:AWp P c code (Sq c fn.results.toList R) (vj args) st) (hround:c.round=none:=by rfl) (hD:c.D0=[]:=by rfl):ACalls P g args st R:=by
  refine⟨λOth M w vs sto hr=>?_⟩
  have hrun:(callFunc g vs).run P w=.ok (.enter g vs) w:=by
    have hne : ¬ fn.name = "runtime.NumGoroutine" := by simpa using hname
    simp[callFunc,run_program,hf,hne,hb]
  rw[hrun]
  simp only[Ms]
  have hF:c.F=Fence.wide:=by unfold Cfg.F;rw[hround];rfl
  refine(callsIn_wide (n:=0)).1 (callsIn_of_wp_marks hf hb trivial ?_)
  have hle:args.length<=c.n:=Fbg hlen
  have hsz:vs.size=args.length:=by simpa using hr.1.symm
  let a:Act:={tmps:=vs++Array.replicate (fn.ntmps-vs.size) undef,defers:=[]}
  have sim:SimB c.N (Dm Oth M w) (λ_=>0) (vj args) st M a w:=
    { tsz:=by show Array.size _=c.n;simp[a,hn];omega
      dfr:=MarksD.nil hD
      tm:=λi=>by
        simp only[vj,bu,a]
        rw[Fav]
        by_cases hi:i<vs.size
        · rw[Fc2 hi,Fa5 hi,Fab (by omega)]
          exact(hr.2 i _ _ (Fab (by omega)) (by simp[hi])).keep (lr w)
        · rw[Fbn (by omega)]
          simp only[LRel]
          rw[Fei (by omega)]
          simp only[Fer]
          split<;>rfl
      bx:=λk l hk=>by simp[vj]at hk
      inj:=λk k' hk=>by simp[vj]at hk
      sep:=λk b hk=>by simp[vj]at hk
      sto:=zx4 sto}
  have h2:=h.out (Dm Oth M w) M a w ⟨_,sim⟩
  rw[hF]at h2
  refine Code.wpF_mono ?_ h2
  have fin:∀a' w' A' st' M',Ny c fn.results.toList R A' st'->Sim c.N (Dm Oth M w) A' st' M' a' w'->Chg M w M' w'->
      LeavesInM Fence.wide 0 P fn a'.tmps (λe w'=>∃v,e=.returned v/\qn st R Oth M w v w') a'.defers .returning w':=by
    rintro a' w' A' st' M' hret ⟨β,s⟩ hchg
    refine zz0 a'.defers w' (s.dfr.out hD) λw'' hs=>?_
    have hblk:∀b o,M' b o->w''.heap[b]?=w'.heap[b]?:=λb o hm=>by
      rcases hs.blk b with e|⟨_,_,e⟩
      · exact e
      · exact absurd hm (e o).1
    have he:Env w'' (λb o=>M' b o\/Dm Oth M w b o) β A'.ev A'.bx st' a'.eval:=
      ⟨λx=>(s.ev x).keep (hs.keeps _),λk l hk=>(s.bx k l hk).1.same (hs.keeps _) (hblk _ 0 ((s.bx k l hk).2 0)),λb x hx=>((hs.sto s.sto).obj b x hx).1⟩
    obtain⟨l,vs,⟨r,st'',h1,h2,h3⟩,h4,h5⟩:=ir hI he _ _ hret
    refine⟨_,?_,_,rfl,zx5 sto h3 (h1 _ _ _ (zwz h5)) (s.sto.weaken h2) hchg hs⟩
    unfold results
    rw[Sem.run_bind,Feo,Sem.run_map]
    exact congrArg (λr=>(Result.andThen (Result.andThen r λl w=>.ok l.toArray w) λ(vs:Array Value) w'=>.ok (if h:vs.size=1 then vs[0]else .tuple vs) w')) h4
  rintro e a' w' ⟨A',st',M',h1,h2,h3⟩
  cases e with
  |normal=>exact fin a' w' A' st' M' h1 h2 h3
  |ret=>exact fin a' w' A' st' M' h1 h2 h3
  |_=>exact h1.elim
theorem Qb (hI : yp P c.I) {g : FuncId} {fn : Func} {code : Code} {args : List AV} {st : Store} {R : Ja} (hf : P.funcs[g]? = some fn) (h : AWp P c code (Sq c fn.results.toList R) (vj args) st) (hb : fn.body = some code := by rfl) (hname : (fn.name == "runtime.NumGoroutine") = false := by rfl) (hn : fn.ntmps = c.n := by rfl) (hlen : Nat.ble args.length c.n = true := by rfl) (hround : c.round = none := by rfl) (hD : c.D0 = [] := by rfl): ACalls P g args st R := ACalls.of_awp hI hf hb hname hn hlen h hround hD
theorem ACalls.of_body (hI : yp P c.I) {g : FuncId} {fn : Func} {code : Code} {args : List AV} {st : Store} {R : Ja} (hf : P.funcs[g]? = some fn) (hb : fn.body = some code) (hname : (fn.name == "runtime.NumGoroutine") = false)
    (hn:fn.ntmps=c.n) (hlen:Nat.ble args.length c.n=true) (h:vc P c code (Sq c fn.results.toList R) (vj args) st) (hround:c.round=none:=by rfl) (hD:c.D0=[]:=by rfl):ACalls P g args st R:=
  ACalls.of_awp hI hf hb hname hn hlen (Ro hI code _ _ st h) hround hD
theorem Qa (hI : yp P c.I) {g : FuncId} {fn : Func} {code : Code} {args : List AV} {st : Store} {R : Ja} (hf : P.funcs[g]? = some fn) (h : vc P c code (Sq c fn.results.toList R) (vj args) st) (hb : fn.body = some code := by rfl) (hname : (fn.name == "runtime.NumGoroutine") = false := by rfl) (hn : fn.ntmps = c.n := by rfl) (hlen : Nat.ble args.length c.n = true := by rfl) (hround : c.round = none := by rfl) (hD : c.D0 = [] := by rfl): ACalls P g args st R := ACalls.of_body hI hf hb hname hn hlen h hround hD
def Cu(l:List (Nat×LV))(i:Nat):LV:=
  match l with
  |[]=>.any
  |(j,x)::l=>bif Nat.beq i j then x else Cu l i
def Cv(l:List (Nat×List AV))(i:Nat):Option (List AV):=
  match l with
  |[]=>none
  |(j,x)::l=>bif Nat.beq i j then some x else Cv l i
def Bz(l:List (Nat×LV))(b:List (Nat×List AV)):Fr:=⟨Cu l,Cv b⟩
def Kk(A:Fr):List (Nat×LV)->Prop
  |[]=>True
  |(j,x)::l=>LV.le (A.t j) x/\Kk A l
def Kl(A:Fr):List (Nat×List AV)->Prop
  |[]=>True
  |(j,x)::l=>A.bx j=some x/\Kl A l
theorem yc0{A:Fr}:∀{l:List (Nat×LV)},Kk A l->∀i,LV.le (A.t i) (Cu l i):=by
  intro l
  induction l with
  |nil=>intro _ i;exact LV.le_any _
  | cons p l ih=>
    obtain⟨j,x⟩:=p
    intro h i
    simp only[Cu]
    by_cases hi:i=j
    · subst hi;simp only[Fbs,cond_true];exact h.1
    · simp only[yv hi,cond_false];exact ih h.2 i
theorem yc1{A:Fr}:∀{l:List (Nat×List AV)},Kl A l->∀i x,Cv l i=some x->A.bx i=some x:=by
  intro l
  induction l with
  |nil=>intro _ i x h;simp[Cv]at h
  | cons p l ih=>
    obtain⟨j,y⟩:=p
    intro h i x hx
    simp only[Cv]at hx
    by_cases hi:i=j
    · subst hi;simp only[Fbs,cond_true]at hx;rw[<-hx];exact h.1
    · simp only[yv hi,cond_false]at hx;exact ih h.2 i x hx
theorem Sim.fits{n:SN}{Oth M:Nat->Nat->Prop}{A:Fr}{st st':Store}{a:Act}{w:World}(h:Sim n Oth A st M a w){l:List (Nat×LV)}{b:List (Nat×List AV)}(ht:Kk A l)(hb:Kl A b)(hs:st.Has st'):Sim n Oth (Bz l b) st' M a w:=by
  obtain⟨β,s⟩:=h
  have hbx:∀k x,Cv b k=some x->A.bx k=some x:=yc1 hb
  have hne:∀k,Cv b k≠none->A.bx k≠none:=λk hk=>by
    cases hl:Cv b k with
    |none=>exact absurd hl hk
    |some x=>rw[hbx k x hl];simp
  exact⟨β,
    { tsz:=s.tsz
      dfr:=s.dfr
      tm:=λi=>yc0 ht i _ _ _ _ (s.tm i)
      bx:=λk x hk=>s.bx k x (hbx k x hk)
      inj:=λk k' h1 h2=>s.inj k k' (hne k h1) (hne k' h2)
      sep:=λk b hk hb=>s.sep k b (hne k hk) (by
        rcases hb with hb|hb
        · cases ho:st'.obj b with
          |none=>exact absurd ho hb
          |some x=>exact .inl (by rw[hs.obj b x ho];simp)
        · cases ho:st'.tok b with
          |none=>exact absurd ho hb
          |some x=>exact .inr (by rw[hs.tok b x ho];simp))
      sto:=s.sto.weaken hs}⟩
theorem AWp.weaken{code:Code}{Q:Exit->Fr->Store->Prop}{A:Fr}{st st':Store}{l:List (Nat×LV)}{b:List (Nat×List AV)}(h:AWp P c code Q (Bz l b) st')(ht:Kk A l)(hb:Kl A b)(hs:st.Has st'):AWp P c code Q A st:=
  ⟨λOth M a w sim=>h.out Oth M a w (sim.fits ht hb hs)⟩
structure LoopHead(σ:Type) where
  t:σ->List (Nat×LV)
  bx:σ->List (Nat×List AV)
  inv:σ->Store->Prop
  μ:σ->Nat
def LoopHead.at{σ:Type}(H:LoopHead σ)(A:Fr)(st:Store)(p:σ->Prop):Prop:=
  ∃s,p s/\H.inv s st/\Kk A (H.t s)/\Kl A (H.bx s)
def ij{σ:Type}(H:LoopHead σ)(s:σ)(Q:Exit->Fr->Store->Prop):Exit->Fr->Store->Prop
  |.normal=>λA st=>H.at A st λs'=>H.μ s'<H.μ s
  |e=>Q e
theorem AWp.loop{σ:Type}(H:LoopHead σ){b:Code}{Q:Exit->Fr->Store->Prop}{A:Fr}{st:Store}(hI:yp P c.I)(h0:H.at A st λ_=>True)
    (round:∀s st,H.inv s st->vc P c b (ij H s Q) (Bz (H.t s) (H.bx s)) st):AWp P c (.loop b) Q A st:=by
  obtain⟨s0,_,hi0,ht0,hb0⟩:=h0
  refine⟨λOth M a w sim=>?_⟩
  refine wpIn_loop_ghost (λn a' w'=>∃s st' M',H.μ s=n/\H.inv s st'/\Sim c.N Oth (Bz (H.t s) (H.bx s)) st' M' a' w'/\Chg M w M' w') (H.μ s0)
    ⟨s0,st,M,rfl,hi0,sim.fits ht0 hb0 (Store.Has.refl st),Chg.refl M w⟩ ?_
  rintro n a' w' ⟨s,st',M',rfl,hi,hsim,hchg⟩
  refine Code.wpF_mono ?_ ((Ro hI b _ _ st' (round s st' hi)).out Oth M' a' w' hsim)
  rintro e a'' w'' ⟨A'',st'',M'',h1,h2,h3⟩
  cases e with
  | normal=>
    obtain⟨s',hlt,hi',ht',hb'⟩:=h1
    exact⟨H.μ s',hlt,s',st'',M'',rfl,hi',h2.fits ht' hb' (Store.Has.refl st''),hchg.trans h3⟩
  |_=>exact⟨A'',st'',M'',h1,h2,hchg.trans h3⟩
end
section
variable {P:Program} {c:Cfg}
theorem AWp.of_vc(hI:yp P c.I){code:Code}{Q:Exit->Fr->Store->Prop}{A:Fr}{st:Store}(h:vc P c code Q A st):AWp P c code Q A st:=Ro hI code Q A st h
theorem AWp.seq{x y:Code}{Q:Exit->Fr->Store->Prop}{A:Fr}{st:Store}(h:AWp P c x (Nd (AWp P c y Q) Q) A st):AWp P c (.seq x y) Q A st:=by
  refine⟨λOth M a w sim=>wpIn_seq ?_⟩
  refine Code.wpF_mono ?_ (h.out Oth M a w sim)
  rintro e a' w' ⟨A',st',M',h1,h2,h3⟩
  cases e with
  | normal=>
    refine Code.wpF_mono ?_ ((AWp.out h1) Oth M' a' w' h2)
    rintro e a'' w'' ⟨A'',st'',M'',h4,h5,h6⟩
    exact⟨A'',st'',M'',h4,h5,h3.trans h6⟩
  |_=>exact⟨A',st',M',h1,h2,h3⟩
theorem AWp.block{id:Nat}{b:Code}{Q:Exit->Fr->Store->Prop}{A:Fr}{st:Store}(h:AWp P c b (O5 id Q) A st):AWp P c (.block id b) Q A st:=by
  refine⟨λOth M a w sim=>wpIn_block ?_⟩
  refine Code.wpF_mono ?_ (h.out Oth M a w sim)
  rintro e a' w' ⟨A',st',M',h1,h2,h3⟩
  cases e with
  | exit id'=>
    simp only[O5]at h1
    simp only[Exit.inBlock]
    by_cases he:id'=id
    · subst he
      simp only[Fbs,cond_true]at h1
      rw[if_pos rfl]
      exact⟨A',st',M',h1,h2,h3⟩
    · simp only[yv he,cond_false]at h1
      rw[if_neg he]
      exact⟨A',st',M',h1,h2,h3⟩
  |_=>exact⟨A',st',M',h1,h2,h3⟩
theorem AWp.scope{b:Code}{Q:Exit->Fr->Store->Prop}{A:Fr}{st:Store}(h:AWp P c b (l8 Q) A st):AWp P c (.scope b) Q A st:=by
  refine⟨λOth M a w sim=>cm ?_⟩
  refine Code.wpF_mono ?_ (h.out Oth M a w sim)
  rintro e a' w' ⟨A',st',M',h1,h2,h3⟩
  cases e with
  |goto l=>exact h1.elim
  |_=>exact⟨A',st',M',h1,h2,h3⟩
structure Meet(σ:Type) where
  t:σ->List (Nat×LV)
  bx:σ->List (Nat×List AV)
  inv:σ->Store->Prop
def Meet.at{σ:Type}(H:Meet σ)(A:Fr)(st:Store):Prop:=∃s,H.inv s st/\Kk A (H.t s)/\Kl A (H.bx s)
theorem AWp.meet{σ:Type}(H:Meet σ)(hI:yp P c.I){x y:Code}{Q:Exit->Fr->Store->Prop}{A:Fr}{st:Store}(hx:vc P c x (Nd H.at Q) A st)
    (hy:∀s st',H.inv s st'->AWp P c y Q (Bz (H.t s) (H.bx s)) st'):AWp P c (.seq x y) Q A st:=by
  refine AWp.seq ((AWp.of_vc hI hx).mono λe A' st' h=>?_)
  cases e with
  | normal=>
    obtain⟨s,h1,h2,h3⟩:=h
    exact AWp.weaken (hy s st' h1) h2 h3 (Store.Has.refl st')
  |_=>exact h
end
section
variable {P:Program}
def Wt(P:Program)(t:TypeId):Bool:=
  !P.stoodInHeld t && !P.eqGuardType P.depth t && (match P.underlying t with | some (.struct fs) => fs.toList.all fun f => f.name != "_" | _ => true)
def Ri(z:Value)(d:Ty):Bool:=match z with|.agg _=>Au d|_=> !Au d
def infoOf(P:Program)(t:TypeId)(eq:Bool):Option TI:=
  match P.info? t,P.underlying t with
  | some inf,some d=>match inf.zero with
    |some z=>bif Nat.beq z.cells.toList.length inf.size&&(!eq||Wt P t)&&Ri z (Ak d)then some {ty:=Ak d,size:=inf.size,bytes:=inf.bytes,zero:=z.cells.toList,eq:=eq}else none
    |none=>none
  |_,_=>none
theorem yar{t:TypeId}{eq:Bool}{i:TI}(h:infoOf P t eq=some i):TIok P t i:=by
  unfold infoOf at h
  split at h
  · rename_i inf d hinf hd
    split at h
    · rename_i z hz
      cases hb:(Nat.beq z.cells.toList.length inf.size&&(!eq||Wt P t)&&Ri z (Ak d))with
      |false=>rw[hb]at h;cases h
      | true=>
        rw[hb]at h
        simp only[cond_true,Fah]at h
        subst h
        simp only[Fax]at hb
        obtain⟨⟨h2,h3⟩,h4⟩:=hb
        refine⟨⟨inf,hinf,rfl,rfl,z,hz,rfl⟩,⟨d,hd,rfl⟩,(xe _ _).1 h2,λinf' z' hi' hz'=>?_,λhe=>?_⟩
        · rw[hinf]at hi'
          cases hi'
          rw[hz]at hz'
          cases hz'
          cases z with
          |agg cs=>exact .inl ⟨h4,cs,rfl⟩
          |_=>exact .inr ⟨by simpa [Ri]using h4,rfl⟩
        simp only at he
        subst he
        simp only[Bool.not_true,Bool.false_or,Wt,Fax,Fby]at h3
        obtain⟨⟨h4,h5⟩,h6⟩:=h3
        refine⟨h4,h5,λfs hfs f hf=>?_⟩
        rw[hfs]at h6
        simp only[Fb5,bne_iff_ne,ne_eq]at h6
        exact h6 f hf
    · cases h
  · cases h
inductive Tr where
  |nil
  |node (k:Nat) (l:Tr) (x:TI) (r:Tr)
def Tr.get:Tr->Nat->Option TI
  |.nil,_=>none
  |.node k l x r,t=>bif Nat.beq t k then some x else bif Nat.blt t k then l.get t else r.get t
def Tr.all(P:Program):Tr->Prop
  |.nil=>True
  |.node k l x r=>infoOf P k x.eq=some x/\l.all P/\r.all P
theorem Tr.ok:∀(tr:Tr),tr.all P->yp P tr.get:=by
  intro tr
  induction tr with
  |nil=>intro _ t i h;cases h
  | node k l x r ihl ihr=>
    rintro⟨h1,h2,h3⟩ t i h
    simp only[Tr.get]at h
    by_cases ht:t=k
    · subst ht
      simp only[Fbs,cond_true,Fah]at h
      subst h
      exact yar h1
    · simp only[yv ht,cond_false]at h
      cases hb:Nat.blt t k with
      |true=>rw[hb]at h;exact ihl h2 t i h
      |false=>rw[hb]at h;exact ihr h3 t i h
inductive Tr2 where
  |nil
  |node (l:Tr2) (x:Option TI) (r:Tr2)
def Tr.look(P:Program):Tr->Tr2
  |.nil=>.nil
  |.node k l x r=>.node (l.look P) (infoOf P k x.eq) (r.look P)
def Tr.vals:Tr->Tr2
  |.nil=>.nil
  |.node _ l x r=>.node l.vals (some x) r.vals
theorem Tr.of_look:∀(t:Tr),t.look P=t.vals->t.all P
  |.nil,_=>True.intro
  | .node k l x r,h=>by
    simp only[Tr.look,Tr.vals,Tr2.node.injEq]at h
    exact⟨h.2.1,Tr.of_look l h.1,Tr.of_look r h.2.2⟩
end
section
variable {st st':Store} {k:Nat} {v:AV}
def App(k:Nat)(st:Store)(v:AV)(rows:List (List AV))(st':Store):Prop:=
  (v=.s (.slice none 0 0)/\rows=[]/\st'=st)\/Owned k st v rows st'
theorem App.start(k:Nat)(st:Store):App k st (.s (.slice none 0 0)) [] st:=.inl ⟨rfl,rfl,rfl⟩
theorem zr2{b:Nat}{x:Option Nat}(h:st.tok b=none):(st.sT b x).sT b none=st:=by
  unfold Store.sT
  congr
  funext i
  by_cases hi:i=b
  · subst hi;simp[h]
  · simp[yv hi]
theorem App.has{rows:List (List AV)}(h:App k st v rows st'):st'.Has st:=by
  rcases h with⟨_,_,rfl⟩|⟨_,_,rfl⟩|⟨_,b,hb,_,rfl⟩
  · exact Store.Has.refl _
  · exact Store.Has.refl _
  · refine⟨λ_ _ h=>h,λi x h=>?_⟩
    have:i≠b:=λe=>by rw[e,hb.2]at h;cases h
    simpa [Store.sT,yv this]using h
theorem App.le{rows:List (List AV)}(h:App k st v rows st'):AV.le v (.lst k rows none):=by
  rcases h with⟨rfl,rfl,_⟩|⟨rfl,rfl,_⟩|⟨_,b,hb,rfl,_⟩
  · exact AV.le_nil k
  · intro w T v h
    cases h with
    | emp a h=>
      cases a with
      |none=>exact .nil k none
      | some a=>
        obtain⟨b,off,spot⟩:=a
        have:=h _ rfl
        simp only at this
        subst this
        exact VRel.empty w T k b off 0
  · exact AV.le_tok _ _ _
theorem Gt{c:Cfg}{e:TypeId}{ie:TI}{x:LV}{K:Ja}{rows rows':List (List AV)}(h:App ie.size st v rows st')(hie:c.I e=some ie)(hx:vi ie.size x=some rows')
    (hroom:room (rows.length+rows'.length) ie.bytes) (hK:∀v2 st2,App ie.size st v2 (rows++rows') st2->K v2 st2) {P:Program} (hp:Nat.blt 0 ie.size=true:=by rfl):appendK P c st' e (.av v) x K:=by
  refine⟨.inl (za ie hie ?_)⟩
  rcases h with⟨rfl,rfl,rfl⟩|⟨rfl,rfl,rfl⟩|⟨hne,b,hb,rfl,rfl⟩
  · exact za rows' hx ⟨by simpa using hroom,λv st2 ho=>hK v st2 (.inr (by simpa using ho))⟩
  · exact za rows' hx ⟨by simpa using hroom,λv st2 ho=>hK v st2 (.inr (by simpa using ho))⟩
  · show(bif Nat.beq ie.size ie.size&&Nat.blt 0 ie.size then _ else False)
    rw[Fbs,hp,Bool.and_self,cond_true]
    refine za rows' hx ⟨by simp[Store.sT],by simpa using hroom,λv st2 ho=>hK v st2 (.inr ?_)⟩
    rwa [zr2 hb.2]at ho
end
section
variable {P:Program} {c:Cfg}
theorem Ov{ev ev':Operand->LV}{l:List Operand}(h:∀x∈l,ev' x=ev x):
    (l.mapM λx=>(ev' x).toAV)=(l.mapM λx=>(ev x).toAV):=by
  induction l with
  |nil=>rfl
  | cons a l ih=>
    rw[Fc7,Fc7,h a (by simp),ih λx hx=>h x (by simp[hx])]
theorem ls{ev ev':Operand->LV}{x:Option Operand}(h:∀y∈x.toArray,ev' y=ev y):Dn ev' x=Dn ev x:=by
  cases x with
  |none=>rfl
  |some y=>simp only[Dn];rw[h y (by simp)]
theorem di{ev:Operand->LV}{bx:Nat->Option (List AV)}{st:Store}{d:Nat}{op:Op}{K K':LV->Prop}(hI:yp P c.I)(hK:∀x,K x->K' x)(h:vcV c ev bx st d op K):vcV c ev bx st d op K':=by
  obtain⟨x,hx,hx',_⟩:=Rq hI op h
  exact hx' K' (hK x hx)
theorem dk{ev ev':Operand->LV}{bx:Nat->Option (List AV)}{st:Store}{d:Nat}{op:Op}{K:LV->Prop}(h:∀x∈op.operands,ev' x=ev x)(hv:vcV c ev bx st d op K):vcV c ev' bx st d op K:=by
  cases op<;>simp only[Op.operands]at h<;>first|exact hv|skip
  case move x=>simp only[vcV]at hv⊢;rwa [h x (by simp)]
  case assign x=>simp only[vcV]at hv⊢;rwa [h x (by simp)]
  case pick a b e=>simp only[vcV]at hv⊢;rwa [h a (by simp),h b (by simp),h e (by simp)]
  case load t x=>simp only[vcV]at hv⊢;rwa [h x (by simp)]
  case nilCheck x=>simp only[vcV]at hv⊢;rwa [h x (by simp)]
  case binOp op t x y yt=>simp only[vcV]at hv⊢;rwa [h x (by simp),h y (by simp)]
  case unOp op t x=>simp only[vcV]at hv⊢;rwa [h x (by simp)]
  case convert s t x=>simp only[vcV]at hv⊢;rwa [h x (by simp)]
  case fieldAddr s x f=>simp only[vcV]at hv⊢;rwa [h x (by simp)]
  case field s x f=>simp only[vcV]at hv⊢;rwa [h x (by simp)]
  case indexAddr t x i=>simp only[vcV]at hv⊢;rwa [h x (by simp),h i (by simp)]
  case index t x i=>simp only[vcV]at hv⊢;rwa [h x (by simp),h i (by simp)]
  case extract x i=>simp only[vcV]at hv⊢;rwa [h x (by simp)]
  case slice t x lo hi mx=>
    simp only[vcV]at hv⊢
    have e1:=ls (ev:=ev) (ev':=ev') (x:=lo) (λy hy=>h y (by simp[hy]))
    have e2:=ls (ev:=ev) (ev':=ev') (x:=hi) (λy hy=>h y (by simp[hy]))
    rwa [h x (by simp),e1,e2]
  case build t ps=>
    simp only[vcV]at hv⊢
    have e:(ps.toList.map λp=>(p.1,ev' p.2))=(ps.toList.map λp=>(p.1,ev p.2)):=Fb0 λp hp=>by
      rw[h p.2 (by simp;exact⟨p.1,by simpa using hp⟩)]
    rwa [e]
  case makeFunc f first cap=>
    cases f<;>simp only[vcV]at hv⊢<;>try exact hv
    have e:first.toList.mapM (λx=>(ev' x).toV)=first.toList.mapM λx=>(ev x).toV:=by
      have:∀l:List Operand,(∀x∈l,ev' x=ev x)->l.mapM (λx=>(ev' x).toV)=l.mapM λx=>(ev x).toV:=λl=>by
        induction l with
        |nil=>intro _;rfl
        |cons a l ih=>intro hl;rw[Fc7,Fc7,hl a (by simp),ih λx hx=>hl x (by simp[hx])]
      exact this _ λx hx=>h x (by simp;exact .inl (by simpa using hx))
    rwa [Ov (ev:=ev) (ev':=ev') λx hx=>h x (by simp;exact .inr (by simpa using hx)),e]
  case call cl=>
    obtain⟨callee,args,argTypes⟩:=cl
    simp only[vcV,Fv]at hv⊢
    cases callee with
    |value f=>exact hv
    |invoke r m=>exact hv
    | builtin b=>
      have ha:∀x∈args,ev' x=ev x:=λx hx=>h x (by simp[Call.operands,hx])
      cases b<;>simp only at hv⊢<;>try exact hv
      case len=>
        obtain⟨t,ht,hv⟩:=zl hv
        obtain⟨i,hi,hv⟩:=zl hv
        obtain⟨x,hx,hv⟩:=zl hv
        refine za t ht (za i hi (za x hx ?_))
        rwa [ha x (Feb hx)]
      case cap=>
        obtain⟨t,ht,hv⟩:=zl hv
        obtain⟨i,hi,hv⟩:=zl hv
        obtain⟨x,hx,hv⟩:=zl hv
        refine za t ht (za i hi (za x hx ?_))
        rwa [ha x (Feb hx)]
      case min=>rwa [show args.toList.map ev'=args.toList.map ev from Fb0 λx hx=>ha x (by simpa using hx)]
      case max=>rwa [show args.toList.map ev'=args.toList.map ev from Fb0 λx hx=>ha x (by simpa using hx)]
def I3:Op->Bool
  |.load ..=>false
  |.call cl=>match cl.callee with|.builtin .min=>true|.builtin .max=>true|_=>false
  |_=>true
theorem dh{ev:Operand->LV}{bx bx':Nat->Option (List AV)}{st st':Store}{d:Nat}{op:Op}{K:LV->Prop}(hn:I3 op=true)(hv:vcV c ev bx st d op K):vcV c ev bx' st' d op K:=by
  cases op<;>first|exact hv|skip
  case load t x=>simp[I3]at hn
  case call cl=>
    obtain⟨callee,args,argTypes⟩:=cl
    simp only[vcV,Fv]at hv⊢
    cases callee with
    |value f=>exact hv
    |invoke r m=>exact hv
    |builtin b=>cases b<;>simp[I3]at hn<;>exact hv
def bsK(c:Cfg)(ev:Operand->LV)(t:TypeId)(n:Nat)(parts:Array (Nat×Operand))(K:LV->Prop):Prop:=
  optK (c.I t) λi=>match i.ty with
    | .slice e=>optK (c.I e) λie=>optK (Ge ie.size n (List.replicate n (we ie)) (parts.toList.map λp=>(p.1,ev p.2))) λrows=>
      bif rows.flatten.all AV.one then n*ie.size<=16777216/\(match rows with
        |[]=>K (.av .emp)
        |_::_=>K (.av (.lst ie.size rows none)))else False
    |_=>False
def vcW(c:Cfg)(ev:Operand->LV)(bx:Nat->Option (List AV))(st:Store)(d:Nat)(op:Op)(K:LV->Prop):Prop:=
  match op with
  |.buildSlice t n parts=>bsK c ev t n parts K
  |op=>vcV c ev bx st d op K
theorem tq{ev:Operand->LV}{t:TypeId}{n:Nat}{parts:Array (Nat×Operand)}{K:LV->Prop}(h:bsK c ev t n parts K):
    ∃ (i ie:TI) (e:TypeId) (rows:List (List AV)) (x:LV),c.I t=some i/\i.ty=.slice e/\c.I e=some ie/\Ge ie.size n (List.replicate n (we ie)) (parts.toList.map λp=>(p.1,ev p.2))=some rows/\rows.flatten.all AV.one=true∧
      n*ie.size<=16777216/\x=(match rows with|[]=>.av .emp|_::_=>.av (.lst ie.size rows none))/\K x/\∀K':LV->Prop,K' x->bsK c ev t n parts K':=by
  unfold bsK at h
  obtain⟨i,hi,h⟩:=zl h
  split at h
  · rename_i e hty
    obtain⟨ie,hie,h⟩:=zl h
    obtain⟨rows,hrows,h⟩:=zl h
    cases hone:rows.flatten.all AV.one with
    |false=>rw[hone]at h;exact h.elim
    | true=>
      rw[hone]at h
      simp only[cond_true]at h
      obtain⟨hroom,h⟩:=h
      refine⟨i,ie,e,rows,_,hi,hty,hie,hrows,hone,hroom,rfl,by cases rows<;>exact h,λK' h'=>?_⟩
      refine za i hi ?_
      simp only[hty]
      refine za ie hie (za rows hrows ?_)
      rw[hone]
      exact⟨hroom,by cases rows<;>exact h'⟩
  · exact h.elim
theorem Rp{ev ev':Operand->LV}{bx:Nat->Option (List AV)}{st:Store}{d:Nat}{op:Op}{K:LV->Prop}(h:∀x∈op.operands,ev' x=ev x)(hv:vcW c ev bx st d op K):vcW c ev' bx st d op K:=by
  cases op<;>first|exact dk (bx:=bx) (st:=st) (d:=d) (K:=K) h (show vcV c ev bx st d _ K from hv)|skip
  case buildSlice t n parts=>
    have e:(parts.toList.map λp=>(p.1,ev' p.2))=(parts.toList.map λp=>(p.1,ev p.2)):=Fb0 λp hp=>by
      rw[h p.2 (by simp[Op.operands];exact⟨p.1,by simpa using hp⟩)]
    simp only[vcW]at hv⊢
    unfold bsK at hv⊢
    rwa [e]
theorem zbv{ev:Operand->LV}{bx bx':Nat->Option (List AV)}{st st':Store}{d:Nat}{op:Op}{K:LV->Prop}(hn:I3 op=true)(hv:vcW c ev bx st d op K):vcW c ev bx' st' d op K:=by
  cases op<;>first|exact dh (bx:=bx) (st:=st) (d:=d) (K:=K) hn (show vcV c ev bx st d _ K from hv)|exact hv|skip
  case call cl=>exact dh (bx:=bx) (bx':=bx') (st:=st) (st':=st') (d:=d) (op:=.call cl) hn hv
end
inductive Sched where
  |done
  |v (i:Nat) (r:Sched)
  |e (i:Nat) (chk:List Nat) (r alt:Sched)
  |stop
def sv:List Nat->Sched->Sched
  |[],s=>s
  |i::l,s=>.v i (sv l s)
def isV(c:Cfg)(o:Oper):Bool:=
  match o.op with
  |.alloc _=>false
  |.box _ _=>false
  |.store _ _ _=>false
  |.assign _=>false
  |.convert s t _=> !Nat.beq s t
  |.buildSlice _ _ _=>match o.dst with|some d=> !c.G.contains d|none=>false
  | .call cl=>match cl.callee with
    |.builtin .len=>true
    |.builtin .cap=>true
    |.builtin .min=>true
    |.builtin .max=>true
    |_=>false
  |.mapUpdate ..|.insert ..|.mapEntry ..|.entryStore ..|.makeMap ..|.makeSlice ..|.lookup ..|.range ..|.next ..|.entry ..|.makeInterface ..|.typeAssert ..|.select ..|.go ..|.defer ..|.panic ..|.send ..|.recv ..|.ready ..|.waits ..|.makeChan ..=>false
  |_=>true
def xa(ops:Array Oper)(i:Nat):List Nat:=
  match ops[i]? with
  |some o=>o.after.toList.filterMap λe=>bif Region.binds .any e then some e.on else none
  |none=>[]
def mem(i:Nat):List Nat->Bool
  |[]=>false
  |j::l=>bif Nat.beq i j then true else mem i l
theorem mem_iff(i:Nat):∀(l:List Nat),mem i l=true↔i∈l:=by
  intro l
  induction l with
  |nil=>simp[mem]
  | cons j l ih=>
    simp only[mem,Fat]
    by_cases h:i=j
    · subst h;simp
    · simp[yv h,ih,h]
def sub(l m:List Nat):Bool:=l.all λi=>mem i m
def Mp:Sched->List Nat
  |.e i _ _ alt=>i::Mp alt
  |_=>[]
def Lh(ops:Array Oper)(i:Nat):List Nat:=
  (List.range i).reverse.foldl (λacc j=>bif mem j acc then xa ops j++acc else acc) (xa ops i)
def Mb(c:Cfg)(ops:Array Oper)(i:Nat)(chk L:List Nat):Bool:=
  !mem i L&&Nat.blt i ops.size&&sub (xa ops i) L&&(match ops[i]? with|some o=> !isV c o|none=>false)&&
  L.all λj=>mem j (Lh ops i)||mem j chk||(match ops[j]?,ops[i]? with
    |some o,some o'=> !isV c o||(I3 o.op&&(match o'.op with|.alloc _=>false|.box _ _=>false|_=>true))
    |_,_=>false)
def jz(c:Cfg)(ops:Array Oper):Sched->List Nat->Bool->Bool
  |.done,L,first=>first&&(List.range ops.size).all λi=>mem i L
  |.v i r,L,first=>first&&(!mem i L&&Nat.blt i ops.size&&(match ops[i]? with|some o=>isV c o|none=>false)&&sub (xa ops i) L&&jz c ops r (i::L) true)
  |.e i chk r alt,L,first=>Mb c ops i chk L&&jz c ops r (i::L) true&&jz c ops alt L false&&
      (!first||(List.range ops.size).all λj=>mem j L|| !sub (xa ops j) L||mem j (i::Mp alt))
  |.stop,_,first=> !first
def Bu(c:Cfg)(ops:Array Oper):Bool:=
  (List.range ops.size).all λi=>match ops[i]? with
    |none=>false
    | some o=>(xa ops i).all (λj=>Nat.blt j i)&&(match o.op with|.select ..=>false|.defer ..=>false|_=>true)&&(match o.dst with
      |none=> !isV c o
      | some t=>Nat.blt t c.n&& !mem t (o.looksAt ops)&&
        (List.range ops.size).all λk=>Nat.beq k i||(match ops[k]? with
          |none=>false
          |some o'=>(match o'.dst with|some t'=> !Nat.beq t t'|none=>true)&&(!mem t (o'.looksAt ops)||mem i (xa ops k)||(!isV c o&&mem k (xa ops i)))))
def Gk(ops:Array Oper)(o:Oper)(A:Fr)(go skip:Fr->Prop):Prop:=
  match o.guard with
  |none=>go A
  | some (j,want)=>optK ((ops[j]?).bind (·.dst)) λt=>
    match A.t t with
    |.av (.s (.bool b))=>Bb b (bif want then go (A.put t (xr true))else skip (A.put t (xr true))) (bif want then skip (A.put t (xr false))else go (A.put t (xr false)))
    |.und=>skip A
    |_=>False
def stands(c:Cfg)(ops:Array Oper)(A:Fr)(st:Store)(i:Nat):Prop:=
  optK ops[i]? λo=>optK o.dst λd=>Gk ops o A (λA=>vcW c A.ev A.bx st d o.op λx=>x=A.t d) (λA=>A.t d=.und)
def G9(c:Cfg)(ops:Array Oper)(A:Fr)(st:Store):List Nat->Prop
  |[]=>True
  |i::l=>stands c ops A st i/\G9 c ops A st l
def kh(P:Program)(c:Cfg)(ops:Array Oper)(K:Fr->Store->Prop):Sched->Fr->Store->Prop
  |.done,A,st=>K A st
  |.v i r,A,st=>optK ops[i]? λo=>optK o.dst λd=>
      Gk ops o A (λA=>vcW c A.ev A.bx st d o.op λx=>kh P c ops K r (A.put d x) st) (λA=>kh P c ops K r (A.put d .und) st)
  |.e i chk r alt,A,st=>(optK ops[i]? λo=>
      Gk ops o A (λA=>Bp P c o (λA' st'=>G9 c ops A' st' chk/\kh P c ops K r A' st') A st)
        (λA=>ql A c.n o.dst .und λA'=>G9 c ops A' st chk/\kh P c ops K r A' st))/\kh P c ops K alt A st
  |.stop,_,_=>True
section
variable {P:Program} {c:Cfg} {ops:Array Oper}
def wx(ops:Array Oper)(o:Oper)(A:Fr):Option Bool:=
  match o.guard with
  |none=>some true
  | some (j,want)=>match(ops[j]?).bind (·.dst)with
    |none=>none
    | some t=>match A.t t with
      |.av (.s (.bool b))=>some (b==want)
      |.und=>some false
      |_=>none
theorem guardK_iff{o:Oper}{A:Fr}{go skip:Fr->Prop}:Gk ops o A go skip↔(wx ops o A=some true/\go A)\/(wx ops o A=some false/\skip A):=by
  unfold Gk wx
  cases hg:o.guard with
  |none=>simp
  | some jw=>
    obtain⟨j,want⟩:=jw
    simp only
    cases hd:(ops[j]?).bind (·.dst)with
    |none=>simp[optK]
    | some t=>
      simp only[optK]
      generalize hy:A.t t=y
      split
      · rename_i b
        cases b with
        |true=>rw[Fr.put_self (A:=A) (x:=xr true) hy];cases want<;>simp[Bb]
        |false=>rw[Fr.put_self (A:=A) (x:=xr false) hy];cases want<;>simp[Bb]
      · simp
      · rename_i h1 h2
        simp
theorem Pd{o:Oper}{B:Fr}{st:Store}{n:SN}{Oth M:Nat->Nat->Prop}{a:Act}{w:World}(sim:Sim n Oth B st M a w){b:Bool}(h:wx ops o B=some b):Region.wanted o (yielded ops a.tmps)=b:=by
  obtain⟨β,s⟩:=sim
  unfold wx at h
  unfold Region.wanted
  cases hg:o.guard with
  |none=>rw[hg]at h;simp at h;simp[h]
  | some jw=>
    obtain⟨j,want⟩:=jw
    rw[hg]at h
    simp only at h⊢
    cases hd:(ops[j]?).bind (·.dst)with
    |none=>rw[hd]at h;cases h
    | some t=>
      rw[hd]at h
      simp only at h
      have hs:=s.tm t
      split at h
      · rename_i b' hb
        simp at h
        rw[hb]at hs
        rw[oz hd (VRel.eq_s hs),<-h]
        simp
      · rename_i hb
        simp at h
        rw[hb]at hs
        rw[ow hd hs,h]
        cases want<;>rfl
      · cases h
theorem W6{b:Bool}{p:Prop}(h:bif b then p else False):b=true/\p:=by
  cases b with
  |true=>exact⟨rfl,h⟩
  |false=>exact h.elim
theorem W7{b:Bool}{p:Prop}(hb:b=true)(h:p):bif b then p else False:=by subst hb;exact h
def yx(A:Fr)(D:List Nat):Fr:=⟨λt=>bif mem t D then .any else A.t t,A.bx⟩
theorem Fb{t:Nat}{D:List Nat}(h:t∉D):mem t D=false:=by
  cases hm:mem t D with
  |false=>rfl
  |true=>exact absurd ((mem_iff _ _).1 hm) h
theorem L4{A:Fr}{D:List Nat}{t:Nat}(h:t∉D):(yx A D).t t=A.t t:=by
  simp[yx,Fb h]
theorem yci{A:Fr}{D:List Nat}{x:Operand}(h:∀t,x=.tmp t->t∉D):(yx A D).ev x=A.ev x:=by
  cases x with
  |tmp t=>exact L4 (h t rfl)
  |_=>rfl
theorem Fk{A:Fr}{D:List Nat}{d:Nat}(h:d∉D)(x:LV):(yx A D).put d x=yx (A.put d x) D:=by
  unfold yx Fr.put
  congr
  funext i
  by_cases hi:i=d
  · subst hi;simp[Fb h]
  · simp[yv hi]
theorem pj{A:Fr}{D:List Nat}{d:Nat}(h:d∉D)(l:List AV):(yx A D).newBx d l=yx (A.newBx d l) D:=by
  unfold yx Fr.newBx
  congr
  funext i
  by_cases hi:i=d
  · subst hi;simp[Fb h]
  · simp only[yv hi,cond_false]
    cases mem i D<;>simp[LV.kill]
def Cj(o:Oper)(A A':Fr):Prop:=(match o.op with|.alloc _=>False|.box _ _=>False|_=>True)->∀t,o.dst≠some t->A'.t t=A.t t
theorem Hp{o:Oper}{A:Fr}{d:Nat}{x:LV}(hd:o.dst=some d):Cj o A (A.put d x):=λ_ t ht=>by
  have:t≠d:=λh=>ht (by rw[h];exact hd)
  simp[Fr.put,yv this]
theorem V2{o:Oper}{A:Fr}:Cj o A A:=λ_ _ _=>rfl
theorem zbw(hI:yp P c.I){o:Oper}{K:Fr->Store->Prop}{A:Fr}{st:Store}{D:List Nat}(h:Bp P c o K A st)(hop:∀x∈o.op.operands,∀t,x=.tmp t->t∉D)(hd:∀d,o.dst=some d->d∉D):
    Bp P c o (λB' st'=>∃A',K A' st'/\B'=yx A' D/\Cj o A A') (yx A D) st:=by
  have hev:∀x∈o.op.operands,(yx A D).ev x=A.ev x:=λx hx=>yci (hop x hx)
  have hputO:∀(x:LV) (st':Store),(ql A c.n o.dst x λA'=>K A' st')->ql (yx A D) c.n o.dst x λB'=>∃A',K A' st'/\B'=yx A' D/\Cj o A A':=by
    intro x st' hx
    unfold ql at hx⊢
    cases hdst:o.dst with
    |none=>rw[hdst]at hx;exact⟨A,hx,rfl,V2⟩
    | some d=>
      rw[hdst]at hx
      obtain⟨hlt,hx⟩:=vz hx
      simp only[show Nat.blt d c.n=true from Fcg hlt,cond_true]
      exact⟨_,hx,Fk (hd d hdst) x,Hp hdst⟩
  have hval:∀op',op'=o.op->(optK o.dst λd=>bif Nat.blt d c.n then vcV c A.ev A.bx st d op' (λx=>K (A.put d x) st)else False)->
      optK o.dst λd=>bif Nat.blt d c.n then vcV c (yx A D).ev (yx A D).bx st d op' (λx=>∃A',K A' st/\(yx A D).put d x=yx A' D/\Cj o A A')else False:=by
    rintro op' rfl hx
    obtain⟨d,hdst,hx⟩:=zl hx
    obtain⟨hlt,hx⟩:=vz hx
    refine za d hdst ?_
    simp only[show Nat.blt d c.n=true from Fcg hlt,cond_true]
    exact di hI (λx hx=>⟨_,hx,Fk (hd d hdst) x,Hp hdst⟩) (dk hev hx)
  unfold Bp at h⊢
  have hX:vcX P c o K A st->vcX P c o (λB' st'=>∃A',K A' st'/\B'=yx A' D/\Cj o A A') (yx A D) st:=by
    intro h
    obtain⟨vs,hvs,h⟩:=zl h
    have e:(o.op.operands.toList.mapM λx=>((yx A D).ev x).toAV)=o.op.operands.toList.mapM λx=>(A.ev x).toAV:=
      Ov λx hx=>hev x (by simpa using hx)
    refine za vs (by rw[e];exact hvs) ⟨λOth M w ρ hI' sto hr=>?_⟩
    have:=h.out Oth M w ρ hI' sto hr
    have hpost:∀v w',qn st (λr st'=>ql A c.n o.dst (.av r) λA'=>K A' st') Oth M w v w'->qn st (λr st'=>ql (yx A D) c.n o.dst (.av r) λB'=>∃A',K A' st'/\B'=yx A' D/\Cj o A A') Oth M w v w':=
      λv w' ⟨r,st',M',h1,h2⟩=>⟨r,st',M',hputO _ st' h1,h2⟩
    generalize(execOp ρ o).run P w=res at*
    cases res with
    |halt x w'=>exact this.elim
    | ok nx w'=>
      cases nx with
      |value v=>exact hpost v w' this
      |skip=>exact⟨this.1,hpost _ w' this.2⟩
      |_=>exact this.elim
  cases hx:isX o.op with
  |true=>rw[hx]at h;exact hX h
  |false=>
  rw[hx]at h
  replace h:De P c o K A st:=h
  change De P c o (λB' st'=>∃A',K A' st'/\B'=yx A' D/\Cj o A A') (yx A D) st
  unfold De at h⊢
  cases ho:o.op with
  | alloc t=>
    simp only[ho,Dt]at h⊢
    obtain⟨i,hi,h⟩:=zl h
    obtain⟨d,hdst,h⟩:=zl h
    obtain⟨hlt,h⟩:=vz h
    refine za i hi (za d hdst ?_)
    simp only[show Nat.blt d c.n=true from Fcg hlt,cond_true]
    cases hg:c.G.contains d with
    |true=>rw[hg]at h;exact λb hb=>⟨_,h b hb,Fk (hd d hdst) _,λhh=>by rw[ho]at hh;exact hh.elim⟩
    |false=>rw[hg]at h;exact⟨_,h,pj (hd d hdst) _,λhh=>by rw[ho]at hh;exact hh.elim⟩
  | box t x=>
    simp only[ho]at h⊢
    rw[ho]at hev
    obtain⟨d,hdst,h⟩:=zl h
    obtain⟨hlt,h⟩:=vz h
    refine za d hdst ?_
    simp only[show Nat.blt d c.n=true from Fcg hlt,cond_true]
    rw[hev x (by simp[Op.operands])]
    split at h
    · obtain⟨l,hl,h⟩:=zl h
      refine za l hl ?_
      cases hg:c.G.contains d with
      |true=>rw[hg]at h;exact λb hb=>⟨_,h b hb,Fk (hd d hdst) _,λhh=>by rw[ho]at hh;exact hh.elim⟩
      |false=>rw[hg]at h;exact⟨_,h,pj (hd d hdst) _,λhh=>by rw[ho]at hh;exact hh.elim⟩
    · exact h.elim
  | buildSlice t n parts=>
    simp only[ho]at h⊢
    rw[ho]at hev
    have e:(parts.toList.map λp=>(p.1,(yx A D).ev p.2))=(parts.toList.map λp=>(p.1,A.ev p.2)):=Fb0 λp hp=>by
      rw[hev p.2 (by simp[Op.operands];exact⟨p.1,by simpa using hp⟩)]
    rw[e]
    obtain⟨i,hi,h⟩:=zl h
    obtain⟨d,hdst,h⟩:=zl h
    obtain⟨hlt,h⟩:=vz h
    refine za i hi (za d hdst ?_)
    simp only[show Nat.blt d c.n=true from Fcg hlt,cond_true]
    split at h
    · obtain⟨ie,hie,h⟩:=zl h
      obtain⟨rows,hrows,h⟩:=zl h
      refine za ie hie (za rows hrows ?_)
      cases hone:rows.flatten.all AV.one with
      |false=>rw[hone]at h;exact h.elim
      | true=>
        rw[hone]at h
        simp only[cond_true]at h⊢
        refine⟨h.1,?_⟩
        replace h:=h.2
        cases rows with
        |nil=>exact⟨_,h,Fk (hd d hdst) _,Hp hdst⟩
        | cons r rs=>
          cases hg:c.G.contains d with
          | true=>
            cases hg2:c.G.contains (d+1000000)with
            |true=>simp only[hg,hg2,cond_true]at h⊢;exact λb hb=>⟨_,h b hb,Fk (hd d hdst) _,Hp hdst⟩
            |false=>simp only[hg,hg2,cond_true,cond_false]at h⊢;exact λb hb=>⟨_,h b hb,Fk (hd d hdst) _,Hp hdst⟩
          |false=>simp only[hg,cond_false]at h⊢;exact⟨_,h,Fk (hd d hdst) _,Hp hdst⟩
    · exact h.elim
  | store t p x=>
    simp only[ho]at h⊢
    rw[ho]at hev
    cases hdst:o.dst with
    |some d=>rw[hdst]at h;exact h.elim
    | none=>
      rw[hdst]at h
      simp only[Option.isNone_none,cond_true]at h⊢
      obtain⟨i,hi,h⟩:=zl h
      refine za i hi ?_
      rw[hev x (by simp[Op.operands])]
      split at h
      · unfold D3 at h⊢
        rw[hev p (by simp[Op.operands])]
        obtain⟨xs,hxs,h⟩:=zl h
        refine za xs hxs ?_
        cases hb:(Nat.beq xs.length i.size&&xs.all AV.one)with
        |false=>rw[hb]at h;exact h.elim
        | true=>
          rw[hb]at h
          simp only[cond_true]at h⊢
          split at h
          · rename_i k off hp
            obtain⟨l,hl,h⟩:=zl h
            refine za l hl ?_
            cases hb2:Nat.ble (off+xs.length) l.length with
            |false=>rw[hb2]at h;exact h.elim
            |true=>rw[hb2]at h;simp only[cond_true,Dt]at h⊢;exact⟨_,h,rfl,λ_ _ _=>rfl⟩
          · obtain⟨y,hy,h⟩:=zl h
            refine za y hy ?_
            cases y with
            |cells l=>simp only[Dt]at h⊢;exact⟨h.1,_,h.2,rfl,V2⟩
            |map es bs clock=>exact h.elim
            |iter m since seen last=>exact h.elim
            |ghost o gh=>exact h.elim
          · exact h.elim
      · exact h.elim
  | binOp op t x y yt=>
    simp only[ho]at h⊢
    have hev':=hev
    rw[ho]at hev'
    unfold P5 at h⊢
    rw[hev' x (by simp[Op.operands]),hev' y (by simp[Op.operands])]
    split at h
    · obtain⟨i,hi,h⟩:=zl h
      refine za i hi ?_
      cases hty:i.ty with
      | slice e=>
        rw[hty]at h
        cases op with
        |eql=>exact λb hb=>hputO _ st (h b hb)
        |neq=>exact λb hb=>hputO _ st (h b hb)
        |_=>exact h.elim
      |_=>rw[hty]at h;exact h.elim
    · exact hval _ ho.symm h
  | convert s t x=>
    simp only[ho]at h⊢
    have hev':=hev
    rw[ho]at hev'
    unfold Pv at h⊢
    rw[hev' x (by simp[Op.operands])]
    split at h
    · obtain⟨hb,h⟩:=W6 h
      refine W7 hb ?_
      obtain⟨i,hi,h⟩:=zl h
      refine za i hi ?_
      split at h
      · obtain⟨ie,hie,h⟩:=zl h
        obtain⟨hu,h⟩:=W6 h
        obtain⟨top,htop,h⟩:=zl h
        exact za ie hie (W7 hu (za top htop (hputO _ st h)))
      · exact h.elim
    · exact hX h
    · exact hX h
    · exact hval _ ho.symm h
  | call cl=>
    simp only[ho]at h⊢
    have hev':=hev
    rw[ho]at hev'
    cases hcl:cl.callee with
    | value f=>
      simp only[hcl]at h⊢
      rw[hev' f (by simp[Op.operands,Call.operands,hcl])]
      split at h
      · obtain⟨vs,hvs,h⟩:=zl h
        have e:(cl.args.toList.mapM λx=>((yx A D).ev x).toAV)=cl.args.toList.mapM λx=>(A.ev x).toAV:=
          Ov λx hx=>hev' x (by simp[Op.operands,Call.operands];exact .inr (by simpa using hx))
        rw[e]
        refine za vs hvs ⟨λOth M w us sto hr=>?_⟩
        have:=h.out Oth M w us sto hr
        have hpost:∀v w',qn st (λr st'=>ql A c.n o.dst (.av r) λA'=>K A' st') Oth M w v w'->qn st (λr st'=>ql (yx A D) c.n o.dst (.av r) λB'=>∃A',K A' st'/\B'=yx A' D/\Cj o A A') Oth M w v w':=
          λv w' ⟨r,st',M',h1,h2⟩=>⟨r,st',M',hputO _ st' h1,h2⟩
        generalize(callFunc _ us).run P w=res at*
        cases res with
        |halt x w'=>exact this.elim
        | ok nx w'=>
          cases nx with
          |enter f as=>exact Calls.mono this λe w'' ⟨v,he,hp⟩=>⟨v,he,hpost v w'' hp⟩
          |value v=>exact hpost v w' this
          |_=>exact this.elim
      · exact h.elim
    | invoke y m=>
      simp only[hcl]at h⊢
      unfold O0 at h⊢
      rw[hev' y (by simp[Op.operands,Call.operands,hcl])]
      split at h
      · obtain⟨vs,hvs,g,x,hm,h⟩:=zl h
        have e:(cl.args.toList.mapM λx=>((yx A D).ev x).toAV)=cl.args.toList.mapM λx=>(A.ev x).toAV:=
          Ov λx hx=>hev' x (by simp[Op.operands,Call.operands];exact .inr (by simpa using hx))
        rw[e]
        refine za vs hvs ⟨g,x,hm,⟨λOth M w us sto hr=>?_⟩⟩
        have:=h.out Oth M w us sto hr
        have hpost:∀v w',qn st (λr st'=>ql A c.n o.dst (.av r) λA'=>K A' st') Oth M w v w'->qn st (λr st'=>ql (yx A D) c.n o.dst (.av r) λB'=>∃A',K A' st'/\B'=yx A' D/\Cj o A A') Oth M w v w':=
          λv w' ⟨r,st',M',h1,h2⟩=>⟨r,st',M',hputO _ st' h1,h2⟩
        generalize(callFunc _ us).run P w=res at*
        cases res with
        |halt x w'=>exact this.elim
        | ok nx w'=>
          cases nx with
          |enter f as=>exact Calls.mono this λe w'' ⟨v,he,hp⟩=>⟨v,he,hpost v w'' hp⟩
          |value v=>exact hpost v w' this
          |_=>exact this.elim
      · exact h.elim
    | builtin b=>
      cases b with
      | append=>
        simp only[hcl]at h⊢
        obtain⟨t,ht,h⟩:=zl h
        obtain⟨i,hi,h⟩:=zl h
        obtain⟨s,hs,h⟩:=zl h
        obtain⟨x,hx,h⟩:=zl h
        refine za t ht (za i hi (za s hs (za x hx ?_)))
        rw[hev' s (by simp[Op.operands,Call.operands,hcl];exact Feb hs),hev' x (by simp[Op.operands,Call.operands,hcl];exact Feb hx)]
        split at h
        · cases hb:(cl.argTypes[1]?.bind c.I).any K8 with
          |false=>rw[hb]at h;exact hX h
          |true=>
          rw[hb]at h
          replace h:=h.out
          rcases h with h|⟨s',x',hes,hex,h⟩
          rotate_left
          · refine⟨.inr ⟨s',x',hes,hex,h.has,λie hie Oth M w sv xv at' ty args t sto h1 h2 h3 h4 h5 h6 h7 h8=>?_⟩⟩
            obtain⟨v,w',hr,r,st',M',hK,hp⟩:=h.out ie hie Oth M w sv xv at' ty args t sto h1 h2 h3 h4 h5 h6 h7 h8
            exact⟨v,w',hr,r,st',M',hputO _ st' hK,hp⟩
          refine⟨.inl ?_⟩
          unfold bz at h⊢
          obtain⟨ie,hie,h⟩:=zl h
          refine za ie hie ?_
          split at h
          · obtain⟨rows,hrows,hroom,h⟩:=zl h
            exact za rows hrows ⟨hroom,λv st' ho=>hputO _ st' (h v st' ho)⟩
          · obtain⟨rows,hrows,hroom,h⟩:=zl h
            exact za rows hrows ⟨hroom,λv st' ho=>hputO _ st' (h v st' ho)⟩
          · rename_i k rows b hev2
            obtain⟨hk,h⟩:=W6 h
            obtain⟨rows',hrows,htok,hroom,h⟩:=zl h
            exact W7 hk (za rows' hrows ⟨htok,hroom,λv st' ho=>hputO _ st' (h v st' ho)⟩)
          · exact h.elim
        · exact h.elim
      |_=>simp only[hcl]at h⊢;have:=hval o.op rfl (by rw[ho];exact h);rw[ho]at this;exact this
  |_=>simp only[ho]at h⊢;exact hval _ ho.symm h
end
section
variable {P:Program} {c:Cfg} {ops:Array Oper}
theorem all_range{n:Nat}{p:Nat->Bool}:(List.range n).all p=true↔∀i,i<n->p i=true:=by
  simp[Fb5]
structure OpFacts(c:Cfg)(ops:Array Oper)(i:Nat)(o:Oper):Prop where
  lt:∀j∈xa ops i,j<i
  sel:∀cs b,o.op≠.select cs b
  nd:∀cl,o.op≠.defer cl
  dst:isV c o=true->∃d,o.dst=some d
  dlt:∀d,o.dst=some d->d<c.n
  own:∀d,o.dst=some d->d∉o.looksAt ops
  one:∀d,o.dst=some d->∀k o',ops[k]?=some o'->k≠i->o'.dst≠some d
  look:∀d,o.dst=some d->∀k o',ops[k]?=some o'->k≠i->d∈o'.looksAt ops->i∈xa ops k\/(isV c o=false/\k∈xa ops i)
theorem Gc(h:Bu c ops=true){i:Nat}{o:Oper}(hi:ops[i]?=some o):OpFacts c ops i o:=by
  have hlt:i<ops.size:=(Fbl.1 hi).1
  have h1:=all_range.1 h i hlt
  simp only[hi,Fax,Fb5]at h1
  obtain⟨⟨hd,hs⟩,h2⟩:=h1
  refine⟨λj hj=>Fbg (hd j hj),λcs b hop=>(by rw[hop]at hs;cases hs),λcl hop=>(by rw[hop]at hs;cases hs),λhv=>?_,λd hdst=>?_,λd hdst=>?_,λd hdst k o' hk hne=>?_,λd hdst k o' hk hne hl=>?_⟩
  · cases hdst:o.dst with
    |none=>rw[hdst]at h2;simp[hv]at h2
    |some d=>exact⟨d,rfl⟩
  all_goals
    rw[hdst]at h2
    simp only[Fax,Fby]at h2
    obtain⟨⟨h3,h4⟩,h5⟩:=h2
  · exact Fbg h3
  · intro hm
    rw[(mem_iff _ _).2 hm]at h4
    cases h4
  all_goals
    have hklt:k<ops.size:=(Fbl.1 hk).1
    have h6:=all_range.1 h5 k hklt
    rw[hk]at h6
    simp only[Feh,yv hne,Fad,false_or,Fax,Fby]at h6
  · intro hd'
    rw[hd']at h6
    simp at h6
  · rcases h6.2 with(h|h)|h
    · rw[(mem_iff _ _).2 hl]at h;cases h
    · exact .inl ((mem_iff _ _).1 h)
    · exact .inr ⟨h.1,(mem_iff _ _).1 h.2⟩
theorem yez{p q:Nat->Bool}{i:Nat}:∀(l:List Nat),l.Nodup->i∈l->p i=true->q i=false->(∀j,j≠i->p j=q j)->l.countP p=l.countP q+1:=by
  intro l
  induction l with
  |nil=>intro _ h;cases h
  | cons a l ih=>
    intro hn hi hp hq he
    rw[Fdw]at hn
    rw[List.countP_cons,List.countP_cons]
    by_cases ha:a=i
    · subst ha
      have:l.countP p=l.countP q:=List.countP_congr λj hj=>by rw[he j λh=>hn.1 (h▸hj)]
      rw[this,hp,hq]
      simp
    · have hi':i∈l:=by
        rcases Fat.1 hi with h|h
        · exact absurd h.symm ha
        · exact h
      rw[ih hn.2 hi' hp hq he,he a ha]
      omega
def left(ops:Array Oper)(listed:Array Bool):Nat:=(List.range ops.size).countP λi=> !listed.getD i true
theorem Ow{listed:Array Bool}(hs:listed.size=ops.size){i:Nat}(hi:i<ops.size)(hl:listed.getD i true=false):left ops listed=left ops (listed.setIfInBounds i true)+1:=by
  unfold left
  refine yez (i:=i) _ List.nodup_range (Fa4.2 hi) (by simp[hl]) ?_ λj hj=>?_
  · simp[hs,hi]
  · rw[getD_set_ne true (Ne.symm hj)]
theorem nr{listed:Array Bool}(h:left ops listed=0){i:Nat}(hi:i<ops.size):listed.getD i true=true:=by
  unfold left at h
  rw[List.countP_eq_zero]at h
  have:=h i (Fa4.2 hi)
  simpa using this
theorem least{p:Nat->Prop}:∀n,(∃i,i<n/\p i)->∃i,i<n/\p i/\∀j,j<i->¬p j:=by
  intro n
  induction n with
  |zero=>rintro⟨i,h,_⟩;omega
  | succ n ih=>
    rintro⟨i,h,hp⟩
    by_cases hx:∃j,j<n/\p j
    · obtain⟨j,h1,h2,h3⟩:=ih hx
      exact⟨j,by omega,h2,h3⟩
    · have:i=n:=Nat.le_antisymm (by omega) (Nat.not_lt.1 λhl=>hx ⟨i,hl,hp⟩)
      subst this
      exact⟨i,h,hp,λj hj hpj=>hx ⟨j,hj,hpj⟩⟩
theorem m4{i j:Nat}{o:Oper}(hi:ops[i]?=some o):j∈xa ops i↔∃e∈o.after,Region.binds .any e=true/\e.on=j:=by
  unfold xa
  rw[hi]
  simp only[List.mem_filterMap,Array.mem_toList_iff]
  constructor
  · rintro⟨e,he,hx⟩
    cases hb:Region.binds .any e with
    |false=>rw[hb]at hx;cases hx
    |true=>rw[hb]at hx;simp at hx;exact⟨e,he,hb,hx⟩
  · rintro⟨e,he,hb,hx⟩
    exact⟨e,he,by simp[hb,hx]⟩
theorem ready_iff{i:Nat}{listed:Array Bool}:i∈Region.ready .any ops listed↔listed.getD i true=false/\i<ops.size/\∀j∈xa ops i,listed.getD j false=true:=by
  rw[mem_ready]
  constructor
  · rintro⟨h1,o,ho,h2⟩
    refine⟨h1,(Fbl.1 ho).1,λj hj=>?_⟩
    obtain⟨e,he,hb,rfl⟩:=(m4 ho).1 hj
    exact h2 e he hb
  · rintro⟨h1,hlt,h2⟩
    refine⟨h1,ops[i],Fa5 hlt,λe he hb=>h2 _ ((m4 (Fa5 hlt)).2 ⟨e,he,hb,rfl⟩)⟩
def j6(ops:Array Oper)(U:List Nat):List Nat:=U.filterMap λi=>(ops[i]?).bind (·.dst)
theorem mem_dsts{U:List Nat}{t:Nat}:t∈j6 ops U↔∃k∈U,∃o,ops[k]?=some o/\o.dst=some t:=by
  unfold j6
  rw[List.mem_filterMap]
  constructor
  · rintro⟨k,hk,h⟩
    cases ho:ops[k]? with
    |none=>rw[ho]at h;cases h
    |some o=>rw[ho]at h;exact⟨k,hk,o,ho,h⟩
  · rintro⟨k,hk,o,ho,h⟩
    exact⟨k,hk,by rw[ho];exact h⟩
theorem SimB.weaken{n:SN}{Oth M:Nat->Nat->Prop}{β:Nat->Nat}{A B:Fr}{st:Store}{a:Act}{w:World}(h:SimB n Oth β A st M a w)(hb:B.bx=A.bx)(ht:∀t,A.t t=B.t t\/B.t t=.any):SimB n Oth β B st M a w where
  tsz:=h.tsz
  dfr:=h.dfr
  tm i:=by
    rcases ht i with h1|h1
    · rw[<-h1];exact h.tm i
    · rw[h1];trivial
  bx:=by rw[hb];exact h.bx
  inj:=by rw[hb];exact h.inj
  sep:=by rw[hb];exact h.sep
  sto:=h.sto
theorem Oper.wp_q{o:Oper}{a:Act}{w:World}{K:Act->World->Prop}{Q:Exit->Act->World->Prop}(h:o.wp P a w K λ_ _ _=>False):o.wp P a w K Q:=by
  unfold Oper.wp at*
  generalize(execOp a.eval o).run P w=r at*
  cases r with
  | ok n w'=>
    cases n<;>simp only[Oper.upon]at h⊢<;>
      first
        |exact h
        |exact Calls.mono h (λe w'' he=>by cases e<;>first|exact he|exact he.elim|(obtain⟨_,_,he⟩:=he;exact he.elim))
        |exact Rows.mono h (λ_ _ he=>he)
  |halt x w'=>cases x<;>simp only[Oper.upon]at h⊢<;>exact h.elim
theorem ygp(hI:yp P c.I){o:Oper}{d:Nat}{x:LV}{B:Fr}{st:Store}(hd:o.dst=some d)(hlt:d<c.n)(h:vcW c B.ev B.bx st d o.op (λy=>y=x)):AOp P c.N o (λA' st'=>A'=B.put d x/\st'=st) B st:=by
  have key:(∀t n ps,o.op≠.buildSlice t n ps)->AOp P c.N o (λA' st'=>A'=B.put d x/\st'=st) B st:=by
    intro hne
    refine Mo hI (za d hd ?_)
    simp only[show Nat.blt d c.n=true from Fcg hlt,cond_true]
    unfold vcW at h
    split at h
    · rename_i heq;exact absurd heq (hne _ _ _)
    · exact di hI (λy hy=>⟨by rw[hy],Tv⟩) h
  cases hop:o.op with
  | buildSlice t n parts=>
    clear key
    rw[hop]at h
    obtain⟨i,ie,e,rows,y,hi,hty,hie,hrows,hone,hroom,hy,hyx,_⟩:=tq (show bsK c B.ev t n parts (λy=>y=x)from h)
    subst hyx
    refine u0 (c:={c with G:=[]}) hop hI (za i hi (za d hd ?_))
    simp only[show Nat.blt d c.n=true from Fcg hlt,cond_true,hty]
    refine za ie hie (za rows hrows ?_)
    rw[hone]
    refine⟨hroom,?_⟩
    cases rows with
    |nil=>subst hy;exact⟨rfl,Tv⟩
    |cons r rs=>subst hy;exact⟨rfl,Tv⟩
  |_=>exact key (by rw[hop];intro _ _ _ h;cases h)
theorem Kc{o:Oper}{A B:Fr}(h:∀t∈o.looksAt ops,B.t t=A.t t):wx ops o B=wx ops o A:=by
  unfold wx
  cases hg:o.guard with
  |none=>rfl
  | some jw=>
    obtain⟨j,want⟩:=jw
    simp only
    cases hd:(ops[j]?).bind (·.dst)with
    |none=>rfl
    | some t=>
      simp only
      rw[h t (by unfold Oper.looksAt;rw[hg];simp[hd])]
theorem nl{o:Oper}{t:Nat}(h:Operand.tmp t∈o.op.operands):t∈o.looksAt ops:=
  List.mem_append_left _ (List.mem_filterMap.2 ⟨.tmp t,by simpa using h,rfl⟩)
theorem Wr{o:Oper}{A B:Fr}(h:∀t∈o.looksAt ops,B.t t=A.t t):∀x∈o.op.operands,B.ev x=A.ev x:=by
  intro x hx
  cases x with
  |tmp t=>exact h t (nl hx)
  |_=>rfl
theorem stands_iff{A:Fr}{st:Store}{i:Nat}:stands c ops A st i↔∃o d,ops[i]?=some o/\o.dst=some d∧
    ((wx ops o A=some true/\vcW c A.ev A.bx st d o.op λx=>x=A.t d)\/(wx ops o A=some false/\A.t d=.und)):=by
  unfold stands
  constructor
  · intro h
    obtain⟨o,ho,h⟩:=zl h
    obtain⟨d,hd,h⟩:=zl h
    exact⟨o,d,ho,hd,guardK_iff.1 h⟩
  · rintro⟨o,d,ho,hd,h⟩
    exact za o ho (za d hd (guardK_iff.2 h))
theorem fq{A B:Fr}{st st':Store}{i:Nat}{o:Oper}(hi:ops[i]?=some o)(h:stands c ops A st i)(hl:∀t∈o.looksAt ops,B.t t=A.t t)(hd:∀d,o.dst=some d->B.t d=A.t d)
    (hn:(B.bx=A.bx/\st'=st)\/I3 o.op=true):stands c ops B st' i:=by
  obtain⟨o',d,ho,hdst,h⟩:=stands_iff.1 h
  rw[hi]at ho
  cases ho
  refine stands_iff.2 ⟨o,d,hi,hdst,?_⟩
  rw[Kc hl,hd d hdst]
  refine h.imp (λh=>⟨h.1,?_⟩) id
  have h2:=Rp (ev':=B.ev) (Wr hl) h.2
  rcases hn with⟨h3,h4⟩|hn
  · rw[h3,h4];exact h2
  · exact zbv hn h2
theorem zrf{A:Fr}{st:Store}:∀{l:List Nat},G9 c ops A st l->∀i∈l,stands c ops A st i:=by
  intro l
  induction l with
  |nil=>intro _ i h;cases h
  | cons a l ih=>
    intro h i hi
    rcases Fat.1 hi with rfl|h'
    · exact h.1
    · exact ih h.2 i h'
def rm(P:Program)(c:Cfg)(ops:Array Oper)(K:Fr->Store->Prop)(i:Nat)(chk:List Nat)(r:Sched)(A:Fr)(st:Store):Prop:=
  optK ops[i]? λo=>
      Gk ops o A (λA=>Bp P c o (λA' st'=>G9 c ops A' st' chk/\kh P c ops K r A' st') A st)
        (λA=>ql A c.n o.dst .und λA'=>G9 c ops A' st chk/\kh P c ops K r A' st)
theorem yg0{K:Fr->Store->Prop}{A:Fr}{st:Store}{i:Nat}{L:List Nat}:∀(S:Sched) (first:Bool),jz c ops S L first=true->kh P c ops K S A st->i∈Mp S->
    ∃chk r,Mb c ops i chk L=true/\jz c ops r (i::L) true=true/\rm P c ops K i chk r A st:=by
  intro S
  induction S with
  |done=>intro _ _ _ h;cases h
  |stop=>intro _ _ _ h;cases h
  |v j r _=>intro _ _ _ h;cases h
  | e j chk r alt _ ih=>
    intro first hs hv hi
    simp only[jz,Fax]at hs
    simp only[Mp,Fat]at hi
    rcases hi with rfl|hi
    · exact⟨chk,r,hs.1.1.1,hs.1.1.2,hv.1⟩
    · exact ih false hs.1.2 hv.2 hi
structure DInv(c:Cfg)(ops:Array Oper)(Oth M0:Nat->Nat->Prop)(w0:World)(listed:Array Bool)(Lab U:List Nat)(A:Fr)(st:Store)(M:Nat->Nat->Prop)(a:Act)(w:World):Prop where
  lsz:listed.size=ops.size
  lst:∀i,i<ops.size->(listed.getD i false=true↔i∈Lab/\i∉U)
  usub:∀i∈U,i∈Lab
  lab:∀i∈Lab,i<ops.size/\∀j∈xa ops i,j∈Lab
  uv:∀i∈U,∃o,ops[i]?=some o/\isV c o=true
  std:∀i∈U,stands c ops A st i
  sim:Sim c.N Oth (yx A (j6 ops U)) st M a w
  chg:Chg M0 w0 M w
  cls:∀i,i<ops.size->listed.getD i false=true->∀j∈xa ops i,listed.getD j false=true
theorem Wd{listed:Array Bool}{i:Nat}(h:i<listed.size):listed.getD i true=listed.getD i false:=by
  simp[h]
theorem zw0{ops:Array Oper}{listed:Array Bool}(cls:∀i,i<ops.size->listed.getD i false=true->∀j∈xa ops i,listed.getD j false=true)(hlt:∀i j,j∈xa ops i->j<ops.size){i:Nat}(hi:∀j∈xa ops i,listed.getD j false=true):
    ∀k∈Lh ops i,listed.getD k false=true:=by
  have key:∀(l acc:List Nat),(∀k∈acc,k<ops.size/\listed.getD k false=true)->∀k∈l.foldl (λacc j=>bif mem j acc then xa ops j++acc else acc) acc,k<ops.size/\listed.getD k false=true:=by
    intro l
    induction l with
    |nil=>intro acc h;exact h
    | cons j l ih=>
      intro acc h
      refine ih _ ?_
      by_cases hm:mem j acc=false
      · simp only[hm,cond_false];exact h
      · have hm:mem j acc=true:=by simpa using hm
        have hj:=h j ((mem_iff _ _).1 hm)
        intro k hk
        simp only[hm,cond_true,Fal]at hk
        rcases hk with hk|hk
        · exact⟨hlt j k hk,cls j hj.1 hj.2 k hk⟩
        · exact h k hk
  exact λk hk=>(key _ _ (λk hk=>⟨hlt i k hk,hi k hk⟩) k hk).2
end
section
variable {P:Program} {c:Cfg} {ops:Array Oper} {Oth M0:Nat->Nat->Prop} {w0:World}
def Bm(c:Cfg)(Oth M0:Nat->Nat->Prop)(w0:World)(K:Fr->Store->Prop):Exit->Act->World->Prop:=
  λe a' w'=>∃A' st' M',(match e with|.normal=>K A' st'|_=>False)/\Sim c.N Oth A' st' M' a' w'/\Chg M0 w0 M' w'
theorem zbu(hI:yp P c.I){ev:Operand->LV}{bx:Nat->Option (List AV)}{st:Store}{d:Nat}{op:Op}{K:LV->Prop}(h:vcW c ev bx st d op K):∃x,K x/\vcW c ev bx st d op λy=>y=x:=by
  unfold vcW at h⊢
  split at h
  · obtain⟨_,_,_,_,x,_,_,_,_,_,_,_,hx,hx'⟩:=tq h
    exact⟨x,hx,hx' _ rfl⟩
  · obtain⟨x,hx,hx',_⟩:=Rq hI _ h
    exact⟨x,hx,hx' _ rfl⟩
section
variable {listed:Array Bool} {Lab U:List Nat} {A:Fr} {st:Store} {M:Nat->Nat->Prop} {a:Act} {w:World}
theorem DInv.listed_iff(h:DInv c ops Oth M0 w0 listed Lab U A st M a w){i:Nat}(hi:i<ops.size):listed.getD i true=false↔¬(i∈Lab/\i∉U):=by
  rw[Wd (by rw[h.lsz];exact hi),<-h.lst i hi]
  simp
theorem DInv.done(hops:Bu c ops=true){K:Fr->Store->Prop}{S:Sched}(h:DInv c ops Oth M0 w0 listed Lab U A st M a w)(hs:jz c ops S Lab true=true)(hv:kh P c ops K S A st)
    (hl:left ops listed=0):Bm c Oth M0 w0 K .normal a w:=by
  have hall:∀i,i<ops.size->i∈Lab/\i∉U:=λi hi=>by
    have:=nr hl hi
    rw[Wd (by rw[h.lsz];exact hi)]at this
    exact(h.lst i hi).1 this
  have hU:U=[]:=by
    cases U with
    |nil=>rfl
    |cons u U=>exact absurd (Fbj) (hall u (h.lab u (h.usub u Fbj)).1).2
  subst hU
  cases S with
  |done=>exact⟨A,st,M,hv,h.sim,h.chg⟩
  |stop=>simp[jz]at hs
  | v i r=>
    simp only[jz,Fax,Fby]at hs
    have hlt:i<ops.size:=Fbg hs.2.1.1.1.2
    have:=hs.2.1.1.1.1
    rw[(mem_iff _ _).2 (hall i hlt).1]at this
    cases this
  | e i chk r alt=>
    simp only[jz,Mb,Fax,Fby]at hs
    have hlt:i<ops.size:=Fbg hs.1.1.1.1.1.1.2
    have:=hs.1.1.1.1.1.1.1
    rw[(mem_iff _ _).2 (hall i hlt).1]at this
    cases this
theorem DInv.ready_ne(hops:Bu c ops=true)(h:DInv c ops Oth M0 w0 listed Lab U A st M a w){n:Nat}(hl:left ops listed=n+1):Region.ready .any ops listed≠[]:=by
  intro hr
  have hex:∃i,i<ops.size/\listed.getD i true=false:=by
    unfold left at hl
    have:0<(List.range ops.size).countP λi=> !listed.getD i true:=by omega
    obtain⟨i,hi,hp⟩:=List.countP_pos_iff.1 this
    exact⟨i,Fa4.1 hi,by simpa using hp⟩
  obtain⟨i,hi,hp,hmin⟩:=least ops.size hex
  have:i∈Region.ready .any ops listed:=by
    rw[ready_iff]
    refine⟨hp,hi,λj hj=>?_⟩
    have hlt:=(Gc hops (Fa5 hi)).lt j hj
    have:=hmin j hlt
    rw[Wd (by rw[h.lsz];omega)]at this
    simpa using this
  rw[hr]at this
  cases this
theorem DInv.clear(hops:Bu c ops=true)(h:DInv c ops Oth M0 w0 listed Lab U A st M a w){i:Nat}(hr:i∈Region.ready .any ops listed){o:Oper}(hi:ops[i]?=some o):∀t∈o.looksAt ops,t∉j6 ops U:=by
  intro t ht hd
  obtain⟨k,hk,o',ho',hd'⟩:=mem_dsts.1 hd
  have hf:=Gc hops ho'
  by_cases hki:i=k
  · subst hki
    rw[hi]at ho'
    cases ho'
    exact hf.own t hd' ht
  · obtain⟨o2,ho2,hv⟩:=h.uv k hk
    rw[ho']at ho2
    cases ho2
    rcases hf.look t hd' i o hi hki ht with h1|⟨h1,_⟩
    · have:=(ready_iff.1 hr).2.2 k h1
      exact((h.lst k (h.lab k (h.usub k hk)).1).1 this).2 hk
    · rw[hv]at h1;cases h1
theorem DInv.look(h:DInv c ops Oth M0 w0 listed Lab U A st M a w){i:Nat}{o:Oper}(hl:∀t∈o.looksAt ops,t∉j6 ops U):∀t∈o.looksAt ops,(yx A (j6 ops U)).t t=A.t t:=
  λt ht=>L4 (hl t ht)
theorem yeh(hops:Bu c ops=true):∀i j,j∈xa ops i->j<ops.size:=by
  intro i j hj
  cases hi:ops[i]? with
  |none=>unfold xa at hj;rw[hi]at hj;simp at hj
  | some o=>
    have:=(Gc hops hi).lt j hj
    have h2:=(Fbl.1 hi).1
    omega
theorem ss(h:DInv c ops Oth M0 w0 listed Lab U A st M a w)(hops:Bu c ops=true){i:Nat}(hr:i∈Region.ready .any ops listed):
    ∀k,k<ops.size->(listed.setIfInBounds i true).getD k false=true->∀j∈xa ops k,(listed.setIfInBounds i true).getD j false=true:=by
  have mono:∀j,listed.getD j false=true->(listed.setIfInBounds i true).getD j false=true:=by
    intro j hj
    by_cases hji:i=j
    · subst hji
      have:i<listed.size:=by
        rw[h.lsz];exact(ready_iff.1 hr).2.1
      simp[this]
    · rw[getD_set_ne false hji];exact hj
  intro k hk hl j hj
  by_cases hki:i=k
  · subst hki;exact mono j ((ready_iff.1 hr).2.2 j hj)
  · rw[getD_set_ne false hki]at hl
    exact mono j (h.cls k hk hl j hj)
theorem DInv.pend(hI:yp P c.I)(hops:Bu c ops=true){K:Fr->Store->Prop}{fuel:Nat}(h:DInv c ops Oth M0 w0 listed Lab U A st M a w){i:Nat}(hr:i∈Region.ready .any ops listed)(hU:i∈U)
    (ih:∀(U':List Nat) (M':Nat->Nat->Prop) (a':Act) (w':World),DInv c ops Oth M0 w0 (listed.setIfInBounds i true) Lab U' A st M' a' w'->wpAny P .any ops (Bm c Oth M0 w0 K) fuel (listed.setIfInBounds i true) a' w'):
    wpOp P ops (Bm c Oth M0 w0 K) i (wpAny P .any ops (Bm c Oth M0 w0 K) fuel (listed.setIfInBounds i true)) a w:=by
  obtain⟨o,d,hi,hd,hst⟩:=stands_iff.1 (h.std i hU)
  have hf:=Gc hops hi
  have hclear:=h.clear hops hr hi
  have hlook:=h.look (i:=i) hclear
  have hilt:=(Fbl.1 hi).1
  -- the frame behind it
  have next:∀(M':Nat->Nat->Prop) (a':Act) (w':World),Sim c.N Oth ((yx A (j6 ops U)).put d (A.t d)) st M' a' w'->Chg M w M' w'->
      wpAny P .any ops (Bm c Oth M0 w0 K) fuel (listed.setIfInBounds i true) a' w':=by
    rintro M' a' w' ⟨β,sim⟩ hchg
    refine ih (U.filter λk=> !Nat.beq k i) M' a' w' ⟨by simp[h.lsz],λj hj=>?_,λj hj=>h.usub j (Fbo.1 hj).1,h.lab,λj hj=>h.uv j (Fbo.1 hj).1,λj hj=>h.std j (Fbo.1 hj).1,⟨β,sim.weaken rfl λt=>?_⟩,h.chg.trans hchg,ss h hops hr⟩
    · by_cases hji:i=j
      · subst hji
        have:i<listed.size:=by rw[h.lsz];exact hilt
        simp[this,h.usub i hU]
      · rw[getD_set_ne false hji,h.lst j hj]
        simp[Fbo,yv (Ne.symm hji)]
    · by_cases ht:t=d
      · subst ht
        left
        rw[L4]
        · simp[Fr.put]
        · intro hm
          obtain⟨k,hk,o',ho',hd'⟩:=mem_dsts.1 hm
          have hki:k≠i:=by
            have:=(Fbo.1 hk).2
            intro h;subst h;simp at this
          exact hf.one t hd k o' ho' hki hd'
      · by_cases hm:t∈j6 ops (U.filter λk=> !Nat.beq k i)
        · right;simp[yx,(mem_iff _ _).2 hm]
        · left
          have hm2:t∉j6 ops U:=by
            intro h2
            obtain⟨k,hk,o',ho',hd'⟩:=mem_dsts.1 h2
            refine hm (mem_dsts.2 ⟨k,Fbo.2 ⟨hk,?_⟩,o',ho',hd'⟩)
            by_cases hki:k=i
            · subst hki;rw[hi]at ho';cases ho';rw[hd]at hd';cases hd';exact absurd rfl ht
            · simp[yv hki]
          simp only[Fr.put,yv ht,cond_false]
          rw[L4 hm,L4 hm2]
  unfold Go.wpOp
  simp only[hi]
  rcases hst with⟨hg,hv⟩|⟨hg,hu⟩
  · have hg':wx ops o (yx A (j6 ops U))=some true:=by rw[Kc hlook];exact hg
    rw[Pd h.sim hg']
    simp only[if_true]
    refine .inl (Oper.wp_q (Oper.wp_mono ?_ (ygp hI hd (hf.dlt d hd) (Rp (ev':=(yx A (j6 ops U)).ev) (Wr hlook) hv) Oth M a w h.sim)))
    rintro a' w' ⟨A',st',M',⟨hA,hst⟩,hsim,hchg⟩
    subst hA hst
    exact next M' a' w' hsim hchg
  · have hg':wx ops o (yx A (j6 ops U))=some false:=by rw[Kc hlook];exact hg
    rw[Pd h.sim hg']
    simp only[Fad,if_false]
    obtain⟨β,sim⟩:=h.sim
    refine next M _ w ⟨β,?_⟩ (Chg.refl M w)
    rw[hd,hu]
    exact sim.put (hf.dlt d hd) rfl
theorem DInv.eff(hI:yp P c.I)(hops:Bu c ops=true){K:Fr->Store->Prop}{fuel:Nat}(h:DInv c ops Oth M0 w0 listed Lab U A st M a w){i:Nat}(hr:i∈Region.ready .any ops listed){chk:List Nat}{r:Sched}
    (he:Mb c ops i chk Lab=true) (hv:rm P c ops K i chk r A st)
    (ih:∀(A':Fr) (st':Store) (M':Nat->Nat->Prop) (a':Act) (w':World),kh P c ops K r A' st'->DInv c ops Oth M0 w0 (listed.setIfInBounds i true) (i::Lab) U A' st' M' a' w'->wpAny P .any ops (Bm c Oth M0 w0 K) fuel (listed.setIfInBounds i true) a' w'):
    wpOp P ops (Bm c Oth M0 w0 K) i (wpAny P .any ops (Bm c Oth M0 w0 K) fuel (listed.setIfInBounds i true)) a w:=by
  obtain⟨o,hi,hv⟩:=zl hv
  have hf:=Gc hops hi
  have hclear:=h.clear hops hr hi
  have hlook:=h.look (i:=i) hclear
  have hilt:=(Fbl.1 hi).1
  simp only[Mb,hi,Fax,Fby,Fb5]at he
  obtain⟨⟨⟨⟨hnL,_⟩,hdeps⟩,hnV⟩,hL⟩:=he
  have hiL:i∉Lab:=λhm=>by rw[(mem_iff _ _).2 hm]at hnL;cases hnL
  have hiU:i∉U:=λhm=>hiL (h.usub i hm)
  have hdD:∀d,o.dst=some d->d∉j6 ops U:=by
    intro d hd hm
    obtain⟨k,hk,o',ho',hd'⟩:=mem_dsts.1 hm
    exact hf.one d hd k o' ho' (λh=>hiU (h▸hk)) hd'
  have hdl:∀j∈xa ops i,j∈Lab/\j∉U:=λj hj=>by
    have h1:=(ready_iff.1 hr).2.2 j hj
    have hlt:j<ops.size:=by
      have:=hf.lt j hj;omega
    exact(h.lst j hlt).1 h1
  have hkr:∀k∈U,k∉Lh ops i:=λk hk hm=>by
    have h1:=zw0 h.cls (yeh hops) (ready_iff.1 hr).2.2 k hm
    exact((h.lst k (h.lab k (h.usub k hk)).1).1 h1).2 hk
  -- what follows
  have next:∀(A':Fr) (st':Store) (M':Nat->Nat->Prop) (a':Act) (w':World),G9 c ops A' st' chk->kh P c ops K r A' st'->Cj o A A'->((∃k,A'=A.put k .und/\o.dst=some k/\st'=st)\/A'=A/\st'=st\/True)->Sim c.N Oth (yx A' (j6 ops U)) st' M' a' w'->Chg M w M' w'->
      (∀k∈U,k∉chk->∀o',ops[k]?=some o'->∀t,o.dst≠some t->A'.t t=A.t t)->
      wpAny P .any ops (Bm c Oth M0 w0 K) fuel (listed.setIfInBounds i true) a' w':=by
    intro A' st' M' a' w' hchk hvc hkept _ hsim hchg hk2
    refine ih A' st' M' a' w' hvc ⟨by simp[h.lsz],λj hj=>?_,λj hj=>Fa3 _ (h.usub j hj),λj hj=>?_,h.uv,λk hk=>?_,hsim,h.chg.trans hchg,ss h hops hr⟩
    · by_cases hji:i=j
      · subst hji
        have:i<listed.size:=by rw[h.lsz];exact hilt
        simp[this,hiU]
      · rw[getD_set_ne false hji,h.lst j hj]
        simp[Ne.symm hji]
    · rcases Fat.1 hj with rfl|hj
      · exact⟨hilt,λk hk=>Fa3 _ (hdl k hk).1⟩
      · exact⟨(h.lab j hj).1,λk hk=>Fa3 _ ((h.lab j hj).2 k hk)⟩
    · by_cases hkc:k∈chk
      · exact zrf hchk k hkc
      · obtain⟨o',ho',hV⟩:=h.uv k hk
        have hk3:=hk2 k hk hkc o' ho'
        have hki:k≠i:=λh=>hiU (h▸hk)
        have hkd:k∉xa ops i:=λhd=>(hdl k hd).2 hk
        have h4:=hL k (h.usub k hk)
        have m1:mem k (Lh ops i)=false:=Fb (hkr k hk)
        have m2:mem k chk=false:=Fb hkc
        rw[ho']at h4
        simp only[m1,m2,Bool.false_or,Feh,Fby,Fax,hV,Bool.true_eq_false,false_or]at h4
        refine fq ho' (h.std k hk) (λt ht=>hk3 t λhd=>?_) (λd hd=>hk3 d λhd2=>hf.one d hd2 k o' ho' hki hd) (.inr h4.1)
        rcases hf.look t hd k o' ho' hki ht with h5|⟨_,h5⟩
        · exact hiL ((h.lab k (h.usub k hk)).2 i h5)
        · exact hkd h5
  have hkept:∀(A':Fr),Cj o A A'->∀k∈U,k∉chk->∀o',ops[k]?=some o'->∀t,o.dst≠some t->A'.t t=A.t t:=by
    intro A' hK k hk hkc o' ho' t ht
    obtain⟨o2,ho2,hV⟩:=h.uv k hk
    rw[ho']at ho2
    cases ho2
    have hkd:k∉xa ops i:=λhd=>(hdl k hd).2 hk
    have h4:=hL k (h.usub k hk)
    have m1:mem k (Lh ops i)=false:=Fb (hkr k hk)
    have m2:mem k chk=false:=Fb hkc
    rw[ho']at h4
    simp only[m1,m2,Bool.false_or,Feh,Fby,Fax,hV,Bool.true_eq_false,false_or]at h4
    refine hK ?_ t ht
    have h5:=h4.2
    revert h5
    cases o.op<;>simp
  unfold Go.wpOp
  simp only[hi]
  rcases guardK_iff.1 hv with⟨hg,hv⟩|⟨hg,hv⟩
  · have hg':wx ops o (yx A (j6 ops U))=some true:=by rw[Kc hlook];exact hg
    rw[Pd h.sim hg']
    simp only[if_true]
    have hF:=zbw (D:=j6 ops U) hI hv (λx hx t ht=>hclear t (nl (by rw[<-ht];exact hx))) hdD
    refine .inl (Oper.wp_q (Oper.wp_mono ?_ (uz hI hF Oth M a w h.sim)))
    rintro a' w' ⟨B',st',M',⟨A',⟨hchk,hvc⟩,hB,hkp⟩,hsim,hchg⟩
    subst hB
    exact next A' st' M' a' w' hchk hvc hkp (.inr (.inr trivial)) hsim hchg (hkept A' hkp)
  · have hg':wx ops o (yx A (j6 ops U))=some false:=by rw[Kc hlook];exact hg
    rw[Pd h.sim hg']
    simp only[Fad,if_false]
    obtain⟨β,sim⟩:=h.sim
    unfold ql at hv
    cases hd:o.dst with
    | none=>
      rw[hd]at hv
      exact next A st M _ w hv.1 hv.2 V2 (.inr (.inr trivial)) ⟨β,sim⟩ (Chg.refl M w) (λ_ _ _ _ _ _ _=>rfl)
    | some d=>
      rw[hd]at hv
      obtain⟨hlt,hv⟩:=vz hv
      refine next (A.put d .und) st M _ w hv.1 hv.2 (Hp hd) (.inr (.inr trivial)) ⟨β,?_⟩ (Chg.refl M w) (λ_ _ _ _ _ t ht=>by
        have:t≠d:=λh=>ht (by rw[h];exact hd)
        simp[Fr.put,yv this])
      rw[<-Fk (hdD d hd)]
      exact sim.put hlt rfl
theorem DInv.move(hI:yp P c.I)(hops:Bu c ops=true){K:Fr->Store->Prop}(h:DInv c ops Oth M0 w0 listed Lab U A st M a w){j:Nat}{r:Sched}(hs:jz c ops (.v j r) Lab true=true)(hv:kh P c ops K (.v j r) A st):
    ∃A',jz c ops r (j::Lab) true=true/\kh P c ops K r A' st/\DInv c ops Oth M0 w0 listed (j::Lab) (j::U) A' st M a w:=by
  simp only[jz,Fax,Fby,true_and]at hs
  obtain⟨⟨⟨⟨hn,hlt⟩,hV⟩,hdep⟩,hs⟩:=hs
  have hjL:j∉Lab:=λhm=>by rw[(mem_iff _ _).2 hm]at hn;cases hn
  have hlt:j<ops.size:=Fbg hlt
  obtain⟨o,hi,hv⟩:=zl hv
  obtain⟨d,hd,hv⟩:=zl hv
  rw[hi]at hV
  replace hV:isV c o=true:=hV
  have hf:=Gc hops hi
  have hdl:∀k∈xa ops j,k∈Lab:=λk hk=>(mem_iff _ _).1 (Fb5.1 hdep k hk)
  have key:∀x,kh P c ops K r (A.put d x) st->((wx ops o A=some true/\vcW c A.ev A.bx st d o.op λy=>y=x)\/(wx ops o A=some false/\x=.und))->
      ∃A',jz c ops r (j::Lab) true=true/\kh P c ops K r A' st/\DInv c ops Oth M0 w0 listed (j::Lab) (j::U) A' st M a w:=by
    intro x hx hst
    have hout:∀t,t≠d->(A.put d x).t t=A.t t:=λt ht=>by simp[Fr.put,yv ht]
    refine⟨A.put d x,hs,hx,h.lsz,λk hk=>?_,λk hk=>?_,λk hk=>?_,λk hk=>?_,λk hk=>?_,?_,h.chg,h.cls⟩
    · rw[h.lst k hk]
      by_cases hkj:k=j
      · subst hkj;simp[hjL]
      · simp[hkj]
    · rcases Fat.1 hk with rfl|hk
      · exact Fbj
      · exact Fa3 _ (h.usub k hk)
    · rcases Fat.1 hk with rfl|hk
      · exact⟨hlt,λk hk=>Fa3 _ (hdl k hk)⟩
      · exact⟨(h.lab k hk).1,λk' hk'=>Fa3 _ ((h.lab k hk).2 k' hk')⟩
    · rcases Fat.1 hk with rfl|hk
      · exact⟨o,hi,hV⟩
      · exact h.uv k hk
    · rcases Fat.1 hk with rfl|hk
      · have hl:∀t∈o.looksAt ops,(A.put d x).t t=A.t t:=λt ht=>hout t λhh=>hf.own d hd (hh▸ht)
        refine stands_iff.2 ⟨o,d,hi,hd,?_⟩
        rw[Kc hl,show(A.put d x).t d=x by simp[Fr.put]]
        exact hst.imp (λh=>⟨h.1,Rp (ev':=(A.put d x).ev) (Wr hl) h.2⟩) id
      · obtain⟨o',ho',hV'⟩:=h.uv k hk
        have hkj:k≠j:=λhh=>hjL (hh▸h.usub k hk)
        refine fq ho' (h.std k hk) (λt ht=>hout t λhh=>?_) (λd' hd'=>hout d' λhh=>hf.one d hd k o' ho' hkj (hh▸hd')) (.inl ⟨rfl,rfl⟩)
        subst hh
        rcases hf.look t hd k o' ho' hkj ht with h5|⟨h5,_⟩
        · exact hjL ((h.lab k (h.usub k hk)).2 j h5)
        · rw[hV]at h5;cases h5
    · obtain⟨β,sim⟩:=h.sim
      refine⟨β,sim.weaken rfl λt=>?_⟩
      have hds:j6 ops (j::U)=d::j6 ops U:=by simp[j6,hi,hd]
      rw[hds]
      by_cases ht:t=d
      · subst ht;right;simp[yx,mem]
      · by_cases hm:t∈j6 ops U
        · right;simp[yx,mem,yv ht,(mem_iff _ _).2 hm]
        · left;simp[yx,mem,yv ht,Fb hm,Fr.put]
  rcases guardK_iff.1 hv with⟨hg,hv⟩|⟨hg,hv⟩
  · have:∃x,kh P c ops K r (A.put d x) st/\vcW c A.ev A.bx st d o.op λy=>y=x:=zbu hI hv
    obtain⟨x,h1,h2⟩:=this
    exact key x h1 (.inl ⟨hg,h2⟩)
  · exact key .und hv (.inr ⟨hg,rfl⟩)
end
theorem ydt(hI:yp P c.I)(hops:Bu c ops=true){K:Fr->Store->Prop}{fuel:Nat}
    (ih:∀(S:Sched) (listed:Array Bool) (Lab U:List Nat) (A:Fr) (st:Store) (M:Nat->Nat->Prop) (a:Act) (w:World),jz c ops S Lab true=true->kh P c ops K S A st->DInv c ops Oth M0 w0 listed Lab U A st M a w->left ops listed=fuel->
      wpAny P .any ops (Bm c Oth M0 w0 K) fuel listed a w) {listed:Array Bool} {M:Nat->Nat->Prop} {a:Act} {w:World} {st:Store} (hl:left ops listed=fuel+1) {i:Nat} (hr:i∈Region.ready .any ops listed):
    ∀ (S:Sched) (Lab U:List Nat) (A:Fr),jz c ops S Lab true=true->kh P c ops K S A st->DInv c ops Oth M0 w0 listed Lab U A st M a w->
      wpOp P ops (Bm c Oth M0 w0 K) i (wpAny P .any ops (Bm c Oth M0 w0 K) fuel (listed.setIfInBounds i true)) a w:=by
  obtain⟨hun,hilt,hdeps⟩:=ready_iff.1 hr
  intro S
  induction S with
  | done=>
    intro Lab U A hs hv h
    by_cases hU:i∈U
    · exact h.pend hI hops hr hU λU' M' a' w' h'=>ih .done _ _ _ _ _ _ _ _ hs hv h' (by have:=Ow h.lsz hilt hun;omega)
    · simp only[jz,Bool.true_and]at hs
      exact absurd ⟨(mem_iff _ _).1 (all_range.1 hs i hilt),hU⟩ ((h.listed_iff hilt).1 hun)
  |stop=>intro Lab U A hs;simp[jz]at hs
  | v j r ihr=>
    intro Lab U A hs hv h
    by_cases hU:i∈U
    · exact h.pend hI hops hr hU λU' M' a' w' h'=>ih (.v j r) _ _ _ _ _ _ _ _ hs hv h' (by have:=Ow h.lsz hilt hun;omega)
    · obtain⟨A',h1,h2,h3⟩:=h.move hI hops hs hv
      exact ihr _ _ A' h1 h2 h3
  | e j chk r alt _ _=>
    intro Lab U A hs hv h
    by_cases hU:i∈U
    · exact h.pend hI hops hr hU λU' M' a' w' h'=>ih (.e j chk r alt) _ _ _ _ _ _ _ _ hs hv h' (by have:=Ow h.lsz hilt hun;omega)
    · have hiL:i∉Lab:=λhm=>(h.listed_iff hilt).1 hun ⟨hm,hU⟩
      have hin:i∈Mp (.e j chk r alt):=by
        have hs2:=hs
        simp only[jz,Fax,Bool.not_true,Bool.false_or]at hs2
        have h1:=all_range.1 hs2.2 i hilt
        simp only[Feh,Fby,Fb hiL,Fad,false_or]at h1
        rcases h1 with h1|h1
        · have:sub (xa ops i) Lab=true:=by
            unfold sub
            rw[Fb5]
            intro k hk
            have hlt:k<ops.size:=by
              have:=(Gc hops (Fa5 hilt)).lt k hk
              omega
            exact(mem_iff _ _).2 ((h.lst k hlt).1 (hdeps k hk)).1
          rw[this]at h1;cases h1
        · exact(mem_iff _ _).1 h1
      obtain⟨chk',r',h1,h2,h3⟩:=yg0 _ true hs hv hin
      exact h.eff hI hops hr h1 h3 λA' st' M' a' w' h4 h5=>ih r' _ _ _ _ _ _ _ _ h2 h4 h5 (by have:=Ow h.lsz hilt hun;omega)
theorem ydu(hI:yp P c.I)(hops:Bu c ops=true){K:Fr->Store->Prop}:∀(fuel:Nat) (S:Sched) (listed:Array Bool) (Lab U:List Nat) (A:Fr) (st:Store) (M:Nat->Nat->Prop) (a:Act) (w:World),jz c ops S Lab true=true->kh P c ops K S A st->DInv c ops Oth M0 w0 listed Lab U A st M a w->left ops listed=fuel->
      wpAny P .any ops (Bm c Oth M0 w0 K) fuel listed a w:=by
  intro fuel
  induction fuel with
  | zero=>
    intro S listed Lab U A st M a w hs hv h hl
    refine⟨?_,h.done hops hs hv hl⟩
    cases hr:Region.ready .any ops listed with
    |nil=>rfl
    | cons i rs=>
      have hi:i∈Region.ready .any ops listed:=by rw[hr];exact Fbj
      obtain⟨h1,h2,_⟩:=ready_iff.1 hi
      rw[nr hl h2]at h1
      cases h1
  | succ fuel ih=>
    intro S listed Lab U A st M a w hs hv h hl
    refine⟨λhr=>absurd hr (h.ready_ne hops hl),λi hi=>ydt hI hops ih hl hi S Lab U A hs hv h⟩
theorem zar{ops:Array Oper}(hd:∀(i:Nat) (o:Oper),ops[i]?=some o->∀cl,o.op≠.defer cl){Q:Exit->Act->World->Prop}{i:Nat}{K K':Act->World->Prop}{a:Act}{w:World}(hk:∀a w,K a w->K' a w)(h:wpOp P ops Q i K a w)(hn:∀e a w,e≠.normal->¬Q e a w):wpOpIn c.F 0 P ops Q i K' a w:=by
  unfold wpOp at h
  unfold wpOpIn
  split
  · rename_i hi;simp only[hi]at h;exact hk _ _ h
  · rename_i o hi
    simp only[hi]at h
    split
    · rename_i hw
      simp only[hw,if_true]at h
      rcases h with h|⟨_,a1,w1,h⟩
      · exact Mu hk hn (Oper.wpIn_F (hd i o hi) h)
      · exact(hn _ _ _ (by simp) h).elim
    · rename_i hw
      simp only[hw]at h
      exact⟨λ_ _=>Tv,hk _ _ h⟩
theorem zat{ops:Array Oper}(hd:∀(i:Nat) (o:Oper),ops[i]?=some o->∀cl,o.op≠.defer cl){Q:Exit->Act->World->Prop}(hn:∀e a w,e≠.normal->¬Q e a w){md:Region.Mode}:∀(fuel:Nat) (listed:Array Bool) (a:Act) (w:World),wpAny P md ops Q fuel listed a w->wpAnyIn c.F 0 P md ops Q fuel listed a w:=by
  intro fuel
  induction fuel with
  |zero=>intro listed a w h;exact h
  |succ fuel ih=>intro listed a w h;exact⟨h.1,λi hi=>zar hd (λa w h=>ih _ a w h) (h.2 i hi) hn⟩
theorem ADraw.of_sched(hI:yp P c.I)(hm:P.follows .mixedOrders=true)(hops:Bu c ops=true){K:Fr->Store->Prop}{A:Fr}{st:Store}(S:Sched)(hs:jz c ops S [] true=true)(hv:kh P c ops K S A st):ADraw P c ops K A st:=by
  refine⟨λid=>⟨λOth M a w sim=>wpIn_region_any hm (zat (λi o hi=>(Gc hops hi).nd) ?_ _ _ _ _ ?_)⟩⟩
  · rintro e a' w' hne ⟨A',st',M',h,_⟩
    cases e<;>first|exact hne rfl|exact h
  obtain⟨β,sim⟩:=sim
  have g:=Grow.drew w
  have hinv:DInv c ops Oth M w (Array.replicate ops.size false) [] [] A st M a w.drew:=
    ⟨by simp,λi hi=>by simp[hi],λi h=>(by cases h),λi h=>(by cases h),λi h=>(by cases h),λi h=>(by cases h),⟨β,sim.grow g⟩,g.chg M,λi hi hl=>by simp[hi]at hl⟩
  have hl:left ops (Array.replicate ops.size false)=ops.size:=by
    unfold left
    have:(List.range ops.size).countP (λi=> !(Array.replicate ops.size false).getD i true)=(List.range ops.size).length:=by
      rw[List.countP_eq_length]
      intro i hi
      simp[Fa4.1 hi]
    rw[this,Fdj]
  exact ydu hI hops ops.size S _ [] [] A st M a w.drew hs hv hinv hl
theorem Qc(hI:yp P c.I){K:Fr->Store->Prop}{A:Fr}{st:Store}(S:Sched)(hv:kh P c ops K S A st)(hm:P.follows .mixedOrders=true:=by rfl)(hops:Bu c ops=true:=by rfl)(hs:jz c ops S [] true=true:=by rfl):ADraw P c ops K A st:=ADraw.of_sched hI hm hops S hs hv
end
section
variable {x:AV} {st:Store} {a b v:Int}
theorem ret{R:Ja}(h:R x st):∃r st',AV.le x r/\st.Has st'/\R r st':=⟨x,st,Tt,Store.Has.refl _,h⟩
theorem Aq{r:AV}{st':Store}{R:Ja}(h:AV.le x r)(k:st.Has st')(q:R r st'):∃r st',AV.le x r/\st.Has st'/\R r st':=⟨r,st',h,k,q⟩
theorem optR{α:Type}{x:α}{K:α->Prop}(h:K x):optK (some x) K:=h
theorem bcd{c:Prop}[Decidable c]{p q:Prop}(h:c->p)(h':¬c->q):Bb (decide c) p q:=zj (λe=>h (of_decide_eq_true e)) (λe=>h' (of_decide_eq_false e))
theorem z6{p q:Prop}(h:a=b->p)(h':a≠b->q):Bb (a==b) p q:=zj (λe=>h (eq_of_beq e)) (λe=>h' (ne_of_beq_false e))
theorem qr{p q:Prop}(h:a≠b->p)(h':a=b->q):Bb (a != b) p q:=by
  refine zj (λe=>h ?_) (λe=>h' ?_)<;>simpa using e
theorem ym{b:Bool}{p q:Prop}(h:Bb b q p):Bb (!b) p q:=by cases b<;>exact h
theorem ze{K:Prop}(h:-9223372036854775808<=v/\v<=9223372036854775807)(k:K):ya v/\K:=⟨h,k⟩
theorem Qd{K:Prop}(k:K)(h:-9223372036854775808<=v/\v<=9223372036854775807:=by omega):ya v/\K:=⟨h,k⟩
end
section
variable {st st':Store} {b p k o:Nat} {v:AV} {i:TI} {A:Fr}
theorem Fresh.ne_obj{x:AObj}(h:Fresh st b)(hp:st.obj p=some x):b≠p:=λe=>by rw[<-e,h.1]at hp;cases hp
theorem zd(st:Store)(p:Nat)(x:AObj):(st.sO p x).obj p=some x:=by simp[Store.sO]
theorem zg{x:AObj}(h:b≠p):(st.sO p x).obj b=st.obj b:=by simp[Store.sO,yv h]
theorem zr3{x:Option Nat}(h:b≠p):(st.sT p x).tok b=st.tok b:=by simp[Store.sT,yv h]
theorem yq(st:Store)(p:Nat)(x y:AObj):(st.sO p x).sO p y=st.sO p y:=by
  unfold Store.sO
  congr
  funext i
  by_cases hi:i=p
  · subst hi;simp
  · simp[yv hi]
theorem ycf{x:AObj}(h:Fresh st b)(hn:b≠p):Fresh (st.sO p x) b:=⟨by rw[zg hn];exact h.1,h.2⟩
theorem gm(st:Store)(p b:Nat)(x:AObj)(y:Option Nat):(st.sT b y).sO p x=(st.sO p x).sT b y:=rfl
theorem App.sO{rows:List (List AV)}{x y:AObj}(h:App k (st.sO p x) v rows st'):App k (st.sO p y) v rows (st'.sO p y):=by
  rcases h with⟨h1,h2,rfl⟩|⟨h1,h2,rfl⟩|⟨h1,b,hb,h2,rfl⟩
  · rw[yq];exact .inl ⟨h1,h2,rfl⟩
  · rw[yq];exact .inr (.inl ⟨h1,h2,rfl⟩)
  · have hne:b≠p:=λe=>by have:=hb.1;rw[e,zd]at this;cases this
    refine .inr (.inr ⟨h1,b,?_,h2,?_⟩)
    · exact⟨by rw[zg hne];have:=hb.1;rwa [zg hne]at this,hb.2⟩
    · rw[gm,yq]
theorem App.fresh{rows:List (List AV)}(h:App k st v rows st')(hp:Fresh st' p):st.obj p=none:=by
  cases ho:st.obj p with
  |none=>rfl
  |some x=>have:=h.has.obj p x ho;rw[hp.1]at this;cases this
theorem Fh{x:AObj}(h:st.obj p=none):(st.sO p x).Has st:=
  ⟨λb y hb=>by
    have:b≠p:=λe=>by rw[e,h]at hb;cases hb
    rw[zg this];exact hb,λ_ _ h=>h⟩
theorem App.obj{rows:List (List AV)}(h:App k st v rows st')(p:Nat):st'.obj p=st.obj p:=by
  rcases h with⟨_,_,rfl⟩|⟨_,_,rfl⟩|⟨_,_,_,_,rfl⟩<;>rfl
theorem App.read{rows:List (List AV)}{x:AObj}(h:App k (st.sO p x) v rows st'):st'.obj p=some x:=by rw[h.obj,zd]
theorem App.src{rows:List (List AV)}(h:App k st v rows st'):vi k (.av v)=some rows:=by
  rcases h with⟨rfl,rfl,_⟩|⟨rfl,rfl,_⟩|⟨_,b,_,rfl,_⟩
  · rfl
  · rfl
  · simp[vi]
theorem App.split{rows:List (List AV)}{x:AObj}(h:App k (st.sO p x) v rows st'):∃st1:Store,st'=st1.sO p x/\st1.Has st/\∀y,App k (st.sO p y) v rows (st1.sO p y):=by
  rcases h with⟨h1,h2,rfl⟩|⟨h1,h2,rfl⟩|⟨h1,b,hb,h2,rfl⟩
  · exact⟨st,rfl,Store.Has.refl _,λy=>.inl ⟨h1,h2,rfl⟩⟩
  · exact⟨st,rfl,Store.Has.refl _,λy=>.inr (.inl ⟨h1,h2,rfl⟩)⟩
  · have hne:b≠p:=λe=>by have:=hb.1;rw[e,zd]at this;cases this
    have hf:Fresh st b:=⟨by have:=hb.1;rwa [zg hne]at this,hb.2⟩
    refine⟨st.sT b (some (rows.length*k)),(gm _ _ _ _ _).symm,⟨λ_ _ h=>h,λi y hi=>?_⟩,λy=>.inr (.inr ⟨h1,b,ycf hf hne,h2,rfl⟩)⟩
    have:i≠b:=λe=>by rw[e,hf.2]at hi;cases hi
    rw[zr3 this];exact hi
theorem ACalls.drop{P:Program}{f:FuncId}{xs:List AV}{R:Ja}(h:st.Has st')(hc:ACalls P f xs st' R):ACalls P f xs st R:=by
  refine⟨λOth M w vs sto hr=>?_⟩
  have h1:=hc.out Oth M w vs (sto.weaken h) hr
  have k:∀v w',qn st' R Oth M w v w'->qn st R Oth M w v w':=λv w' ⟨r,st1,M',h1,h2,h3,h4⟩=>⟨r,st1,M',h1,h2,h3,h4⟩
  generalize(callFunc f vs).run P w=res at h1
  cases res with
  | ok n w'=>
    cases n with
    |enter g args=>exact Calls.mono h1 λe w'' ⟨v,he,hv⟩=>⟨v,he,k _ _ hv⟩
    |value v=>exact k _ _ h1
    |_=>exact h1
  |_=>exact h1
theorem App.cells{rows:List (List AV)}(h:App k st v rows st'):cellsOf v=some [v]:=by
  rcases h with⟨rfl,rfl,_⟩|⟨rfl,rfl,_⟩|⟨_,b,_,rfl,_⟩<;>rfl
theorem App.lst{rows:List (List AV)}(h:App k st v rows st')(hne:rows≠[]):∃b,v=.lst k rows (some b):=by
  rcases h with⟨_,h,_⟩|⟨_,h,_⟩|⟨_,b,_,h,_⟩
  · exact absurd h hne
  · exact absurd h hne
  · exact⟨b,h⟩
theorem App.one{rows:List (List AV)}(h:App k st v rows st'):v.one=true:=by
  rcases h with⟨rfl,rfl,_⟩|⟨rfl,rfl,_⟩|⟨_,b,_,rfl,_⟩<;>rfl
theorem Bs{l:List AV}{K:Fr->Store->Prop}(hc:cellsOf v=some [v])(h1:v.one=true)(hi:i.size=1)(ho:st.obj b=some (.cells l))(hl:o+1<=l.length)
    (hk:K A (st.sO b (.cells (zu l o [v])))):D3 i A st (.av (.s (.pointer (some ⟨b,o,none⟩)))) v K:=by
  unfold D3
  rw[hc]
  show(bif Nat.beq 1 i.size&&([v].all AV.one)then _ else False)
  rw[hi]
  simp only[List.all_cons,h1,List.all_nil,Fbs,Bool.and_self,cond_true]
  rw[ho]
  exact⟨hl,Hv hk⟩
theorem qj{st2:Store}{l:List AV}{K:Fr->Store->Prop}(hc:cellsOf v=some [v])(h1:v.one=true)(hi:i.size=1)(ho:st.obj b=some (.cells l))(hl:o+1<=l.length)
    (he:st.sO b (.cells (zu l o [v]))=st2) (hk:K A st2):D3 i A st (.av (.s (.pointer (some ⟨b,o,none⟩)))) v K:=
  Bs hc h1 hi ho hl (he▸hk)
theorem D5{q:Nat}{x y:AObj}(h:q≠p):(st.sO p x).sO q y=(st.sO q y).sO p x:=by
  unfold Store.sO
  congr
  funext i
  by_cases hi:i=p
  · subst hi;simp[yv (Ne.symm h)]
  · simp[yv hi]
end
def u8(b:UInt8):AV:=.s (.int .u8 b.toNat)
def int(n:Int):AV:=.s (.int .i64 n)
def u64(n:Int):AV:=.s (.int .u64 n)
def bool(b:Bool):AV:=.s (.bool b)
def nil:AV:=.s (.slice none 0 0)
def rws{α:Type}(f:α->List AV)(l:List α):List (List AV):=l.map f
def lst{α:Type}(k:Nat)(f:α->List AV)(l:List α):AV:=.lst k (rws f l) none
section
variable {α:Type} {f:α->List AV}
theorem zm(l:List α):(rws f l).length=l.length:=by simp[rws]
theorem zr{l:List α}{i:Nat}(h:i<l.length):(rws f l)[i]?=some (f l[i]):=by simp[rws,h]
theorem g9(a b:List α):rws f a++rws f b=rws f (a++b):=by simp[rws]
theorem wj{l:List α}{i:Nat}(h:decide ((i:Int)<((rws f l).length:Int))=true):i<l.length:=by
 rw[zm]at h;simpa using h
theorem Af{l:List α}{i:Nat}(h:decide ((i:Int)<((rws f l).length:Int))=false)(h2:i<=l.length):i=l.length:=by
 rw[zm]at h;simp at h;omega
theorem zyy{l m:List α}(h:(((rws f l).length:Int) != ((rws f m).length:Int))=true):l.length≠m.length:=by
 rw[zm,zm]at h;simp at h;omega
theorem Ws{l m:List α}(h:(((rws f l).length:Int) != ((rws f m).length:Int))=false):l.length=m.length:=by
 rw[zm,zm]at h;simp at h;omega
end
def u8C(b:UInt8):List AV:=[u8 b]
def zz(n:Int):List AV:=[int n]
def xc(l:List UInt8):AV:=lst 1 u8C l
def qa(l:List Int):AV:=lst 1 zz l
theorem isF{R:Ja}{b:Bool}{st:Store}(h:R (bool b) st)(hb:b=false):R (bool false) st:=by rw[hb]at h;exact h
theorem isT{R:Ja}{b:Bool}{st:Store}(h:R (bool b) st)(hb:b=true):R (bool true) st:=by rw[hb]at h;exact h
structure Gnd where
 W:Int
 H:Int
 T:List UInt8
 deriving DecidableEq
structure Cmd where
 P:Int
 S:Int
 K:Int
 N:Int
 U:List Int
 T:Int
 W:Int
 H:Int
 X:Int
 Y:Int
 deriving DecidableEq
structure Frm where
 turn:Int
 C:List Cmd
 hash:Int
 deriving DecidableEq
structure Rep where
 P:Int
 G:Gnd
 F:List Frm
 deriving DecidableEq
def zo(g:Gnd):List AV:=[int g.W,int g.H,xc g.T]
def qu(c:Cmd):List AV:=[int c.P,int c.S,int c.K,int c.N,qa c.U,int c.T,int c.W,int c.H,int c.X,int c.Y]
def Cmd.fits(c:Cmd):Prop:=c.U.length<=1000000000000
def Frm.fits(f:Frm):Prop:=f.C.length<=1000000000000/\∀c∈f.C,c.fits
def Gnd.fits(g:Gnd):Prop:=g.T.length<=1000000000000
def Rep.fits(r:Rep):Prop:=r.G.fits/\r.F.length<=1000000000000/\∀f∈r.F,f.fits
def zn(g:Gnd):Prop:=(1<=g.W/\g.W<=128)/\(1<=g.H/\g.H<=128)/\(g.T.length:Int)=g.W*g.H/\∀t∈g.T,t.toNat<=5
def Bq(l:List Int):Prop:=(1<=l.length/\l.length<=64)/\∀j,j<l.length->(1<=l.getD j 0/\l.getD j 0<=1099511627776)/\(0<j->l.getD (j-1) 0<l.getD j 0)
def kk(t:Int):Prop:=0<=t/\t<=16383
def idP(t:Int):Prop:=1<=t/\t<=1099511627776
def qm(x y:Int):Prop:=(-1099511627776<=x/\x<=1099511627776)/\(-1099511627776<=y/\y<=1099511627776)
def Cmd.only(c:Cmd):Cmd:=
 if c.K=1 then⟨c.P,c.S,c.K,c.N,[],0,0,0,c.X,c.Y⟩else
 if c.K=2 then⟨c.P,c.S,c.K,0,c.U,c.T,0,0,0,0⟩else
 if c.K=3 then⟨c.P,c.S,c.K,0,c.U,0,0,0,0,0⟩else
 if c.K=4 then⟨c.P,c.S,c.K,0,[],c.T,c.W,c.H,0,0⟩else
 if c.K=5 then⟨c.P,c.S,c.K,c.N,[],0,0,0,0,0⟩else
 if c.K=6 then⟨c.P,c.S,c.K,c.N,c.U,0,0,0,0,0⟩else
 if c.K=7 then⟨c.P,c.S,c.K,c.N,[],c.T,0,0,0,0⟩else
 ⟨c.P,c.S,c.K,0,[],0,0,0,0,0⟩
def Cmd.okP(c:Cmd):Prop:=
 (c.K=1/\(0<=c.N/\c.N<=3)/\qm c.X c.Y)\/(c.K=2/\Bq c.U/\kk c.T)\/(c.K=3/\Bq c.U)∨
 (c.K=4/\kk c.T/\(1<=c.W/\c.W<=4)/\(1<=c.H/\c.H<=4))\/(c.K=5/\idP c.N)\/(c.K=6/\Bq c.U/\idP c.N)\/(c.K=7/\idP c.N/\kk c.T)
def vn(c:Cmd):Prop:=c.okP/\(1<=c.P/\c.P<=8)/\(0<=c.S/\c.S<=1099511627776)/\c.only=c
theorem Cmd.ok1{c:Cmd}(h:c.K=1):c.okP↔(0<=c.N/\c.N<=3)/\qm c.X c.Y:=by unfold Cmd.okP;simp[h]
theorem Cmd.only1{c:Cmd}(h:c.K=1):c.only=⟨c.P,c.S,c.K,c.N,[],0,0,0,c.X,c.Y⟩:=by unfold Cmd.only;simp[h]
theorem Cmd.ok2{c:Cmd}(h:c.K=2):c.okP↔Bq c.U/\kk c.T:=by unfold Cmd.okP;simp[h]
theorem Cmd.only2{c:Cmd}(h:c.K=2):c.only=⟨c.P,c.S,c.K,0,c.U,c.T,0,0,0,0⟩:=by unfold Cmd.only;simp[h]
theorem Cmd.ok3{c:Cmd}(h:c.K=3):c.okP↔Bq c.U:=by unfold Cmd.okP;simp[h]
theorem Cmd.only3{c:Cmd}(h:c.K=3):c.only=⟨c.P,c.S,c.K,0,c.U,0,0,0,0,0⟩:=by unfold Cmd.only;simp[h]
theorem Cmd.ok4{c:Cmd}(h:c.K=4):c.okP↔kk c.T/\(1<=c.W/\c.W<=4)/\(1<=c.H/\c.H<=4):=by unfold Cmd.okP;simp[h]
theorem Cmd.only4{c:Cmd}(h:c.K=4):c.only=⟨c.P,c.S,c.K,0,[],c.T,c.W,c.H,0,0⟩:=by unfold Cmd.only;simp[h]
theorem Cmd.ok5{c:Cmd}(h:c.K=5):c.okP↔idP c.N:=by unfold Cmd.okP;simp[h]
theorem Cmd.only5{c:Cmd}(h:c.K=5):c.only=⟨c.P,c.S,c.K,c.N,[],0,0,0,0,0⟩:=by unfold Cmd.only;simp[h]
theorem Cmd.ok6{c:Cmd}(h:c.K=6):c.okP↔Bq c.U/\idP c.N:=by unfold Cmd.okP;simp[h]
theorem Cmd.only6{c:Cmd}(h:c.K=6):c.only=⟨c.P,c.S,c.K,c.N,c.U,0,0,0,0,0⟩:=by unfold Cmd.only;simp[h]
theorem Cmd.ok7{c:Cmd}(h:c.K=7):c.okP↔idP c.N/\kk c.T:=by unfold Cmd.okP;simp[h]
theorem Cmd.only7{c:Cmd}(h:c.K=7):c.only=⟨c.P,c.S,c.K,c.N,[],c.T,0,0,0,0⟩:=by unfold Cmd.only;simp[h]
theorem Cmd.ok0{c:Cmd}(h1:c.K≠1)(h2:c.K≠2)(h3:c.K≠3)(h4:c.K≠4)(h5:c.K≠5)(h6:c.K≠6)(h7:c.K≠7):¬c.okP:=by unfold Cmd.okP;simp[h1,h2,h3,h4,h5,h6,h7]
theorem Cmd.only0{c:Cmd}(h1:c.K≠1)(h2:c.K≠2)(h3:c.K≠3)(h4:c.K≠4)(h5:c.K≠5)(h6:c.K≠6)(h7:c.K≠7):c.only=⟨c.P,c.S,c.K,0,[],0,0,0,0,0⟩:=by unfold Cmd.only;simp[h1,h2,h3,h4,h5,h6,h7]
def leL:List AV->List AV->Prop
 |[],[]=>True
 |x::xs,y::ys=>AV.le x y/\leL xs ys
 |_,_=>False
theorem Lr:∀{xs ys:List AV},leL xs ys->xs.length=ys.length/\∀(i:Nat) (x y:AV),xs[i]?=some x->ys[i]?=some y->AV.le x y:=by
 intro xs
 induction xs with
 |nil=>
  intro ys h
  cases ys with
  |nil=>exact⟨rfl,λi x y h=>by simp at h⟩
  |cons y ys=>exact h.elim
 |cons x xs ih=>
  intro ys h
  cases ys with
  |nil=>exact h.elim
  |cons y ys=>
   obtain⟨h1,h2⟩:=ih h.2
   refine⟨by simp[h1],λi u v hu hv=>?_⟩
   cases i with
   |zero=>simp at hu hv;subst hu hv;exact h.1
   |succ i=>exact h2 i u v (by simpa using hu) (by simpa using hv)
theorem AV.le_aggL{xs ys:List AV}(h:leL xs ys):AV.le (.agg xs) (.agg ys):=AV.le_agg (Lr h).1 (Lr h).2
theorem iy{w:World}{T:Nat->Nat->Prop}{xs ys:List AV}{vs:List Value}(h:leL xs ys)(hr:Reads w T xs vs):Reads w T ys vs:=by
 obtain⟨h1,h2⟩:=Lr h
 refine⟨by rw[<-h1];exact hr.1,λi y v hy hv=>?_⟩
 have hi:i<xs.length:=by
  have:=(Faf.1 hy).1
  omega
 exact h2 i xs[i] y (Fab hi) hy w T v (hr.2 i _ v (Fab hi) hv)
theorem AV.le_tupL{xs ys:List AV}(h:leL xs ys):AV.le (.tup xs) (.tup ys):=by
 intro w T v hv
 obtain⟨cs,hc,hr⟩:=cz hv
 subst hc
 exact j8 (iy h hr)
theorem ACalls.le{P:Program}{f:FuncId}{xs ys:List AV}{st:Store}{R:Ja}(h:leL xs ys)(hc:ACalls P f ys st R):ACalls P f xs st R:=
 ⟨λOth M w vs sto hr=>hc.out Oth M w vs sto (iy h hr)⟩
theorem Cmd.eq_of{a b:Cmd}(h1:a.P=b.P)(h2:a.S=b.S)(h3:a.K=b.K)(h4:a.N=b.N)(h5:a.U=b.U)(h6:a.T=b.T)(h7:a.W=b.W)(h8:a.H=b.H)(h9:a.X=b.X)(h10:a.Y=b.Y):a=b:=by
 cases a;cases b;simp_all
theorem gi{a b:Int}(h1:1<=a/\a<=128)(h2:1<=b/\b<=128):1<=a*b/\a*b<=16384:=by
 have h3:a*b<=128*128:=Fbk h1.2 h2.2 (by omega) (by omega)
 have h4:0<a*b:=Int.mul_pos (by omega) (by omega)
 omega
def Fm(a b:Int):Int:=if a<b then -1 else if a>b then 1 else 0
end Go.V
