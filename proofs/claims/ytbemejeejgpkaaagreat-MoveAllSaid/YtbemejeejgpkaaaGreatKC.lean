/- The ground on which laws of thronglaw24 are proved: contracts of functions and plain lemmas; no condition beyond the row's own. -/
import Derived.RangeFuncLeaves
import Derived.Orders
import Derived.Test.YtbemejeejgpkaaaGreatKB
set_option linter.unusedSimpArgs false
set_option linter.unusedVariables false
namespace Go.V
def zyt(c:Cfg)(o:Oper)(A:Fr)(K:Fr->Prop):Prop:=putO A c.n o.dst .und K
def zd9(P:Program)(c:Cfg)(ops:Array Oper)(K:Fr->Store->Prop):List Oper->Fr->Store->Prop
  |[],A,st=>K A st
  | o::rest,A,st=>
    match o.guard with
    |none=>zu1 P c o (zd9 P c ops K rest) A st
    | some (j,want)=>optK ((ops[j]?).bind (·.dst)) fun t=>
      match A.t t with
      |.av (.s (.bool b))=>zfd b
          (bif want then zu1 P c o (zd9 P c ops K rest) (A.put t (vy true)) st else zyt c o (A.put t (vy true)) fun A'=>zd9 P c ops K rest A' st)
          (bif want then zyt c o (A.put t (vy false)) fun A'=>zd9 P c ops K rest A' st else zu1 P c o (zd9 P c ops K rest) (A.put t (vy false)) st)
      |.und=>zyt c o A fun A'=>zd9 P c ops K rest A' st
      |_=>False
structure AWp(P:Program)(c:Cfg)(code:Code)(Q:Exit->Fr->Store->Prop)(A:Fr)(st:Store):Prop where
  out:∀Oth M a w,Sim c.N Oth A st M a w->code.wpIn c.F 0 P (fun e a' w'=>∃A' st' M',Q e A' st'/\Sim c.N Oth A' st' M' a' w'/\Chg M w M' w') a w
structure ADraw(P:Program)(c:Cfg)(ops:Array Oper)(K:Fr->Store->Prop)(A:Fr)(st:Store):Prop where
  out:∀id,AWp P c (.region id ops true) (fun e A' st'=>match e with|.normal=>K A' st'|_=>False) A st
def yj4(next:Fr->Store->Prop)(Q:Exit->Fr->Store->Prop):Exit->Fr->Store->Prop
  |.normal=>next
  |e=>Q e
def zhb(id:Nat)(Q:Exit->Fr->Store->Prop):Exit->Fr->Store->Prop
  |.exit id'=>bif Nat.beq id' id then Q .normal else Q (.exit id')
  |e=>Q e
def zz8(Q:Exit->Fr->Store->Prop):Exit->Fr->Store->Prop
  |.goto _=>fun _ _=>False
  |e=>Q e
def vc(P:Program)(c:Cfg):Code->(Exit->Fr->Store->Prop)->Fr->Store->Prop
  |.skip,Q,A,st=>Q .normal A st
  | .region _ ops draw,Q,A,st=>match draw with
    |false=>zd9 P c ops (Q .normal) ops.toList A st
    |true=>ADraw P c ops (Q .normal) A st
  |.seq a b,Q,A,st=>vc P c a (yj4 (vc P c b Q) Q) A st
  | .cond x a b,Q,A,st=>match A.ev x with
    |.av (.s (.bool t))=>zfd t (vc P c a Q A st) (vc P c b Q A st)
    |_=>False
  |.block id b,Q,A,st=>vc P c b (zhb id Q) A st
  |.loop b,Q,A,st=>AWp P c (.loop b) Q A st
  |.exit id,Q,A,st=>Q (.exit id) A st
  |.scope b,Q,A,st=>vc P c b (zz8 Q) A st
  |.label _,Q,A,st=>Q .normal A st
  |.ret,Q,A,st=>Q .ret A st
  |_,_,_,_=>False
section
variable {P:Program} {c:Cfg}
theorem Fr.put_self{A:Fr}{d:Nat}{x:LV}(h:A.t d=x):A.put d x=A:=by
  unfold Fr.put
  congr
  funext i
  by_cases hi:i=d
  · subst hi;simp[h]
  · simp[nbeq hi]
theorem zk5{ops:Array Oper}{tmps:Array Value}{j t:Nat}{b:Bool}(hd:(ops[j]?).bind (·.dst)=some t)(h:tmps.getD t undef=.bool b):yielded ops tmps j=some b:=by
  unfold yielded
  rw[hd]
  simp only[Option.bind_some]
  rw[Array.getD_eq_getD_getElem?]at h
  cases ht:tmps[t]? with
  |none=>rw[ht]at h;simp[undef]at h
  |some v=>rw[ht]at h;simp at h;subst h;rfl
theorem zpb{ops:Array Oper}{tmps:Array Value}{j t:Nat}(hd:(ops[j]?).bind (·.dst)=some t)(h:tmps.getD t undef=undef):yielded ops tmps j=none:=by
  unfold yielded
  rw[hd]
  simp only[Option.bind_some]
  rw[Array.getD_eq_getD_getElem?]at h
  cases ht:tmps[t]? with
  |none=>rfl
  |some v=>rw[ht]at h;simp at h;subst h;rfl
theorem zlo{o:Oper}{a:Act}{w:World}{K K':Act->World->Prop}{Q Q':Exit->Act->World->Prop}(hk:∀a w,K a w->K' a w)(hn:∀e a w,e≠.normal->¬Q e a w)(h:o.wpIn c.F 0 P a w K Q):o.wpIn c.F 0 P a w K' Q':=by
  refine⟨h.1,?_⟩
  have h:=h.2
  generalize(o.semAt c.F.round a.eval).run P w=r at*
  have nq:∀(e:Exit) (a:Act) (w:World) {p:Prop},e≠.normal->Q e a w->p:=fun e a w p hne h=>(hn e a w hne h).elim
  cases r with
  | ok x w'=>
    cases x<;>simp only[Oper.uponIn]at h⊢<;>
      first
        |exact hk _ _ h
        |exact⟨h.1,CallsIn.mono h.2 (fun e w'' he=>by
            cases e with
            |returned v=>exact hk _ _ he
            |panicked ch=>exact nq _ _ _ (by simp) he
            |outgrown=>obtain⟨a2,w2,h2⟩:=he;exact nq _ _ _ (by simp) h2)⟩
        |exact⟨h.1,RowsIn.mono h.2 (fun _ _ he=>hk _ _ he)⟩
        |exact⟨h.1,RoundIn.mono h.2 (fun e w'' he=>by
            cases e with
            |returned v=>exact hk _ _ he
            |panicked ch=>exact nq _ _ _ (by simp) he
            |outgrown=>obtain⟨a2,w2,h2⟩:=he;exact nq _ _ _ (by simp) h2)⟩
        |exact h
  |halt x w'=>cases x<;>simp only[Oper.uponIn]at h⊢<;>first|exact nq _ _ _ (by simp) h|exact h
theorem zhm(hI:zx P c.I)(ops:Array Oper)(K:Fr->Store->Prop):∀(l:List Oper) (A:Fr) (st:Store),zd9 P c ops K l A st->
    ∀Oth M a w,Sim c.N Oth A st M a w->wpListIn c.F 0 P ops (fun e a' w'=>e=.normal/\∃A' st' M',K A' st'/\Sim c.N Oth A' st' M' a' w'/\Chg M w M' w') l a w:=by
  intro l
  induction l with
  |nil=>intro A st h Oth M a w sim;exact⟨rfl,A,st,M,h,sim,Chg.refl M w⟩
  | cons o rest ih=>
    intro A st h Oth M a w sim
    have mono:∀(M':Nat->Nat->Prop) (w':World) (a':Act) (A':Fr) (st':Store),zd9 P c ops K rest A' st'->Sim c.N Oth A' st' M' a' w'->Chg M w M' w'->
        wpListIn c.F 0 P ops (fun e a' w'=>e=.normal/\∃A' st' M',K A' st'/\Sim c.N Oth A' st' M' a' w'/\Chg M w M' w') rest a' w':=by
      intro M' w' a' A' st' h1 h2 h3
      have:=ih A' st' h1 Oth M' a' w' h2
      clear h h1
      -- weaken the post
      have wm:∀(l:List Oper) (a w0) (Q Q':Exit->Act->World->Prop),(∀e a w,Q e a w->Q' e a w)->(∀e a w,e≠.normal->¬Q e a w)->wpListIn c.F 0 P ops Q l a w0->wpListIn c.F 0 P ops Q' l a w0:=by
        intro l
        induction l with
        |nil=>intro a w0 Q Q' hq _ h;exact hq _ _ _ h
        | cons o l ihl=>
          intro a w0 Q Q' hq hn h
          unfold wpListIn at h⊢
          split
          · rename_i hw
            rw[if_pos hw]at h
            exact zlo (fun a w h=>ihl a w Q Q' hq hn h) (fun e a w hne h=>hn e a w hne h) h
          · rename_i hw
            rw[if_neg hw]at h
            exact⟨fun _ _=>Tv,ihl _ _ _ _ hq hn h.2⟩
      refine wm rest a' w' _ _ ?_ ?_ this
      · rintro e a w ⟨he,A',st',M'',h4,h5,h6⟩
        exact⟨he,A',st',M'',h4,h5,h3.trans h6⟩
      · rintro e a w hne ⟨he,_⟩
        exact hne he
    -- an operation that is carried out
    have go:∀A1,zu1 P c o (zd9 P c ops K rest) A1 st->Sim c.N Oth A1 st M a w->Region.wanted o (yielded ops a.tmps)=true->
        wpListIn c.F 0 P ops (fun e a' w'=>e=.normal/\∃A' st' M',K A' st'/\Sim c.N Oth A' st' M' a' w'/\Chg M w M' w') (o::rest) a w:=by
      intro A1 h1 sim1 hw
      unfold wpListIn
      rw[if_pos hw]
      exact zlo (fun a' w' ⟨A',st',M',h3,h4,h5⟩=>mono M' w' a' A' st' h3 h4 h5) (fun _ _ _ _ h=>h) (zxo hI h1 Oth M a w sim1)
    have skip:∀A1,(zyt c o A1 fun A'=>zd9 P c ops K rest A' st)->Sim c.N Oth A1 st M a w->Region.wanted o (yielded ops a.tmps)=false->
        wpListIn c.F 0 P ops (fun e a' w'=>e=.normal/\∃A' st' M',K A' st'/\Sim c.N Oth A' st' M' a' w'/\Chg M w M' w') (o::rest) a w:=by
      intro A1 h1 sim1 hw
      unfold wpListIn
      rw[if_neg (by rw[hw];simp)]
      refine⟨fun _ _=>Tv,?_⟩
      obtain⟨β,sim1⟩:=sim1
      unfold zyt putO at h1
      cases hd:o.dst with
      |none=>rw[hd]at h1;exact mono M w _ A1 st h1 ⟨β,sim1⟩ (Chg.refl _ _)
      | some d=>
        rw[hd]at h1
        obtain⟨hlt,h1⟩:=xp h1
        exact mono M w _ _ st h1 ⟨β,sim1.put hlt (x:=.und) rfl⟩ (Chg.refl _ _)
    unfold zd9 at h
    cases hg:o.guard with
    | none=>
      rw[hg]at h
      exact go A h sim (by simp[Region.wanted,hg])
    | some jw=>
      obtain⟨j,want⟩:=jw
      rw[hg]at h
      obtain⟨t,ht,h⟩:=zf h
      have hwant:∀y,yielded ops a.tmps j=y->Region.wanted o (yielded ops a.tmps)=(y==some want):=fun y hy=>by simp[Region.wanted,hg,hy]
      split at h
      · rename_i b hb
        have htv:a.tmps.getD t undef=.bool b:=by
          obtain⟨β,s⟩:=sim
          have:=s.tm t
          rw[hb]at this
          exact VRel.eq_s this
        have hw:=hwant _ (zk5 ht htv)
        cases b with
        | true=>
          rw[Fr.put_self (A:=A) (x:=vy true) hb]at h
          cases want with
          |true=>exact go A h sim (by rw[hw];rfl)
          |false=>exact skip A h sim (by rw[hw];rfl)
        | false=>
          rw[Fr.put_self (A:=A) (x:=vy false) hb]at h
          cases want with
          |true=>exact skip A h sim (by rw[hw];rfl)
          |false=>exact go A h sim (by rw[hw];rfl)
      · rename_i hb
        have htv:a.tmps.getD t undef=undef:=by
          obtain⟨β,s⟩:=sim
          have:=s.tm t
          rw[hb]at this
          exact this
        exact skip A h sim (by rw[hwant _ (zpb ht htv)];rfl)
      · exact h.elim
end
end Go.V
namespace Go.V
section
variable {P:Program} {c:Cfg}
theorem Code.wpF_mono{F:Fence}{code:Code}{Q Q':Exit->Act->World->Prop}{a:Act}{w:World}(hq:∀e a w,Q e a w->Q' e a w)(h:code.wpIn F 0 P Q a w):code.wpIn F 0 P Q' a w:=wpIn_mono h hq
theorem wv{F:Fence}{n:Nat}{code:Code}{Q:Exit->Act->World->Prop}{a:Act}{w:World}(h:code.wpIn F n P (Exit.noGoto Q) a w):(Code.scope code).wpIn F n P Q a w:=by
  intro b k cs hro hb hr
  have s1:step P (lone (b.atR a (.code (.scope code)::k)) cs w)=.next (lone (b.atR a (.code code::.inScope code::k)) cs w):=step_lone_go (by simp[stepG,stepG.exec,Frame.atR])
  have h0:(lone (b.atR a (.code (.scope code)::k)) cs w).fenced P F:=fenced_calm hb hr rfl
  obtain⟨e,a₁,w₁,hq,harr⟩:=h b (.inScope code::k) cs hro hb hr
  cases e with
  | normal=>
    have s2:step P (lone (b.atR a₁ (.inScope code::k)) cs w₁)=.next (lone (b.atR a₁ k) cs w₁):=step_lone_go (by simp[stepG,stepG.exec,Frame.atR])
    exact⟨.normal,a₁,w₁,hq,.head h0 s1 (StepsIn.trans harr (.one (fenced_calm hb hr rfl) s2))⟩
  | exit id=>
    have hx:exitTo id (.inScope code::k)=exitTo id k:=by simp[exitTo]
    exact⟨.exit id,a₁,w₁,hq,fun k' hk=>.head h0 s1 (harr.1 k' (by rw[hx];exact hk)),fun hr' hk=>let⟨k₁,h1,h2⟩:=harr.2 hr' (by rw[hx];exact hk);⟨k₁,h1,.head h0 s1 h2⟩⟩
  |goto l=>exact hq.elim
  |ret=>exact⟨_,a₁,w₁,hq,.of_steps (.one h0 s1) harr⟩
  |panic ch=>exact⟨_,a₁,w₁,hq,.of_steps (.one h0 s1) harr⟩
  |outgrown=>exact⟨_,a₁,w₁,hq,.of_steps (.one h0 s1) harr⟩
theorem AWp.mono{code:Code}{Q Q':Exit->Fr->Store->Prop}{A:Fr}{st:Store}(h:AWp P c code Q A st)(hq:∀e A st,Q e A st->Q' e A st):AWp P c code Q' A st:=
  ⟨fun Oth M a w sim=>Code.wpF_mono (fun e a' w' ⟨A',st',M',h1,h2,h3⟩=>⟨A',st',M',hq _ _ _ h1,h2,h3⟩) (h.out Oth M a w sim)⟩
theorem zxx{F:Fence}{ops:Array Oper}{id:Nat}{Q:Exit->Act->World->Prop}{R:Act->World->Prop}{a:Act}{w:World}(h:wpListIn F 0 P ops (fun e a' w'=>e=.normal/\R a' w') ops.toList a w)(hq:∀a w,R a w->Q .normal a w):(Code.region id ops false).wpIn F 0 P Q a w:=
  Code.wpF_mono (fun e a' w' ⟨he,hr⟩=>by subst he;exact hq _ _ hr) (wpIn_region_list h)
theorem zlq(hI:zx P c.I):∀(code:Code) (Q:Exit->Fr->Store->Prop) (A:Fr) (st:Store),vc P c code Q A st->AWp P c code Q A st:=by
  intro code
  induction code with
  |skip=>intro Q A st h;exact⟨fun Oth M a w sim=>wpIn_skip ⟨A,st,M,h,sim,Chg.refl _ _⟩⟩
  | region id ops draw=>
    intro Q A st h
    cases draw with
    |false=>exact⟨fun Oth M a w sim=>zxx (zhm hI ops (Q .normal) ops.toList A st h Oth M a w sim) fun _ _ h=>h⟩
    |true=>exact(ADraw.out h id).mono fun e A' st' h'=>by cases e<;>first|exact h'|exact h'.elim
  | seq x y ihx ihy=>
    intro Q A st h
    refine⟨fun Oth M a w sim=>wpIn_seq ?_⟩
    refine Code.wpF_mono ?_ ((ihx _ A st h).out Oth M a w sim)
    rintro e a' w' ⟨A',st',M',h1,h2,h3⟩
    cases e with
    | normal=>
      refine Code.wpF_mono ?_ ((ihy _ A' st' h1).out Oth M' a' w' h2)
      rintro e a'' w'' ⟨A'',st'',M'',h4,h5,h6⟩
      exact⟨A'',st'',M'',h4,h5,h3.trans h6⟩
    |_=>exact⟨A',st',M',h1,h2,h3⟩
  | cond x p q ihp ihq=>
    intro Q A st h
    simp only[vc]at h
    split at h
    · rename_i t ht
      refine⟨fun Oth M a w sim=>?_⟩
      have hv:a.eval x=.bool t:=by
        obtain⟨β,s⟩:=sim
        exact VRel.eq_s (yi s.env ht)
      refine wpIn_cond hv ?_
      cases t with
      |true=>exact(ihp Q A st h).out Oth M a w sim
      |false=>exact(ihq Q A st h).out Oth M a w sim
    · exact h.elim
  | block id b ih=>
    intro Q A st h
    refine⟨fun Oth M a w sim=>wpIn_block ?_⟩
    refine Code.wpF_mono ?_ ((ih _ A st h).out Oth M a w sim)
    rintro e a' w' ⟨A',st',M',h1,h2,h3⟩
    cases e with
    | exit id'=>
      simp only[zhb]at h1
      simp only[Exit.inBlock]
      by_cases he:id'=id
      · subst he
        simp only[Nat.beq_refl,cond_true]at h1
        rw[if_pos rfl]
        exact⟨A',st',M',h1,h2,h3⟩
      · simp only[nbeq he,cond_false]at h1
        rw[if_neg he]
        exact⟨A',st',M',h1,h2,h3⟩
    |_=>exact⟨A',st',M',h1,h2,h3⟩
  |loop b ih=>intro Q A st h;exact h
  |rangeFunc f ps x y ihx ihy=>intro Q A st h;exact h.elim
  |exit id=>intro Q A st h;exact⟨fun Oth M a w sim=>wpIn_exit ⟨A,st,M,h,sim,Chg.refl _ _⟩⟩
  | scope b ih=>
    intro Q A st h
    refine⟨fun Oth M a w sim=>wv ?_⟩
    refine Code.wpF_mono ?_ ((ih _ A st h).out Oth M a w sim)
    rintro e a' w' ⟨A',st',M',h1,h2,h3⟩
    cases e with
    |goto l=>exact h1.elim
    |_=>exact⟨A',st',M',h1,h2,h3⟩
  |label l=>intro Q A st h;exact⟨fun Oth M a w sim=>wpIn_label ⟨A,st,M,h,sim,Chg.refl _ _⟩⟩
  |goto l=>intro Q A st h;exact h.elim
  |ret=>intro Q A st h;exact⟨fun Oth M a w sim=>wpIn_ret ⟨A,st,M,h,sim,Chg.refl _ _⟩⟩
  |refuse s=>intro Q A st h;exact h.elim
def resK(c:Cfg)(A:Fr)(st:Store):List ResultVar->(List AV->Prop)->Prop
  |[],K=>K []
  | .tmp t::rest,K=>match A.t t with
    |.av x=>resK c A st rest fun l=>K (x::l)
    |_=>False
  |.cell p t::rest,K=>optK (c.I t) fun i=>zfb A.bx st (A.t p) fun l=>optK (zb1 i l) fun x=>resK c A st rest fun l=>K (x::l)
def ytq:List AV->AV
  |[x]=>x
  |l=>.tup l
def retK(c:Cfg)(rs:List ResultVar)(R:AV->Store->Prop)(A:Fr)(st:Store):Prop:=
  resK c A st rs fun l=>∃r st',AV.le (ytq l) r/\st.Has st'/\R r st'
def retQ(c:Cfg)(rs:List ResultVar)(R:AV->Store->Prop):Exit->Fr->Store->Prop
  |.normal=>retK c rs R
  |.ret=>retK c rs R
  |_=>fun _ _=>False
def argT(args:List AV)(i:Nat):LV:=
  match args,i with
  |[],_=>.und
  |x::_,0=>.av x
  |_::l,i+1=>argT l i
def kr(args:List AV):Fr:=⟨argT args,fun _=>none⟩
theorem zm6(args:List AV)(i:Nat):argT args i=match args[i]? with|some x=>.av x|none=>.und:=by
  induction args generalizing i with
  |nil=>simp[argT]
  | cons x l ih=>
    cases i with
    |zero=>simp[argT]
    |succ i=>simp[argT,ih]
theorem zkq(hI:zx P c.I){w:World}{T:Nat->Nat->Prop}{β:Nat->Nat}{A:Fr}{st:Store}{a:Act}(he:Env w T β A.ev A.bx st a.eval):∀(rs:List ResultVar) (K:List AV->Prop),resK c A st rs K->
    ∃l vs,K l/\(rs.mapM (m:=Sem) fun|.tmp t=>pure (a.tmps.getD t undef)|.cell p t=>do loadVar t (<-asAddr (a.tmps.getD p undef))).run P w=.ok vs w/\Reads w T l vs:=by
  intro rs
  induction rs with
  |nil=>intro K h;exact⟨[],[],h,by simp,Reads.nil⟩
  | cons r rs ih=>
    intro K h
    cases r with
    | tmp t=>
      simp only[resK]at h
      split at h
      · rename_i x hx
        obtain⟨l,vs,h1,h2,h3⟩:=ih _ h
        refine⟨x::l,a.tmps.getD t undef::vs,h1,by simp only[List.mapM_cons,Sem.run_bind,Sem.run_pure,Result.andThen_ok,h2],Reads.cons ?_ h3⟩
        have:=he.ev (.tmp t)
        simp only[Fr.ev,hx]at this
        exact this
      · exact h.elim
    | cell p t=>
      simp only[resK]at h
      obtain⟨i,hi,h⟩:=zf h
      obtain⟨cl,hcl,_,hs⟩:=zfa (ev:=A.ev) h
      obtain⟨x,hx,hcl⟩:=zf hcl
      obtain⟨b,off,hv,hav⟩:=hs w T β a.eval he _ (he.ev (.tmp p))
      obtain⟨v,hr,hvr⟩:=zev (P:=P) (hI _ _ hi) hav hx
      obtain⟨l,vs,h1,h2,h3⟩:=ih _ hcl
      have hv':a.tmps.getD p undef=.pointer (some ⟨b,off,none⟩):=hv
      refine⟨x::l,v::vs,h1,?_,Reads.cons hvr h3⟩
      have ha:(asAddr (a.tmps.getD p undef)).run P w=.ok ⟨b,off,none⟩ w:=by rw[hv'];rfl
      simp only[List.mapM_cons,Sem.run_bind,ha,Sem.run_pure,Result.andThen_ok,hr,h2]
theorem zzf{w:World}{T:Nat->Nat->Prop}{l:List AV}{vs:List Value}(h:Reads w T l vs):VRel w T (ytq l) (if h:vs.toArray.size=1 then vs.toArray[0]else .tuple vs.toArray):=by
  obtain⟨hl,hr⟩:=h
  match l,vs,hl with
  |[x],[v],_=>exact hr 0 x v rfl rfl
  |[],[],_=>exact z6 ⟨rfl,hr⟩
  | x::y::l,u::v::vs,hl=>
    have:¬(u::v::vs).toArray.size=1:=by simp
    rw[dif_neg this]
    exact z6 ⟨by simpa using hl,by simpa using hr⟩
def putH(w:World)(b:Nat)(o:Obj):World:={w with heap:=w.heap.setIfInBounds b o}
theorem zoj{w:World}{b:Nat}{o:Obj}(h:b<w.heap.size):(putH w b o).heap[b]?=some o:=by simp[putH,h]
theorem zrb{w:World}{b k:Nat}{o:Obj}(h:k≠b):(putH w b o).heap[k]?=w.heap[k]?:=by
  simp[putH,Array.getElem?_setIfInBounds_ne (Ne.symm h)]
theorem zzu{w:World}{b:Nat}{o:Obj}:(putH w b o).heap.size=w.heap.size:=by simp[putH]
theorem yl4{w:World}{b:Nat}(h:w.heap[b]?=some (.deferred (some []))):(Instr.takeDeferred b).run P w=.ok [] (putH w b (.deferred none)):=by
  simp[Instr.takeDeferred,getObj,setObj,Sem.run_bind,Sem.run,h,Result.andThen,putH]
structure Shut(Oth M:Nat->Nat->Prop)(w w':World):Prop where
  size:w'.heap.size=w.heap.size
  blk:∀b,w'.heap[b]?=w.heap[b]?\/(w.heap[b]?=some (.deferred (some []))/\w'.heap[b]?=some (.deferred none)/\∀o,¬M b o/\¬Oth b o)
  tape:w'.tape=w.tape
  os:w'.os=w.os
  output:w'.output=w.output
theorem Shut.keeps{Oth M:Nat->Nat->Prop}{w w':World}(h:Shut Oth M w w')(T:Nat->Nat->Prop):Keeps w T w' T where
  cell b o c hc _:=by
    rcases h.blk b with e|⟨e,_,_⟩
    · rw[qd e];exact hc
    · simp[World.cell?,e]at hc
  out _ _ _ _ hT:=hT
  shp b c e fr hw:=by
    rcases h.blk b with e'|⟨e',_,_⟩
    · exact⟨c,fr,by rw[e'];exact hw,rfl⟩
    · rw[e']at hw;cases hw
theorem Shut.sto{Oth M:Nat->Nat->Prop}{w w':World}{st:Store}(h:Shut Oth M w w')(s:StoreOK st Oth M w):StoreOK st Oth M w' where
  obj b x hx:=by
    have h1:=s.obj b x hx
    refine⟨ObjRel.same h1.1 (h.keeps _) ?_,h1.2⟩
    rcases h.blk b with e|⟨_,_,e⟩
    · exact e
    · exact absurd (h1.2 0) (e 0).1
  tok b top ht:=by
    obtain⟨c,e,fr,h1,h2,h3,h4⟩:=s.tok b top ht
    refine⟨c,e,fr,?_,h2,h3,h4⟩
    rcases h.blk b with e'|⟨e',_,_⟩
    · rw[e'];exact h1
    · rw[e']at h1;cases h1
  mlt b o hm:=by rw[h.size];exact s.mlt b o hm
  olt b o hm:=by rw[h.size];exact s.olt b o hm
  dis:=s.dis
theorem zoz{Oth M:Nat->Nat->Prop}{fn:Func}{tmps:Array Value}{R:Ending->World->Prop}:∀(ds:List Deferred) (w:World),Marks Oth M w ds->
    (∀w',Shut Oth M w w'->∃v,(results fn tmps).run P w'=.ok v w'/\R (.returned v) w')->LeavesInM Fence.wide 0 P fn tmps R ds .returning w:=by
  intro ds
  induction ds with
  |nil=>intro w _ h;exact h w ⟨rfl,fun _=>.inl rfl,rfl,rfl,rfl⟩
  | cons d ds ih=>
    intro w hm h
    obtain⟨D,rfl,h1,h2⟩:=hm.all d (List.mem_cons_self)
    have hnd:=List.pairwise_cons.1 hm.nd
    have hne:∀d'∈ds,∀D',d'={target:=.collected D',args:=#[]}->D'≠D:=fun d' hd' D' e e2=>hnd.1 d' hd' (by rw[e,e2])
    refine⟨by simp,.inl ⟨D,putH w D (.deferred none),rfl,yl4 h1,ih _ ⟨hnd.2,fun d' hd'=>?_⟩ fun w' hs=>h w' ?_⟩⟩
    · obtain⟨D',e,h3,h4⟩:=hm.all d' (List.mem_cons_of_mem _ hd')
      exact⟨D',e,(zrb (hne d' hd' D' e)).trans h3,h4⟩
    · refine⟨hs.size.trans zzu,fun b=>?_,hs.tape,hs.os,hs.output⟩
      by_cases hb:b=D
      · subst hb
        refine .inr ⟨h1,?_,h2⟩
        rcases hs.blk b with e|⟨e,_,_⟩
        · rw[e];exact zoj (zz h1)
        · rw[zoj (zz h1)]at e;cases e
      · rcases hs.blk b with e|⟨e,e2,e3⟩
        · exact .inl (e.trans (zrb hb))
        · exact .inr ⟨(zrb hb).symm.trans e,e2,e3⟩
def othX(Oth M:Nat->Nat->Prop)(w:World):Nat->Nat->Prop:=fun b o=>Oth b o\/(b<w.heap.size/\¬M b o/\∀c e fr,w.heap[b]?=some (.cells c e fr)->c.size<=o)
theorem zkt{Oth M:Nat->Nat->Prop}(w:World):Keeps w (fun b o=>M b o\/Oth b o) w (fun b o=>M b o\/othX Oth M w b o) where
  cell _ _ _ h _:=h
  out b o v hc hT:=by
    rintro(h|h|⟨_,_,h⟩)
    · exact hT (.inl h)
    · exact hT (.inr h)
    · unfold World.cell? at hc
      cases hb:w.heap[b]? with
      |none=>simp[hb]at hc
      | some x=>
        cases x with
        | cells c e fr=>
          have h1:=h c e fr hb
          simp[hb]at hc
          have:=(Array.getElem?_eq_some_iff.1 hc).1
          omega
        |_=>simp[hb]at hc
  shp b c e fr h:=⟨c,fr,h,rfl⟩
theorem ymh{Oth M:Nat->Nat->Prop}{w:World}{st:Store}(s:StoreOK st Oth M w):StoreOK st (othX Oth M w) M w where
  obj b x hx:=⟨ObjRel.same (s.obj b x hx).1 (zkt w) rfl,(s.obj b x hx).2⟩
  tok:=s.tok
  mlt:=s.mlt
  olt b o h:=h.elim (s.olt b o) fun h=>h.1
  dis b o h:=h.elim (s.dis b o) fun h=>h.2.1
theorem zz0{Oth M:Nat->Nat->Prop}{w:World}{st:Store}{R:AV->Store->Prop}{r:AV}{v:Value}{st':Store}{M':Nat->Nat->Prop}{w' w'':World}(s:StoreOK st Oth M w)(hR:R r st')(hr:VRel w'' (fun b o=>M' b o\/othX Oth M w b o) r v)
    (sto:StoreOK st' (othX Oth M w) M' w') (hc:Chg M w M' w') (hs:Shut (othX Oth M w) M' w' w''):zu st R Oth M w v w'':=by
  have hT:∀b o,(M' b o\/Oth b o)->(M' b o\/othX Oth M w b o):=fun b o h=>h.imp id .inl
  have sto':=hs.sto sto
  refine⟨r,st',M',hR,hr.mono hT,⟨fun b x hx=>⟨(sto'.obj b x hx).1.mono hT,(sto'.obj b x hx).2⟩,sto'.tok,sto'.mlt,fun b o h=>sto'.olt b o (.inl h),fun b o h=>sto'.dis b o (.inl h)⟩,?_⟩
  refine{size:=by rw[hs.size];exact hc.size,keep:=fun b o hb hm=>?_,blk:=fun b hb hm=>?_,shp:=fun b c e fr hw=>?_,sub:=hc.sub,tape:=hs.tape.trans hc.tape,os:=hs.os.trans hc.os,output:=hs.output.trans hc.output}
  · rw[<-hc.keep b o hb hm]
    rcases hs.blk b with e|⟨e,e2,_⟩
    · exact qd e o
    · simp[World.cell?,e,e2]
  · rcases hs.blk b with e|⟨_,_,e⟩
    · exact e.trans (hc.blk b hb hm)
    · exfalso
      cases hx:w.heap[b]? with
      | none=>
        rw[Array.getElem?_eq_none_iff]at hx
        omega
      | some x=>
        cases x with
        |cells c e1 fr=>exact(e c.size).2 (.inr ⟨hb,hm _,fun c' e' fr' h=>by rw[hx]at h;cases h;exact Nat.le_refl _⟩)
        |_=>exact(e 0).2 (.inr ⟨hb,hm _,fun c' e' fr' h=>by rw[hx]at h;cases h⟩)
  · obtain⟨c',fr',h1,h2⟩:=hc.shp b c e fr hw
    refine⟨c',fr',?_,h2⟩
    rcases hs.blk b with e'|⟨e',_,_⟩
    · rw[e'];exact h1
    · rw[e']at h1;cases h1
theorem ACalls.of_awp (hI : zx P c.I) {g : FuncId} {fn : Func} {code : Code} {args : List AV} {st : Store} {R : AV -> Store -> Prop} (hf : P.funcs[g]? = some fn) (hb : fn.body = some code) (hname : (fn.name == "runtime.NumGoroutine") = false)
    (hn:fn.ntmps=c.n) (hlen:Nat.ble args.length c.n=true) (h:AWp P c code (retQ c fn.results.toList R) (kr args) st) (hround:c.round=none:=by rfl) (hD:c.D0=[]:=by rfl):ACalls P g args st R:=by
  refine⟨fun Oth M w vs sto hr=>?_⟩
  have hrun:(callFunc g vs).run P w=.ok (.enter g vs) w:=by
    have hne : ¬ fn.name = "runtime.NumGoroutine" := by simpa using hname
    simp[callFunc,run_program,hf,hne,hb]
  rw[hrun]
  simp only[zff]
  have hF:c.F=Fence.wide:=by unfold Cfg.F;rw[hround];rfl
  refine(callsIn_wide (n:=0)).1 (callsIn_of_wp_marks hf hb trivial ?_)
  have hle:args.length<=c.n:=Nat.le_of_ble_eq_true hlen
  have hsz:vs.size=args.length:=by simpa using hr.1.symm
  let a:Act:={tmps:=vs++Array.replicate (fn.ntmps-vs.size) undef,defers:=[]}
  have sim:SimB c.N (othX Oth M w) (fun _=>0) (kr args) st M a w:=
    { tsz:=by show Array.size _=c.n;simp[a,hn];omega
      dfr:=MarksD.nil hD
      tm:=fun i=>by
        simp only[kr,zm6,a]
        rw[Array.getD_eq_getD_getElem?]
        by_cases hi:i<vs.size
        · rw[Array.getElem?_append_left hi,Array.getElem?_eq_getElem hi,List.getElem?_eq_getElem (by omega)]
          exact(hr.2 i _ _ (List.getElem?_eq_getElem (by omega)) (by simp[hi])).keep (zkt w)
        · rw[List.getElem?_eq_none (by omega)]
          simp only[LRel]
          rw[Array.getElem?_append_right (by omega)]
          simp only[Array.getElem?_replicate]
          split<;>rfl
      bx:=fun k l hk=>by simp[kr]at hk
      inj:=fun k k' hk=>by simp[kr]at hk
      sep:=fun k b hk=>by simp[kr]at hk
      sto:=ymh sto}
  have h2:=h.out (othX Oth M w) M a w ⟨_,sim⟩
  rw[hF]at h2
  refine Code.wpF_mono ?_ h2
  have fin:∀a' w' A' st' M',retK c fn.results.toList R A' st'->Sim c.N (othX Oth M w) A' st' M' a' w'->Chg M w M' w'->
      LeavesInM Fence.wide 0 P fn a'.tmps (fun e w'=>∃v,e=.returned v/\zu st R Oth M w v w') a'.defers .returning w':=by
    rintro a' w' A' st' M' hret ⟨β,s⟩ hchg
    refine zoz a'.defers w' (s.dfr.out hD) fun w'' hs=>?_
    have hblk:∀b o,M' b o->w''.heap[b]?=w'.heap[b]?:=fun b o hm=>by
      rcases hs.blk b with e|⟨_,_,e⟩
      · exact e
      · exact absurd hm (e o).1
    have he:Env w'' (fun b o=>M' b o\/othX Oth M w b o) β A'.ev A'.bx st' a'.eval:=
      ⟨fun x=>(s.ev x).keep (hs.keeps _),fun k l hk=>(s.bx k l hk).1.same (hs.keeps _) (hblk _ 0 ((s.bx k l hk).2 0)),fun b x hx=>((hs.sto s.sto).obj b x hx).1⟩
    obtain⟨l,vs,⟨r,st'',h1,h2,h3⟩,h4,h5⟩:=zkq hI he _ _ hret
    refine⟨_,?_,_,rfl,zz0 sto h3 (h1 _ _ _ (zzf h5)) (s.sto.weaken h2) hchg hs⟩
    unfold results
    rw[Sem.run_bind,Array.mapM_eq_mapM_toList,Sem.run_map]
    exact congrArg (fun r=>(Result.andThen (Result.andThen r fun l w=>.ok l.toArray w) fun(vs:Array Value) w'=>.ok (if h:vs.size=1 then vs[0]else .tuple vs) w')) h4
  rintro e a' w' ⟨A',st',M',h1,h2,h3⟩
  cases e with
  |normal=>exact fin a' w' A' st' M' h1 h2 h3
  |ret=>exact fin a' w' A' st' M' h1 h2 h3
  |_=>exact h1.elim
theorem Qb (hI : zx P c.I) {g : FuncId} {fn : Func} {code : Code} {args : List AV} {st : Store} {R : AV -> Store -> Prop} (hf : P.funcs[g]? = some fn) (h : AWp P c code (retQ c fn.results.toList R) (kr args) st) (hb : fn.body = some code := by rfl) (hname : (fn.name == "runtime.NumGoroutine") = false := by rfl) (hn : fn.ntmps = c.n := by rfl) (hlen : Nat.ble args.length c.n = true := by rfl) (hround : c.round = none := by rfl) (hD : c.D0 = [] := by rfl): ACalls P g args st R := ACalls.of_awp hI hf hb hname hn hlen h hround hD
theorem ACalls.of_body (hI : zx P c.I) {g : FuncId} {fn : Func} {code : Code} {args : List AV} {st : Store} {R : AV -> Store -> Prop} (hf : P.funcs[g]? = some fn) (hb : fn.body = some code) (hname : (fn.name == "runtime.NumGoroutine") = false)
    (hn:fn.ntmps=c.n) (hlen:Nat.ble args.length c.n=true) (h:vc P c code (retQ c fn.results.toList R) (kr args) st) (hround:c.round=none:=by rfl) (hD:c.D0=[]:=by rfl):ACalls P g args st R:=
  ACalls.of_awp hI hf hb hname hn hlen (zlq hI code _ _ st h) hround hD
theorem Qa (hI : zx P c.I) {g : FuncId} {fn : Func} {code : Code} {args : List AV} {st : Store} {R : AV -> Store -> Prop} (hf : P.funcs[g]? = some fn) (h : vc P c code (retQ c fn.results.toList R) (kr args) st) (hb : fn.body = some code := by rfl) (hname : (fn.name == "runtime.NumGoroutine") = false := by rfl) (hn : fn.ntmps = c.n := by rfl) (hlen : Nat.ble args.length c.n = true := by rfl) (hround : c.round = none := by rfl) (hD : c.D0 = [] := by rfl): ACalls P g args st R := ACalls.of_body hI hf hb hname hn hlen h hround hD
def zio(l:List (Nat×LV))(i:Nat):LV:=
  match l with
  |[]=>.any
  |(j,x)::l=>bif Nat.beq i j then x else zio l i
def ziq(l:List (Nat×List AV))(i:Nat):Option (List AV):=
  match l with
  |[]=>none
  |(j,x)::l=>bif Nat.beq i j then some x else ziq l i
def mkFr(l:List (Nat×LV))(b:List (Nat×List AV)):Fr:=⟨zio l,ziq b⟩
def zw1(A:Fr):List (Nat×LV)->Prop
  |[]=>True
  |(j,x)::l=>LV.le (A.t j) x/\zw1 A l
def zw2(A:Fr):List (Nat×List AV)->Prop
  |[]=>True
  |(j,x)::l=>A.bx j=some x/\zw2 A l
theorem ym6{A:Fr}:∀{l:List (Nat×LV)},zw1 A l->∀i,LV.le (A.t i) (zio l i):=by
  intro l
  induction l with
  |nil=>intro _ i;exact LV.le_any _
  | cons p l ih=>
    obtain⟨j,x⟩:=p
    intro h i
    simp only[zio]
    by_cases hi:i=j
    · subst hi;simp only[Nat.beq_refl,cond_true];exact h.1
    · simp only[nbeq hi,cond_false];exact ih h.2 i
theorem ym7{A:Fr}:∀{l:List (Nat×List AV)},zw2 A l->∀i x,ziq l i=some x->A.bx i=some x:=by
  intro l
  induction l with
  |nil=>intro _ i x h;simp[ziq]at h
  | cons p l ih=>
    obtain⟨j,y⟩:=p
    intro h i x hx
    simp only[ziq]at hx
    by_cases hi:i=j
    · subst hi;simp only[Nat.beq_refl,cond_true]at hx;rw[<-hx];exact h.1
    · simp only[nbeq hi,cond_false]at hx;exact ih h.2 i x hx
theorem Sim.fits{n:SN}{Oth M:Nat->Nat->Prop}{A:Fr}{st st':Store}{a:Act}{w:World}(h:Sim n Oth A st M a w){l:List (Nat×LV)}{b:List (Nat×List AV)}(ht:zw1 A l)(hb:zw2 A b)(hs:st.Has st'):Sim n Oth (mkFr l b) st' M a w:=by
  obtain⟨β,s⟩:=h
  have hbx:∀k x,ziq b k=some x->A.bx k=some x:=ym7 hb
  have hne:∀k,ziq b k≠none->A.bx k≠none:=fun k hk=>by
    cases hl:ziq b k with
    |none=>exact absurd hl hk
    |some x=>rw[hbx k x hl];simp
  exact⟨β,
    { tsz:=s.tsz
      dfr:=s.dfr
      tm:=fun i=>ym6 ht i _ _ _ _ (s.tm i)
      bx:=fun k x hk=>s.bx k x (hbx k x hk)
      inj:=fun k k' h1 h2=>s.inj k k' (hne k h1) (hne k' h2)
      sep:=fun k b hk hb=>s.sep k b (hne k hk) (by
        rcases hb with hb|hb
        · cases ho:st'.obj b with
          |none=>exact absurd ho hb
          |some x=>exact .inl (by rw[hs.obj b x ho];simp)
        · cases ho:st'.tok b with
          |none=>exact absurd ho hb
          |some x=>exact .inr (by rw[hs.tok b x ho];simp))
      sto:=s.sto.weaken hs}⟩
theorem AWp.weaken{code:Code}{Q:Exit->Fr->Store->Prop}{A:Fr}{st st':Store}{l:List (Nat×LV)}{b:List (Nat×List AV)}(h:AWp P c code Q (mkFr l b) st')(ht:zw1 A l)(hb:zw2 A b)(hs:st.Has st'):AWp P c code Q A st:=
  ⟨fun Oth M a w sim=>h.out Oth M a w (sim.fits ht hb hs)⟩
structure LoopHead(σ:Type) where
  t:σ->List (Nat×LV)
  bx:σ->List (Nat×List AV)
  inv:σ->Store->Prop
  μ:σ->Nat
def LoopHead.at{σ:Type}(H:LoopHead σ)(A:Fr)(st:Store)(p:σ->Prop):Prop:=
  ∃s,p s/\H.inv s st/\zw1 A (H.t s)/\zw2 A (H.bx s)
def yn3{σ:Type}(H:LoopHead σ)(s:σ)(Q:Exit->Fr->Store->Prop):Exit->Fr->Store->Prop
  |.normal=>fun A st=>H.at A st fun s'=>H.μ s'<H.μ s
  |e=>Q e
theorem AWp.loop{σ:Type}(H:LoopHead σ){b:Code}{Q:Exit->Fr->Store->Prop}{A:Fr}{st:Store}(hI:zx P c.I)(h0:H.at A st fun _=>True)
    (round:∀s st,H.inv s st->vc P c b (yn3 H s Q) (mkFr (H.t s) (H.bx s)) st):AWp P c (.loop b) Q A st:=by
  obtain⟨s0,_,hi0,ht0,hb0⟩:=h0
  refine⟨fun Oth M a w sim=>?_⟩
  refine wpIn_loop_ghost (fun n a' w'=>∃s st' M',H.μ s=n/\H.inv s st'/\Sim c.N Oth (mkFr (H.t s) (H.bx s)) st' M' a' w'/\Chg M w M' w') (H.μ s0)
    ⟨s0,st,M,rfl,hi0,sim.fits ht0 hb0 (Store.Has.refl st),Chg.refl M w⟩ ?_
  rintro n a' w' ⟨s,st',M',rfl,hi,hsim,hchg⟩
  refine Code.wpF_mono ?_ ((zlq hI b _ _ st' (round s st' hi)).out Oth M' a' w' hsim)
  rintro e a'' w'' ⟨A'',st'',M'',h1,h2,h3⟩
  cases e with
  | normal=>
    obtain⟨s',hlt,hi',ht',hb'⟩:=h1
    exact⟨H.μ s',hlt,s',st'',M'',rfl,hi',h2.fits ht' hb' (Store.Has.refl st''),hchg.trans h3⟩
  |_=>exact⟨A'',st'',M'',h1,h2,hchg.trans h3⟩
end
end Go.V
namespace Go.V
section
variable {P:Program} {c:Cfg}
theorem AWp.of_vc(hI:zx P c.I){code:Code}{Q:Exit->Fr->Store->Prop}{A:Fr}{st:Store}(h:vc P c code Q A st):AWp P c code Q A st:=zlq hI code Q A st h
theorem AWp.seq{x y:Code}{Q:Exit->Fr->Store->Prop}{A:Fr}{st:Store}(h:AWp P c x (yj4 (AWp P c y Q) Q) A st):AWp P c (.seq x y) Q A st:=by
  refine⟨fun Oth M a w sim=>wpIn_seq ?_⟩
  refine Code.wpF_mono ?_ (h.out Oth M a w sim)
  rintro e a' w' ⟨A',st',M',h1,h2,h3⟩
  cases e with
  | normal=>
    refine Code.wpF_mono ?_ ((AWp.out h1) Oth M' a' w' h2)
    rintro e a'' w'' ⟨A'',st'',M'',h4,h5,h6⟩
    exact⟨A'',st'',M'',h4,h5,h3.trans h6⟩
  |_=>exact⟨A',st',M',h1,h2,h3⟩
theorem AWp.block{id:Nat}{b:Code}{Q:Exit->Fr->Store->Prop}{A:Fr}{st:Store}(h:AWp P c b (zhb id Q) A st):AWp P c (.block id b) Q A st:=by
  refine⟨fun Oth M a w sim=>wpIn_block ?_⟩
  refine Code.wpF_mono ?_ (h.out Oth M a w sim)
  rintro e a' w' ⟨A',st',M',h1,h2,h3⟩
  cases e with
  | exit id'=>
    simp only[zhb]at h1
    simp only[Exit.inBlock]
    by_cases he:id'=id
    · subst he
      simp only[Nat.beq_refl,cond_true]at h1
      rw[if_pos rfl]
      exact⟨A',st',M',h1,h2,h3⟩
    · simp only[nbeq he,cond_false]at h1
      rw[if_neg he]
      exact⟨A',st',M',h1,h2,h3⟩
  |_=>exact⟨A',st',M',h1,h2,h3⟩
theorem AWp.scope{b:Code}{Q:Exit->Fr->Store->Prop}{A:Fr}{st:Store}(h:AWp P c b (zz8 Q) A st):AWp P c (.scope b) Q A st:=by
  refine⟨fun Oth M a w sim=>wv ?_⟩
  refine Code.wpF_mono ?_ (h.out Oth M a w sim)
  rintro e a' w' ⟨A',st',M',h1,h2,h3⟩
  cases e with
  |goto l=>exact h1.elim
  |_=>exact⟨A',st',M',h1,h2,h3⟩
structure Meet(σ:Type) where
  t:σ->List (Nat×LV)
  bx:σ->List (Nat×List AV)
  inv:σ->Store->Prop
def Meet.at{σ:Type}(H:Meet σ)(A:Fr)(st:Store):Prop:=∃s,H.inv s st/\zw1 A (H.t s)/\zw2 A (H.bx s)
theorem AWp.meet{σ:Type}(H:Meet σ)(hI:zx P c.I){x y:Code}{Q:Exit->Fr->Store->Prop}{A:Fr}{st:Store}(hx:vc P c x (yj4 H.at Q) A st)
    (hy:∀s st',H.inv s st'->AWp P c y Q (mkFr (H.t s) (H.bx s)) st'):AWp P c (.seq x y) Q A st:=by
  refine AWp.seq ((AWp.of_vc hI hx).mono fun e A' st' h=>?_)
  cases e with
  | normal=>
    obtain⟨s,h1,h2,h3⟩:=h
    exact AWp.weaken (hy s st' h1) h2 h3 (Store.Has.refl st')
  |_=>exact h
end
end Go.V
namespace Go.V
def ybw(P:Program)(t:TypeId):Bool:=
  !P.stoodInHeld t && !P.eqGuardType P.depth t && (match P.underlying t with | some (.struct fs) => fs.toList.all fun f => f.name != "_" | _ => true)
def zqk(z:Value)(d:Ty):Bool:=match z with|.agg _=>ko d|_=> !ko d
def infoOf(P:Program)(t:TypeId)(eq:Bool):Option TI:=
  match P.info? t,P.underlying t with
  | some inf,some d=>match inf.zero with
    |some z=>bif Nat.beq z.cells.toList.length inf.size&&(!eq||ybw P t)&&zqk z (tyOf d)then some {ty:=tyOf d,size:=inf.size,bytes:=inf.bytes,zero:=z.cells.toList,eq:=eq}else none
    |none=>none
  |_,_=>none
theorem ya0{P:Program}{t:TypeId}{eq:Bool}{i:TI}(h:infoOf P t eq=some i):TIok P t i:=by
  unfold infoOf at h
  split at h
  · rename_i inf d hinf hd
    split at h
    · rename_i z hz
      cases hb:(Nat.beq z.cells.toList.length inf.size&&(!eq||ybw P t)&&zqk z (tyOf d))with
      |false=>rw[hb]at h;cases h
      | true=>
        rw[hb]at h
        simp only[cond_true,Option.some.injEq]at h
        subst h
        simp only[Bool.and_eq_true]at hb
        obtain⟨⟨h2,h3⟩,h4⟩:=hb
        refine⟨⟨inf,hinf,rfl,rfl,z,hz,rfl⟩,⟨d,hd,rfl⟩,(yx _ _).1 h2,fun inf' z' hi' hz'=>?_,fun he=>?_⟩
        · rw[hinf]at hi'
          cases hi'
          rw[hz]at hz'
          cases hz'
          cases z with
          |agg cs=>exact .inl ⟨h4,cs,rfl⟩
          |_=>exact .inr ⟨by simpa [zqk]using h4,rfl⟩
        simp only at he
        subst he
        simp only[Bool.not_true,Bool.false_or,ybw,Bool.and_eq_true,Bool.not_eq_true']at h3
        obtain⟨⟨h4,h5⟩,h6⟩:=h3
        refine⟨h4,h5,fun fs hfs f hf=>?_⟩
        rw[hfs]at h6
        simp only[List.all_eq_true,bne_iff_ne,ne_eq]at h6
        exact h6 f hf
    · cases h
  · cases h
inductive Tr where
  |nil
  |node (k:Nat) (l:Tr) (x:TI) (r:Tr)
def Tr.get:Tr->Nat->Option TI
  |.nil,_=>none
  |.node k l x r,t=>bif Nat.beq t k then some x else bif Nat.blt t k then l.get t else r.get t
def Tr.all(P:Program):Tr->Prop
  |.nil=>True
  |.node k l x r=>infoOf P k x.eq=some x/\l.all P/\r.all P
theorem Tr.ok{P:Program}:∀(tr:Tr),tr.all P->zx P tr.get:=by
  intro tr
  induction tr with
  |nil=>intro _ t i h;cases h
  | node k l x r ihl ihr=>
    rintro⟨h1,h2,h3⟩ t i h
    simp only[Tr.get]at h
    by_cases ht:t=k
    · subst ht
      simp only[Nat.beq_refl,cond_true,Option.some.injEq]at h
      subst h
      exact ya0 h1
    · simp only[nbeq ht,cond_false]at h
      cases hb:Nat.blt t k with
      |true=>rw[hb]at h;exact ihl h2 t i h
      |false=>rw[hb]at h;exact ihr h3 t i h
inductive Tr2 where
  |nil
  |node (l:Tr2) (x:Option TI) (r:Tr2)
def Tr.look(P:Program):Tr->Tr2
  |.nil=>.nil
  |.node k l x r=>.node (l.look P) (infoOf P k x.eq) (r.look P)
def Tr.vals:Tr->Tr2
  |.nil=>.nil
  |.node _ l x r=>.node l.vals (some x) r.vals
theorem Tr.of_look{P:Program}:∀(t:Tr),t.look P=t.vals->t.all P
  |.nil,_=>True.intro
  | .node k l x r,h=>by
    simp only[Tr.look,Tr.vals,Tr2.node.injEq]at h
    exact⟨h.2.1,Tr.of_look l h.1,Tr.of_look r h.2.2⟩
end Go.V
namespace Go.V
def App(k:Nat)(st:Store)(v:AV)(rows:List (List AV))(st':Store):Prop:=
  (v=.s (.slice none 0 0)/\rows=[]/\st'=st)\/Owned k st v rows st'
theorem App.start(k:Nat)(st:Store):App k st (.s (.slice none 0 0)) [] st:=.inl ⟨rfl,rfl,rfl⟩
theorem zq2{st:Store}{b:Nat}{x:Option Nat}(h:st.tok b=none):(st.setTok b x).setTok b none=st:=by
  unfold Store.setTok
  congr
  funext i
  by_cases hi:i=b
  · subst hi;simp[h]
  · simp[nbeq hi]
theorem App.has{k:Nat}{st st':Store}{v:AV}{rows:List (List AV)}(h:App k st v rows st'):st'.Has st:=by
  rcases h with⟨_,_,rfl⟩|⟨_,_,rfl⟩|⟨_,b,hb,_,rfl⟩
  · exact Store.Has.refl _
  · exact Store.Has.refl _
  · refine⟨fun _ _ h=>h,fun i x h=>?_⟩
    have:i≠b:=fun e=>by rw[e,hb.2]at h;cases h
    simpa [Store.setTok,nbeq this]using h
theorem App.le{k:Nat}{st st':Store}{v:AV}{rows:List (List AV)}(h:App k st v rows st'):AV.le v (.lst k rows none):=by
  rcases h with⟨rfl,rfl,_⟩|⟨rfl,rfl,_⟩|⟨_,b,hb,rfl,_⟩
  · exact AV.le_nil k
  · intro w T v h
    cases h with
    | emp a h=>
      cases a with
      |none=>exact .nil k none
      | some a=>
        obtain⟨b,off,spot⟩:=a
        have:=h _ rfl
        simp only at this
        subst this
        exact VRel.empty w T k b off 0
  · exact AV.le_tok _ _ _
theorem xi{c:Cfg}{st st':Store}{e:TypeId}{ie:TI}{v:AV}{x:LV}{K:AV->Store->Prop}{rows rows':List (List AV)}(h:App ie.size st v rows st')(hie:c.I e=some ie)(hx:xc ie.size x=some rows')
    (hroom:room (rows.length+rows'.length) ie.bytes) (hK:∀v2 st2,App ie.size st v2 (rows++rows') st2->K v2 st2) {P:Program} (hp:Nat.blt 0 ie.size=true:=by rfl):appendK P c st' e (.av v) x K:=by
  refine⟨.inl (za ie hie ?_)⟩
  rcases h with⟨rfl,rfl,rfl⟩|⟨rfl,rfl,rfl⟩|⟨hne,b,hb,rfl,rfl⟩
  · exact za rows' hx ⟨by simpa using hroom,fun v st2 ho=>hK v st2 (.inr (by simpa using ho))⟩
  · exact za rows' hx ⟨by simpa using hroom,fun v st2 ho=>hK v st2 (.inr (by simpa using ho))⟩
  · show(bif Nat.beq ie.size ie.size&&Nat.blt 0 ie.size then _ else False)
    rw[Nat.beq_refl,hp,Bool.and_self,cond_true]
    refine za rows' hx ⟨by simp[Store.setTok],by simpa using hroom,fun v st2 ho=>hK v st2 (.inr ?_)⟩
    rwa [zq2 hb.2]at ho
end Go.V
namespace Go.V
section
variable {P:Program} {c:Cfg}
theorem zmb{ev ev':Operand->LV}{l:List Operand}(h:∀x∈l,ev' x=ev x):
    (l.mapM fun x=>(ev' x).toAV)=(l.mapM fun x=>(ev x).toAV):=by
  induction l with
  |nil=>rfl
  | cons a l ih=>
    rw[List.mapM_cons,List.mapM_cons,h a (by simp),ih fun x hx=>h x (by simp[hx])]
theorem zgi{ev ev':Operand->LV}{x:Option Operand}(h:∀y∈x.toArray,ev' y=ev y):zdo ev' x=zdo ev x:=by
  cases x with
  |none=>rfl
  |some y=>simp only[zdo];rw[h y (by simp)]
theorem zs0{ev:Operand->LV}{bx:Nat->Option (List AV)}{st:Store}{d:Nat}{op:Op}{K K':LV->Prop}(hI:zx P c.I)(hK:∀x,K x->K' x)(h:vcV c ev bx st d op K):vcV c ev bx st d op K':=by
  obtain⟨x,hx,hx',_⟩:=zlr hI op h
  exact hx' K' (hK x hx)
theorem znn{ev ev':Operand->LV}{bx:Nat->Option (List AV)}{st:Store}{d:Nat}{op:Op}{K:LV->Prop}(h:∀x∈op.operands,ev' x=ev x)(hv:vcV c ev bx st d op K):vcV c ev' bx st d op K:=by
  cases op<;>simp only[Op.operands]at h<;>first|exact hv|skip
  case move x=>simp only[vcV]at hv⊢;rwa [h x (by simp)]
  case assign x=>simp only[vcV]at hv⊢;rwa [h x (by simp)]
  case pick a b e=>simp only[vcV]at hv⊢;rwa [h a (by simp),h b (by simp),h e (by simp)]
  case load t x=>simp only[vcV]at hv⊢;rwa [h x (by simp)]
  case nilCheck x=>simp only[vcV]at hv⊢;rwa [h x (by simp)]
  case binOp op t x y yt=>simp only[vcV]at hv⊢;rwa [h x (by simp),h y (by simp)]
  case unOp op t x=>simp only[vcV]at hv⊢;rwa [h x (by simp)]
  case convert s t x=>simp only[vcV]at hv⊢;rwa [h x (by simp)]
  case fieldAddr s x f=>simp only[vcV]at hv⊢;rwa [h x (by simp)]
  case field s x f=>simp only[vcV]at hv⊢;rwa [h x (by simp)]
  case indexAddr t x i=>simp only[vcV]at hv⊢;rwa [h x (by simp),h i (by simp)]
  case index t x i=>simp only[vcV]at hv⊢;rwa [h x (by simp),h i (by simp)]
  case extract x i=>simp only[vcV]at hv⊢;rwa [h x (by simp)]
  case slice t x lo hi mx=>
    simp only[vcV]at hv⊢
    have e1:=zgi (ev:=ev) (ev':=ev') (x:=lo) (fun y hy=>h y (by simp[hy]))
    have e2:=zgi (ev:=ev) (ev':=ev') (x:=hi) (fun y hy=>h y (by simp[hy]))
    rwa [h x (by simp),e1,e2]
  case build t ps=>
    simp only[vcV]at hv⊢
    have e:(ps.toList.map fun p=>(p.1,ev' p.2))=(ps.toList.map fun p=>(p.1,ev p.2)):=List.map_congr_left fun p hp=>by
      rw[h p.2 (by simp;exact⟨p.1,by simpa using hp⟩)]
    rwa [e]
  case makeFunc f first cap=>
    cases f<;>simp only[vcV]at hv⊢<;>try exact hv
    rwa [zmb (ev:=ev) (ev':=ev') fun x hx=>h x (by simp;exact .inr (by simpa using hx))]
  case call cl=>
    obtain⟨callee,args,argTypes⟩:=cl
    simp only[vcV,zao]at hv⊢
    cases callee with
    |value f=>exact hv
    |invoke r m=>exact hv
    | builtin b=>
      have ha:∀x∈args,ev' x=ev x:=fun x hx=>h x (by simp[Call.operands,hx])
      cases b<;>simp only at hv⊢<;>try exact hv
      case len=>
        obtain⟨t,ht,hv⟩:=zf hv
        obtain⟨i,hi,hv⟩:=zf hv
        obtain⟨x,hx,hv⟩:=zf hv
        refine za t ht (za i hi (za x hx ?_))
        rwa [ha x (Array.mem_of_getElem? hx)]
      case cap=>
        obtain⟨t,ht,hv⟩:=zf hv
        obtain⟨i,hi,hv⟩:=zf hv
        obtain⟨x,hx,hv⟩:=zf hv
        refine za t ht (za i hi (za x hx ?_))
        rwa [ha x (Array.mem_of_getElem? hx)]
      case min=>rwa [show args.toList.map ev'=args.toList.map ev from List.map_congr_left fun x hx=>ha x (by simpa using hx)]
      case max=>rwa [show args.toList.map ev'=args.toList.map ev from List.map_congr_left fun x hx=>ha x (by simpa using hx)]
def zky:Op->Bool
  |.load ..=>false
  |.call cl=>match cl.callee with|.builtin .min=>true|.builtin .max=>true|_=>false
  |_=>true
theorem zj8{ev:Operand->LV}{bx bx':Nat->Option (List AV)}{st st':Store}{d:Nat}{op:Op}{K:LV->Prop}(hn:zky op=true)(hv:vcV c ev bx st d op K):vcV c ev bx' st' d op K:=by
  cases op<;>first|exact hv|skip
  case load t x=>simp[zky]at hn
  case call cl=>
    obtain⟨callee,args,argTypes⟩:=cl
    simp only[vcV,zao]at hv⊢
    cases callee with
    |value f=>exact hv
    |invoke r m=>exact hv
    |builtin b=>cases b<;>simp[zky]at hn<;>exact hv
def bsK(c:Cfg)(ev:Operand->LV)(t:TypeId)(n:Nat)(parts:Array (Nat×Operand))(K:LV->Prop):Prop:=
  optK (c.I t) fun i=>match i.ty with
    | .slice e=>optK (c.I e) fun ie=>optK (zcp ie.size n (List.replicate n (xu ie)) (parts.toList.map fun p=>(p.1,ev p.2))) fun rows=>
      bif rows.flatten.all AV.one then n*ie.size<=16777216/\(match rows with
        |[]=>K (.av .emp)
        |_::_=>K (.av (.lst ie.size rows none)))else False
    |_=>False
def vcW(c:Cfg)(ev:Operand->LV)(bx:Nat->Option (List AV))(st:Store)(d:Nat)(op:Op)(K:LV->Prop):Prop:=
  match op with
  |.buildSlice t n parts=>bsK c ev t n parts K
  |op=>vcV c ev bx st d op K
theorem zui{ev:Operand->LV}{t:TypeId}{n:Nat}{parts:Array (Nat×Operand)}{K:LV->Prop}(h:bsK c ev t n parts K):
    ∃ (i ie:TI) (e:TypeId) (rows:List (List AV)) (x:LV),c.I t=some i/\i.ty=.slice e/\c.I e=some ie/\zcp ie.size n (List.replicate n (xu ie)) (parts.toList.map fun p=>(p.1,ev p.2))=some rows/\rows.flatten.all AV.one=true∧
      n*ie.size<=16777216/\x=(match rows with|[]=>.av .emp|_::_=>.av (.lst ie.size rows none))/\K x/\∀K':LV->Prop,K' x->bsK c ev t n parts K':=by
  unfold bsK at h
  obtain⟨i,hi,h⟩:=zf h
  split at h
  · rename_i e hty
    obtain⟨ie,hie,h⟩:=zf h
    obtain⟨rows,hrows,h⟩:=zf h
    cases hone:rows.flatten.all AV.one with
    |false=>rw[hone]at h;exact h.elim
    | true=>
      rw[hone]at h
      simp only[cond_true]at h
      obtain⟨hroom,h⟩:=h
      refine⟨i,ie,e,rows,_,hi,hty,hie,hrows,hone,hroom,rfl,by cases rows<;>exact h,fun K' h'=>?_⟩
      refine za i hi ?_
      simp only[hty]
      refine za ie hie (za rows hrows ?_)
      rw[hone]
      exact⟨hroom,by cases rows<;>exact h'⟩
  · exact h.elim
theorem zhl{ev ev':Operand->LV}{bx:Nat->Option (List AV)}{st:Store}{d:Nat}{op:Op}{K:LV->Prop}(h:∀x∈op.operands,ev' x=ev x)(hv:vcW c ev bx st d op K):vcW c ev' bx st d op K:=by
  cases op<;>first|exact znn (bx:=bx) (st:=st) (d:=d) (K:=K) h (show vcV c ev bx st d _ K from hv)|skip
  case buildSlice t n parts=>
    have e:(parts.toList.map fun p=>(p.1,ev' p.2))=(parts.toList.map fun p=>(p.1,ev p.2)):=List.map_congr_left fun p hp=>by
      rw[h p.2 (by simp[Op.operands];exact⟨p.1,by simpa using hp⟩)]
    simp only[vcW]at hv⊢
    unfold bsK at hv⊢
    rwa [e]
theorem zu0{ev:Operand->LV}{bx bx':Nat->Option (List AV)}{st st':Store}{d:Nat}{op:Op}{K:LV->Prop}(hn:zky op=true)(hv:vcW c ev bx st d op K):vcW c ev bx' st' d op K:=by
  cases op<;>first|exact zj8 (bx:=bx) (st:=st) (d:=d) (K:=K) hn (show vcV c ev bx st d _ K from hv)|exact hv|skip
  case call cl=>exact zj8 (bx:=bx) (bx':=bx') (st:=st) (st':=st') (d:=d) (op:=.call cl) hn hv
end
end Go.V
namespace Go.V
inductive Sched where
  |done
  |v (i:Nat) (r:Sched)
  |e (i:Nat) (chk:List Nat) (r alt:Sched)
  |stop
def sv:List Nat->Sched->Sched
  |[],s=>s
  |i::l,s=>.v i (sv l s)
def isV(c:Cfg)(o:Oper):Bool:=
  match o.op with
  |.alloc _=>false
  |.box _ _=>false
  |.store _ _ _=>false
  |.assign _=>false
  |.convert s t _=> !Nat.beq s t
  |.buildSlice _ _ _=>match o.dst with|some d=> !c.G.contains d|none=>false
  | .call cl=>match cl.callee with
    |.builtin .len=>true
    |.builtin .cap=>true
    |.builtin .min=>true
    |.builtin .max=>true
    |_=>false
  |.mapUpdate ..|.insert ..|.mapEntry ..|.entryStore ..|.makeMap ..|.makeSlice ..|.lookup ..|.range ..|.next ..|.entry ..|.makeInterface ..|.typeAssert ..|.select ..|.go ..|.defer ..|.panic ..|.send ..|.recv ..|.ready ..|.waits ..|.makeChan ..=>false
  |_=>true
def qv(ops:Array Oper)(i:Nat):List Nat:=
  match ops[i]? with
  |some o=>o.after.toList.filterMap fun e=>bif Region.binds .any e then some e.on else none
  |none=>[]
def mem(i:Nat):List Nat->Bool
  |[]=>false
  |j::l=>bif Nat.beq i j then true else mem i l
theorem mem_iff(i:Nat):∀(l:List Nat),mem i l=true↔i∈l:=by
  intro l
  induction l with
  |nil=>simp[mem]
  | cons j l ih=>
    simp only[mem,List.mem_cons]
    by_cases h:i=j
    · subst h;simp
    · simp[nbeq h,ih,h]
def sub(l m:List Nat):Bool:=l.all fun i=>mem i m
def zqg:Sched->List Nat
  |.e i _ _ alt=>i::zqg alt
  |_=>[]
def zzh(ops:Array Oper)(i:Nat):List Nat:=
  (List.range i).reverse.foldl (fun acc j=>bif mem j acc then qv ops j++acc else acc) (qv ops i)
def yb0(c:Cfg)(ops:Array Oper)(i:Nat)(chk L:List Nat):Bool:=
  !mem i L&&Nat.blt i ops.size&&sub (qv ops i) L&&(match ops[i]? with|some o=> !isV c o|none=>false)&&
  L.all fun j=>mem j (zzh ops i)||mem j chk||(match ops[j]?,ops[i]? with
    |some o,some o'=> !isV c o||(zky o.op&&(match o'.op with|.alloc _=>false|.box _ _=>false|_=>true))
    |_,_=>false)
def qs(c:Cfg)(ops:Array Oper):Sched->List Nat->Bool->Bool
  |.done,L,first=>first&&(List.range ops.size).all fun i=>mem i L
  |.v i r,L,first=>first&&(!mem i L&&Nat.blt i ops.size&&(match ops[i]? with|some o=>isV c o|none=>false)&&sub (qv ops i) L&&qs c ops r (i::L) true)
  |.e i chk r alt,L,first=>yb0 c ops i chk L&&qs c ops r (i::L) true&&qs c ops alt L false&&
      (!first||(List.range ops.size).all fun j=>mem j L|| !sub (qv ops j) L||mem j (i::zqg alt))
  |.stop,_,first=> !first
def zgz(c:Cfg)(ops:Array Oper):Bool:=
  (List.range ops.size).all fun i=>match ops[i]? with
    |none=>false
    | some o=>(qv ops i).all (fun j=>Nat.blt j i)&&(match o.op with|.select ..=>false|.defer ..=>false|_=>true)&&(match o.dst with
      |none=> !isV c o
      | some t=>Nat.blt t c.n&& !mem t (o.looksAt ops)&&
        (List.range ops.size).all fun k=>Nat.beq k i||(match ops[k]? with
          |none=>false
          |some o'=>(match o'.dst with|some t'=> !Nat.beq t t'|none=>true)&&(!mem t (o'.looksAt ops)||mem i (qv ops k)||(!isV c o&&mem k (qv ops i)))))
def zgn(ops:Array Oper)(o:Oper)(A:Fr)(go skip:Fr->Prop):Prop:=
  match o.guard with
  |none=>go A
  | some (j,want)=>optK ((ops[j]?).bind (·.dst)) fun t=>
    match A.t t with
    |.av (.s (.bool b))=>zfd b (bif want then go (A.put t (vy true))else skip (A.put t (vy true))) (bif want then skip (A.put t (vy false))else go (A.put t (vy false)))
    |.und=>skip A
    |_=>False
def stands(c:Cfg)(ops:Array Oper)(A:Fr)(st:Store)(i:Nat):Prop:=
  optK ops[i]? fun o=>optK o.dst fun d=>zgn ops o A (fun A=>vcW c A.ev A.bx st d o.op fun x=>x=A.t d) (fun A=>A.t d=.und)
def wx(c:Cfg)(ops:Array Oper)(A:Fr)(st:Store):List Nat->Prop
  |[]=>True
  |i::l=>stands c ops A st i/\wx c ops A st l
def vcDr(P:Program)(c:Cfg)(ops:Array Oper)(K:Fr->Store->Prop):Sched->Fr->Store->Prop
  |.done,A,st=>K A st
  |.v i r,A,st=>optK ops[i]? fun o=>optK o.dst fun d=>
      zgn ops o A (fun A=>vcW c A.ev A.bx st d o.op fun x=>vcDr P c ops K r (A.put d x) st) (fun A=>vcDr P c ops K r (A.put d .und) st)
  |.e i chk r alt,A,st=>(optK ops[i]? fun o=>
      zgn ops o A (fun A=>vcOp P c o (fun A' st'=>wx c ops A' st' chk/\vcDr P c ops K r A' st') A st)
        (fun A=>putO A c.n o.dst .und fun A'=>wx c ops A' st chk/\vcDr P c ops K r A' st))/\vcDr P c ops K alt A st
  |.stop,_,_=>True
end Go.V
namespace Go.V
section
variable {P:Program} {c:Cfg} {ops:Array Oper}
def wc(ops:Array Oper)(o:Oper)(A:Fr):Option Bool:=
  match o.guard with
  |none=>some true
  | some (j,want)=>match(ops[j]?).bind (·.dst)with
    |none=>none
    | some t=>match A.t t with
      |.av (.s (.bool b))=>some (b==want)
      |.und=>some false
      |_=>none
theorem guardK_iff{o:Oper}{A:Fr}{go skip:Fr->Prop}:zgn ops o A go skip↔(wc ops o A=some true/\go A)\/(wc ops o A=some false/\skip A):=by
  unfold zgn wc
  cases hg:o.guard with
  |none=>simp
  | some jw=>
    obtain⟨j,want⟩:=jw
    simp only
    cases hd:(ops[j]?).bind (·.dst)with
    |none=>simp[optK]
    | some t=>
      simp only[optK]
      generalize hy:A.t t=y
      split
      · rename_i b
        cases b with
        |true=>rw[Fr.put_self (A:=A) (x:=vy true) hy];cases want<;>simp[zfd]
        |false=>rw[Fr.put_self (A:=A) (x:=vy false) hy];cases want<;>simp[zfd]
      · simp
      · rename_i h1 h2
        simp
theorem wk{o:Oper}{B:Fr}{st:Store}{n:SN}{Oth M:Nat->Nat->Prop}{a:Act}{w:World}(sim:Sim n Oth B st M a w){b:Bool}(h:wc ops o B=some b):Region.wanted o (yielded ops a.tmps)=b:=by
  obtain⟨β,s⟩:=sim
  unfold wc at h
  unfold Region.wanted
  cases hg:o.guard with
  |none=>rw[hg]at h;simp at h;simp[h]
  | some jw=>
    obtain⟨j,want⟩:=jw
    rw[hg]at h
    simp only at h⊢
    cases hd:(ops[j]?).bind (·.dst)with
    |none=>rw[hd]at h;cases h
    | some t=>
      rw[hd]at h
      simp only at h
      have hs:=s.tm t
      split at h
      · rename_i b' hb
        simp at h
        rw[hb]at hs
        rw[zk5 hd (VRel.eq_s hs),<-h]
        simp
      · rename_i hb
        simp at h
        rw[hb]at hs
        rw[zpb hd hs,h]
        cases want<;>rfl
      · cases h
theorem zsf{b:Bool}{p:Prop}(h:bif b then p else False):b=true/\p:=by
  cases b with
  |true=>exact⟨rfl,h⟩
  |false=>exact h.elim
theorem zsg{b:Bool}{p:Prop}(hb:b=true)(h:p):bif b then p else False:=by subst hb;exact h
def yc(A:Fr)(D:List Nat):Fr:=⟨fun t=>bif mem t D then .any else A.t t,A.bx⟩
theorem kl{t:Nat}{D:List Nat}(h:t∉D):mem t D=false:=by
  cases hm:mem t D with
  |false=>rfl
  |true=>exact absurd ((mem_iff _ _).1 hm) h
theorem ze2{A:Fr}{D:List Nat}{t:Nat}(h:t∉D):(yc A D).t t=A.t t:=by
  simp[yc,kl h]
theorem ybn{A:Fr}{D:List Nat}{x:Operand}(h:∀t,x=.tmp t->t∉D):(yc A D).ev x=A.ev x:=by
  cases x with
  |tmp t=>exact ze2 (h t rfl)
  |_=>rfl
theorem jf{A:Fr}{D:List Nat}{d:Nat}(h:d∉D)(x:LV):(yc A D).put d x=yc (A.put d x) D:=by
  unfold yc Fr.put
  congr
  funext i
  by_cases hi:i=d
  · subst hi;simp[kl h]
  · simp[nbeq hi]
theorem zgp{A:Fr}{D:List Nat}{d:Nat}(h:d∉D)(l:List AV):(yc A D).newBx d l=yc (A.newBx d l) D:=by
  unfold yc Fr.newBx
  congr
  funext i
  by_cases hi:i=d
  · subst hi;simp[kl h]
  · simp only[nbeq hi,cond_false]
    cases mem i D<;>simp[LV.kill]
def Kept(o:Oper)(A A':Fr):Prop:=(match o.op with|.alloc _=>False|.box _ _=>False|_=>True)->∀t,o.dst≠some t->A'.t t=A.t t
theorem zbr{o:Oper}{A:Fr}{d:Nat}{x:LV}(hd:o.dst=some d):Kept o A (A.put d x):=fun _ t ht=>by
  have:t≠d:=fun h=>ht (by rw[h];exact hd)
  simp[Fr.put,nbeq this]
theorem zir{o:Oper}{A:Fr}:Kept o A A:=fun _ _ _=>rfl
theorem zqn(hI:zx P c.I){o:Oper}{K:Fr->Store->Prop}{A:Fr}{st:Store}{D:List Nat}(h:vcOp P c o K A st)(hop:∀x∈o.op.operands,∀t,x=.tmp t->t∉D)(hd:∀d,o.dst=some d->d∉D):
    vcOp P c o (fun B' st'=>∃A',K A' st'/\B'=yc A' D/\Kept o A A') (yc A D) st:=by
  have hev:∀x∈o.op.operands,(yc A D).ev x=A.ev x:=fun x hx=>ybn (hop x hx)
  have hputO:∀(x:LV) (st':Store),(putO A c.n o.dst x fun A'=>K A' st')->putO (yc A D) c.n o.dst x fun B'=>∃A',K A' st'/\B'=yc A' D/\Kept o A A':=by
    intro x st' hx
    unfold putO at hx⊢
    cases hdst:o.dst with
    |none=>rw[hdst]at hx;exact⟨A,hx,rfl,zir⟩
    | some d=>
      rw[hdst]at hx
      obtain⟨hlt,hx⟩:=xp hx
      simp only[show Nat.blt d c.n=true from Nat.ble_eq_true_of_le hlt,cond_true]
      exact⟨_,hx,jf (hd d hdst) x,zbr hdst⟩
  have hval:∀op',op'=o.op->(optK o.dst fun d=>bif Nat.blt d c.n then vcV c A.ev A.bx st d op' (fun x=>K (A.put d x) st)else False)->
      optK o.dst fun d=>bif Nat.blt d c.n then vcV c (yc A D).ev (yc A D).bx st d op' (fun x=>∃A',K A' st/\(yc A D).put d x=yc A' D/\Kept o A A')else False:=by
    rintro op' rfl hx
    obtain⟨d,hdst,hx⟩:=zf hx
    obtain⟨hlt,hx⟩:=xp hx
    refine za d hdst ?_
    simp only[show Nat.blt d c.n=true from Nat.ble_eq_true_of_le hlt,cond_true]
    exact zs0 hI (fun x hx=>⟨_,hx,jf (hd d hdst) x,zbr hdst⟩) (znn hev hx)
  unfold vcOp at h⊢
  have hX:vcX P c o K A st->vcX P c o (fun B' st'=>∃A',K A' st'/\B'=yc A' D/\Kept o A A') (yc A D) st:=by
    intro h
    obtain⟨vs,hvs,h⟩:=zf h
    have e:(o.op.operands.toList.mapM fun x=>((yc A D).ev x).toAV)=o.op.operands.toList.mapM fun x=>(A.ev x).toAV:=
      zmb fun x hx=>hev x (by simpa using hx)
    refine za vs (by rw[e];exact hvs) ⟨fun Oth M w ρ hI' sto hr=>?_⟩
    have:=h.out Oth M w ρ hI' sto hr
    have hpost:∀v w',zu st (fun r st'=>putO A c.n o.dst (.av r) fun A'=>K A' st') Oth M w v w'->zu st (fun r st'=>putO (yc A D) c.n o.dst (.av r) fun B'=>∃A',K A' st'/\B'=yc A' D/\Kept o A A') Oth M w v w':=
      fun v w' ⟨r,st',M',h1,h2⟩=>⟨r,st',M',hputO _ st' h1,h2⟩
    generalize(execOp ρ o).run P w=res at*
    cases res with
    |halt x w'=>exact this.elim
    | ok nx w'=>
      cases nx with
      |value v=>exact hpost v w' this
      |skip=>exact⟨this.1,hpost _ w' this.2⟩
      |_=>exact this.elim
  cases hx:isX o.op with
  |true=>rw[hx]at h;exact hX h
  |false=>
  rw[hx]at h
  replace h:zjp P c o K A st:=h
  change zjp P c o (fun B' st'=>∃A',K A' st'/\B'=yc A' D/\Kept o A A') (yc A D) st
  unfold zjp at h⊢
  cases ho:o.op with
  | alloc t=>
    simp only[ho,jo]at h⊢
    obtain⟨i,hi,h⟩:=zf h
    obtain⟨d,hdst,h⟩:=zf h
    obtain⟨hlt,h⟩:=xp h
    refine za i hi (za d hdst ?_)
    simp only[show Nat.blt d c.n=true from Nat.ble_eq_true_of_le hlt,cond_true]
    cases hg:c.G.contains d with
    |true=>rw[hg]at h;exact fun b hb=>⟨_,h b hb,jf (hd d hdst) _,fun hh=>by rw[ho]at hh;exact hh.elim⟩
    |false=>rw[hg]at h;exact⟨_,h,zgp (hd d hdst) _,fun hh=>by rw[ho]at hh;exact hh.elim⟩
  | box t x=>
    simp only[ho]at h⊢
    rw[ho]at hev
    obtain⟨d,hdst,h⟩:=zf h
    obtain⟨hlt,h⟩:=xp h
    refine za d hdst ?_
    simp only[show Nat.blt d c.n=true from Nat.ble_eq_true_of_le hlt,cond_true]
    rw[hev x (by simp[Op.operands])]
    split at h
    · obtain⟨l,hl,h⟩:=zf h
      refine za l hl ?_
      cases hg:c.G.contains d with
      |true=>rw[hg]at h;exact fun b hb=>⟨_,h b hb,jf (hd d hdst) _,fun hh=>by rw[ho]at hh;exact hh.elim⟩
      |false=>rw[hg]at h;exact⟨_,h,zgp (hd d hdst) _,fun hh=>by rw[ho]at hh;exact hh.elim⟩
    · exact h.elim
  | buildSlice t n parts=>
    simp only[ho]at h⊢
    rw[ho]at hev
    have e:(parts.toList.map fun p=>(p.1,(yc A D).ev p.2))=(parts.toList.map fun p=>(p.1,A.ev p.2)):=List.map_congr_left fun p hp=>by
      rw[hev p.2 (by simp[Op.operands];exact⟨p.1,by simpa using hp⟩)]
    rw[e]
    obtain⟨i,hi,h⟩:=zf h
    obtain⟨d,hdst,h⟩:=zf h
    obtain⟨hlt,h⟩:=xp h
    refine za i hi (za d hdst ?_)
    simp only[show Nat.blt d c.n=true from Nat.ble_eq_true_of_le hlt,cond_true]
    split at h
    · obtain⟨ie,hie,h⟩:=zf h
      obtain⟨rows,hrows,h⟩:=zf h
      refine za ie hie (za rows hrows ?_)
      cases hone:rows.flatten.all AV.one with
      |false=>rw[hone]at h;exact h.elim
      | true=>
        rw[hone]at h
        simp only[cond_true]at h⊢
        refine⟨h.1,?_⟩
        replace h:=h.2
        cases rows with
        |nil=>exact⟨_,h,jf (hd d hdst) _,zbr hdst⟩
        | cons r rs=>
          cases hg:c.G.contains d with
          | true=>
            cases hg2:c.G.contains (d+1000000)with
            |true=>simp only[hg,hg2,cond_true]at h⊢;exact fun b hb=>⟨_,h b hb,jf (hd d hdst) _,zbr hdst⟩
            |false=>simp only[hg,hg2,cond_true,cond_false]at h⊢;exact fun b hb=>⟨_,h b hb,jf (hd d hdst) _,zbr hdst⟩
          |false=>simp only[hg,cond_false]at h⊢;exact⟨_,h,jf (hd d hdst) _,zbr hdst⟩
    · exact h.elim
  | store t p x=>
    simp only[ho]at h⊢
    rw[ho]at hev
    cases hdst:o.dst with
    |some d=>rw[hdst]at h;exact h.elim
    | none=>
      rw[hdst]at h
      simp only[Option.isNone_none,cond_true]at h⊢
      obtain⟨i,hi,h⟩:=zf h
      refine za i hi ?_
      rw[hev x (by simp[Op.operands])]
      split at h
      · unfold zef at h⊢
        rw[hev p (by simp[Op.operands])]
        obtain⟨xs,hxs,h⟩:=zf h
        refine za xs hxs ?_
        cases hb:(Nat.beq xs.length i.size&&xs.all AV.one)with
        |false=>rw[hb]at h;exact h.elim
        | true=>
          rw[hb]at h
          simp only[cond_true]at h⊢
          split at h
          · rename_i k off hp
            obtain⟨l,hl,h⟩:=zf h
            refine za l hl ?_
            cases hb2:Nat.ble (off+xs.length) l.length with
            |false=>rw[hb2]at h;exact h.elim
            |true=>rw[hb2]at h;simp only[cond_true,jo]at h⊢;exact⟨_,h,rfl,fun _ _ _=>rfl⟩
          · obtain⟨y,hy,h⟩:=zf h
            refine za y hy ?_
            cases y with
            |cells l=>simp only[jo]at h⊢;exact⟨h.1,_,h.2,rfl,zir⟩
            |map es bs clock=>exact h.elim
            |iter m since seen last=>exact h.elim
            |ghost o gh=>exact h.elim
          · exact h.elim
      · exact h.elim
  | binOp op t x y yt=>
    simp only[ho]at h⊢
    have hev':=hev
    rw[ho]at hev'
    unfold zuj at h⊢
    rw[hev' x (by simp[Op.operands]),hev' y (by simp[Op.operands])]
    split at h
    · obtain⟨i,hi,h⟩:=zf h
      refine za i hi ?_
      cases hty:i.ty with
      | slice e=>
        rw[hty]at h
        cases op with
        |eql=>exact fun b hb=>hputO _ st (h b hb)
        |neq=>exact fun b hb=>hputO _ st (h b hb)
        |_=>exact h.elim
      |_=>rw[hty]at h;exact h.elim
    · exact hval _ ho.symm h
  | convert s t x=>
    simp only[ho]at h⊢
    have hev':=hev
    rw[ho]at hev'
    unfold ynh at h⊢
    rw[hev' x (by simp[Op.operands])]
    split at h
    · obtain⟨hb,h⟩:=zsf h
      refine zsg hb ?_
      obtain⟨i,hi,h⟩:=zf h
      refine za i hi ?_
      split at h
      · obtain⟨ie,hie,h⟩:=zf h
        obtain⟨hu,h⟩:=zsf h
        obtain⟨top,htop,h⟩:=zf h
        exact za ie hie (zsg hu (za top htop (hputO _ st h)))
      · exact h.elim
    · exact hX h
    · exact hX h
    · exact hval _ ho.symm h
  | call cl=>
    simp only[ho]at h⊢
    have hev':=hev
    rw[ho]at hev'
    cases hcl:cl.callee with
    | value f=>
      simp only[hcl]at h⊢
      rw[hev' f (by simp[Op.operands,Call.operands,hcl])]
      split at h
      · obtain⟨vs,hvs,h⟩:=zf h
        have e:(cl.args.toList.mapM fun x=>((yc A D).ev x).toAV)=cl.args.toList.mapM fun x=>(A.ev x).toAV:=
          zmb fun x hx=>hev' x (by simp[Op.operands,Call.operands];exact .inr (by simpa using hx))
        rw[e]
        refine za vs hvs ⟨fun Oth M w us sto hr=>?_⟩
        have:=h.out Oth M w us sto hr
        have hpost:∀v w',zu st (fun r st'=>putO A c.n o.dst (.av r) fun A'=>K A' st') Oth M w v w'->zu st (fun r st'=>putO (yc A D) c.n o.dst (.av r) fun B'=>∃A',K A' st'/\B'=yc A' D/\Kept o A A') Oth M w v w':=
          fun v w' ⟨r,st',M',h1,h2⟩=>⟨r,st',M',hputO _ st' h1,h2⟩
        generalize(callFunc _ us).run P w=res at*
        cases res with
        |halt x w'=>exact this.elim
        | ok nx w'=>
          cases nx with
          |enter f as=>exact Calls.mono this fun e w'' ⟨v,he,hp⟩=>⟨v,he,hpost v w'' hp⟩
          |value v=>exact hpost v w' this
          |_=>exact this.elim
      · exact h.elim
    | invoke y m=>
      simp only[hcl]at h⊢
      unfold zme at h⊢
      rw[hev' y (by simp[Op.operands,Call.operands,hcl])]
      split at h
      · obtain⟨vs,hvs,g,x,hm,h⟩:=zf h
        have e:(cl.args.toList.mapM fun x=>((yc A D).ev x).toAV)=cl.args.toList.mapM fun x=>(A.ev x).toAV:=
          zmb fun x hx=>hev' x (by simp[Op.operands,Call.operands];exact .inr (by simpa using hx))
        rw[e]
        refine za vs hvs ⟨g,x,hm,⟨fun Oth M w us sto hr=>?_⟩⟩
        have:=h.out Oth M w us sto hr
        have hpost:∀v w',zu st (fun r st'=>putO A c.n o.dst (.av r) fun A'=>K A' st') Oth M w v w'->zu st (fun r st'=>putO (yc A D) c.n o.dst (.av r) fun B'=>∃A',K A' st'/\B'=yc A' D/\Kept o A A') Oth M w v w':=
          fun v w' ⟨r,st',M',h1,h2⟩=>⟨r,st',M',hputO _ st' h1,h2⟩
        generalize(callFunc _ us).run P w=res at*
        cases res with
        |halt x w'=>exact this.elim
        | ok nx w'=>
          cases nx with
          |enter f as=>exact Calls.mono this fun e w'' ⟨v,he,hp⟩=>⟨v,he,hpost v w'' hp⟩
          |value v=>exact hpost v w' this
          |_=>exact this.elim
      · exact h.elim
    | builtin b=>
      cases b with
      | append=>
        simp only[hcl]at h⊢
        obtain⟨t,ht,h⟩:=zf h
        obtain⟨i,hi,h⟩:=zf h
        obtain⟨s,hs,h⟩:=zf h
        obtain⟨x,hx,h⟩:=zf h
        refine za t ht (za i hi (za s hs (za x hx ?_)))
        rw[hev' s (by simp[Op.operands,Call.operands,hcl];exact Array.mem_of_getElem? hs),hev' x (by simp[Op.operands,Call.operands,hcl];exact Array.mem_of_getElem? hx)]
        split at h
        · cases hb:(cl.argTypes[1]?.bind c.I).any zh2 with
          |false=>rw[hb]at h;exact hX h
          |true=>
          rw[hb]at h
          replace h:=h.out
          rcases h with h|⟨s',x',hes,hex,h⟩
          rotate_left
          · refine⟨.inr ⟨s',x',hes,hex,h.has,fun ie hie Oth M w sv xv at' ty args t sto h1 h2 h3 h4 h5 h6 h7 h8=>?_⟩⟩
            obtain⟨v,w',hr,r,st',M',hK,hp⟩:=h.out ie hie Oth M w sv xv at' ty args t sto h1 h2 h3 h4 h5 h6 h7 h8
            exact⟨v,w',hr,r,st',M',hputO _ st' hK,hp⟩
          refine⟨.inl ?_⟩
          unfold zsq at h⊢
          obtain⟨ie,hie,h⟩:=zf h
          refine za ie hie ?_
          split at h
          · obtain⟨rows,hrows,hroom,h⟩:=zf h
            exact za rows hrows ⟨hroom,fun v st' ho=>hputO _ st' (h v st' ho)⟩
          · obtain⟨rows,hrows,hroom,h⟩:=zf h
            exact za rows hrows ⟨hroom,fun v st' ho=>hputO _ st' (h v st' ho)⟩
          · rename_i k rows b hev2
            obtain⟨hk,h⟩:=zsf h
            obtain⟨rows',hrows,htok,hroom,h⟩:=zf h
            exact zsg hk (za rows' hrows ⟨htok,hroom,fun v st' ho=>hputO _ st' (h v st' ho)⟩)
          · exact h.elim
        · exact h.elim
      |_=>simp only[hcl]at h⊢;have:=hval o.op rfl (by rw[ho];exact h);rw[ho]at this;exact this
  |_=>simp only[ho]at h⊢;exact hval _ ho.symm h
end
end Go.V
namespace Go.V
section
variable {P:Program} {c:Cfg} {ops:Array Oper}
theorem all_range{n:Nat}{p:Nat->Bool}:(List.range n).all p=true↔∀i,i<n->p i=true:=by
  simp[List.all_eq_true]
structure OpFacts(c:Cfg)(ops:Array Oper)(i:Nat)(o:Oper):Prop where
  lt:∀j∈qv ops i,j<i
  sel:∀cs b,o.op≠.select cs b
  nd:∀cl,o.op≠.defer cl
  dst:isV c o=true->∃d,o.dst=some d
  dlt:∀d,o.dst=some d->d<c.n
  own:∀d,o.dst=some d->d∉o.looksAt ops
  one:∀d,o.dst=some d->∀k o',ops[k]?=some o'->k≠i->o'.dst≠some d
  look:∀d,o.dst=some d->∀k o',ops[k]?=some o'->k≠i->d∈o'.looksAt ops->i∈qv ops k\/(isV c o=false/\k∈qv ops i)
theorem xy(h:zgz c ops=true){i:Nat}{o:Oper}(hi:ops[i]?=some o):OpFacts c ops i o:=by
  have hlt:i<ops.size:=(Array.getElem?_eq_some_iff.1 hi).1
  have h1:=all_range.1 h i hlt
  simp only[hi,Bool.and_eq_true,List.all_eq_true]at h1
  obtain⟨⟨hd,hs⟩,h2⟩:=h1
  refine⟨fun j hj=>Nat.le_of_ble_eq_true (hd j hj),fun cs b hop=>(by rw[hop]at hs;cases hs),fun cl hop=>(by rw[hop]at hs;cases hs),fun hv=>?_,fun d hdst=>?_,fun d hdst=>?_,fun d hdst k o' hk hne=>?_,fun d hdst k o' hk hne hl=>?_⟩
  · cases hdst:o.dst with
    |none=>rw[hdst]at h2;simp[hv]at h2
    |some d=>exact⟨d,rfl⟩
  all_goals
    rw[hdst]at h2
    simp only[Bool.and_eq_true,Bool.not_eq_true']at h2
    obtain⟨⟨h3,h4⟩,h5⟩:=h2
  · exact Nat.le_of_ble_eq_true h3
  · intro hm
    rw[(mem_iff _ _).2 hm]at h4
    cases h4
  all_goals
    have hklt:k<ops.size:=(Array.getElem?_eq_some_iff.1 hk).1
    have h6:=all_range.1 h5 k hklt
    rw[hk]at h6
    simp only[Bool.or_eq_true,nbeq hne,Bool.false_eq_true,false_or,Bool.and_eq_true,Bool.not_eq_true']at h6
  · intro hd'
    rw[hd']at h6
    simp at h6
  · rcases h6.2 with(h|h)|h
    · rw[(mem_iff _ _).2 hl]at h;cases h
    · exact .inl ((mem_iff _ _).1 h)
    · exact .inr ⟨h.1,(mem_iff _ _).1 h.2⟩
theorem zse{p q:Nat->Bool}{i:Nat}:∀(l:List Nat),l.Nodup->i∈l->p i=true->q i=false->(∀j,j≠i->p j=q j)->l.countP p=l.countP q+1:=by
  intro l
  induction l with
  |nil=>intro _ h;cases h
  | cons a l ih=>
    intro hn hi hp hq he
    rw[List.nodup_cons]at hn
    rw[List.countP_cons,List.countP_cons]
    by_cases ha:a=i
    · subst ha
      have:l.countP p=l.countP q:=List.countP_congr fun j hj=>by rw[he j fun h=>hn.1 (h▸hj)]
      rw[this,hp,hq]
      simp
    · have hi':i∈l:=by
        rcases List.mem_cons.1 hi with h|h
        · exact absurd h.symm ha
        · exact h
      rw[ih hn.2 hi' hp hq he,he a ha]
      omega
def left(ops:Array Oper)(listed:Array Bool):Nat:=(List.range ops.size).countP fun i=> !listed.getD i true
theorem zg9{listed:Array Bool}(hs:listed.size=ops.size){i:Nat}(hi:i<ops.size)(hl:listed.getD i true=false):left ops listed=left ops (listed.setIfInBounds i true)+1:=by
  unfold left
  refine zse (i:=i) _ List.nodup_range (List.mem_range.2 hi) (by simp[hl]) ?_ fun j hj=>?_
  · simp[hs,hi]
  · rw[getD_set_ne true (Ne.symm hj)]
theorem zoy{listed:Array Bool}(h:left ops listed=0){i:Nat}(hi:i<ops.size):listed.getD i true=true:=by
  unfold left at h
  rw[List.countP_eq_zero]at h
  have:=h i (List.mem_range.2 hi)
  simpa using this
theorem least{p:Nat->Prop}:∀n,(∃i,i<n/\p i)->∃i,i<n/\p i/\∀j,j<i->¬p j:=by
  intro n
  induction n with
  |zero=>rintro⟨i,h,_⟩;omega
  | succ n ih=>
    rintro⟨i,h,hp⟩
    by_cases hx:∃j,j<n/\p j
    · obtain⟨j,h1,h2,h3⟩:=ih hx
      exact⟨j,by omega,h2,h3⟩
    · have:i=n:=Nat.le_antisymm (by omega) (Nat.not_lt.1 fun hl=>hx ⟨i,hl,hp⟩)
      subst this
      exact⟨i,h,hp,fun j hj hpj=>hx ⟨j,hj,hpj⟩⟩
theorem zt3{i j:Nat}{o:Oper}(hi:ops[i]?=some o):j∈qv ops i↔∃e∈o.after,Region.binds .any e=true/\e.on=j:=by
  unfold qv
  rw[hi]
  simp only[List.mem_filterMap,Array.mem_toList_iff]
  constructor
  · rintro⟨e,he,hx⟩
    cases hb:Region.binds .any e with
    |false=>rw[hb]at hx;cases hx
    |true=>rw[hb]at hx;simp at hx;exact⟨e,he,hb,hx⟩
  · rintro⟨e,he,hb,hx⟩
    exact⟨e,he,by simp[hb,hx]⟩
theorem ready_iff{i:Nat}{listed:Array Bool}:i∈Region.ready .any ops listed↔listed.getD i true=false/\i<ops.size/\∀j∈qv ops i,listed.getD j false=true:=by
  rw[mem_ready]
  constructor
  · rintro⟨h1,o,ho,h2⟩
    refine⟨h1,(Array.getElem?_eq_some_iff.1 ho).1,fun j hj=>?_⟩
    obtain⟨e,he,hb,rfl⟩:=(zt3 ho).1 hj
    exact h2 e he hb
  · rintro⟨h1,hlt,h2⟩
    refine⟨h1,ops[i],Array.getElem?_eq_getElem hlt,fun e he hb=>h2 _ ((zt3 (Array.getElem?_eq_getElem hlt)).2 ⟨e,he,hb,rfl⟩)⟩
def jq(ops:Array Oper)(U:List Nat):List Nat:=U.filterMap fun i=>(ops[i]?).bind (·.dst)
theorem mem_dsts{U:List Nat}{t:Nat}:t∈jq ops U↔∃k∈U,∃o,ops[k]?=some o/\o.dst=some t:=by
  unfold jq
  rw[List.mem_filterMap]
  constructor
  · rintro⟨k,hk,h⟩
    cases ho:ops[k]? with
    |none=>rw[ho]at h;cases h
    |some o=>rw[ho]at h;exact⟨k,hk,o,ho,h⟩
  · rintro⟨k,hk,o,ho,h⟩
    exact⟨k,hk,by rw[ho];exact h⟩
theorem SimB.weaken{n:SN}{Oth M:Nat->Nat->Prop}{β:Nat->Nat}{A B:Fr}{st:Store}{a:Act}{w:World}(h:SimB n Oth β A st M a w)(hb:B.bx=A.bx)(ht:∀t,A.t t=B.t t\/B.t t=.any):SimB n Oth β B st M a w where
  tsz:=h.tsz
  dfr:=h.dfr
  tm i:=by
    rcases ht i with h1|h1
    · rw[<-h1];exact h.tm i
    · rw[h1];trivial
  bx:=by rw[hb];exact h.bx
  inj:=by rw[hb];exact h.inj
  sep:=by rw[hb];exact h.sep
  sto:=h.sto
theorem Oper.wp_q{o:Oper}{a:Act}{w:World}{K:Act->World->Prop}{Q:Exit->Act->World->Prop}(h:o.wp P a w K fun _ _ _=>False):o.wp P a w K Q:=by
  unfold Oper.wp at*
  generalize(execOp a.eval o).run P w=r at*
  cases r with
  | ok n w'=>
    cases n<;>simp only[Oper.upon]at h⊢<;>
      first
        |exact h
        |exact Calls.mono h (fun e w'' he=>by cases e<;>first|exact he|exact he.elim|(obtain⟨_,_,he⟩:=he;exact he.elim))
        |exact Rows.mono h (fun _ _ he=>he)
  |halt x w'=>cases x<;>simp only[Oper.upon]at h⊢<;>exact h.elim
theorem yct(hI:zx P c.I){o:Oper}{d:Nat}{x:LV}{B:Fr}{st:Store}(hd:o.dst=some d)(hlt:d<c.n)(h:vcW c B.ev B.bx st d o.op (fun y=>y=x)):AOp P c.N o (fun A' st'=>A'=B.put d x/\st'=st) B st:=by
  have key:(∀t n ps,o.op≠.buildSlice t n ps)->AOp P c.N o (fun A' st'=>A'=B.put d x/\st'=st) B st:=by
    intro hne
    refine zjm hI (za d hd ?_)
    simp only[show Nat.blt d c.n=true from Nat.ble_eq_true_of_le hlt,cond_true]
    unfold vcW at h
    split at h
    · rename_i heq;exact absurd heq (hne _ _ _)
    · exact zs0 hI (fun y hy=>⟨by rw[hy],Tv⟩) h
  cases hop:o.op with
  | buildSlice t n parts=>
    clear key
    rw[hop]at h
    obtain⟨i,ie,e,rows,y,hi,hty,hie,hrows,hone,hroom,hy,hyx,_⟩:=zui (show bsK c B.ev t n parts (fun y=>y=x)from h)
    subst hyx
    refine zdt (c:={c with G:=[]}) hop hI (za i hi (za d hd ?_))
    simp only[show Nat.blt d c.n=true from Nat.ble_eq_true_of_le hlt,cond_true,hty]
    refine za ie hie (za rows hrows ?_)
    rw[hone]
    refine⟨hroom,?_⟩
    cases rows with
    |nil=>subst hy;exact⟨rfl,Tv⟩
    |cons r rs=>subst hy;exact⟨rfl,Tv⟩
  |_=>exact key (by rw[hop];intro _ _ _ h;cases h)
theorem j3{o:Oper}{A B:Fr}(h:∀t∈o.looksAt ops,B.t t=A.t t):wc ops o B=wc ops o A:=by
  unfold wc
  cases hg:o.guard with
  |none=>rfl
  | some jw=>
    obtain⟨j,want⟩:=jw
    simp only
    cases hd:(ops[j]?).bind (·.dst)with
    |none=>rfl
    | some t=>
      simp only
      rw[h t (by unfold Oper.looksAt;rw[hg];simp[hd])]
theorem yaq{o:Oper}{t:Nat}(h:Operand.tmp t∈o.op.operands):t∈o.looksAt ops:=
  List.mem_append_left _ (List.mem_filterMap.2 ⟨.tmp t,by simpa using h,rfl⟩)
theorem zmo{o:Oper}{A B:Fr}(h:∀t∈o.looksAt ops,B.t t=A.t t):∀x∈o.op.operands,B.ev x=A.ev x:=by
  intro x hx
  cases x with
  |tmp t=>exact h t (yaq hx)
  |_=>rfl
theorem stands_iff{A:Fr}{st:Store}{i:Nat}:stands c ops A st i↔∃o d,ops[i]?=some o/\o.dst=some d∧
    ((wc ops o A=some true/\vcW c A.ev A.bx st d o.op fun x=>x=A.t d)\/(wc ops o A=some false/\A.t d=.und)):=by
  unfold stands
  constructor
  · intro h
    obtain⟨o,ho,h⟩:=zf h
    obtain⟨d,hd,h⟩:=zf h
    exact⟨o,d,ho,hd,guardK_iff.1 h⟩
  · rintro⟨o,d,ho,hd,h⟩
    exact za o ho (za d hd (guardK_iff.2 h))
theorem zge{A B:Fr}{st st':Store}{i:Nat}{o:Oper}(hi:ops[i]?=some o)(h:stands c ops A st i)(hl:∀t∈o.looksAt ops,B.t t=A.t t)(hd:∀d,o.dst=some d->B.t d=A.t d)
    (hn:(B.bx=A.bx/\st'=st)\/zky o.op=true):stands c ops B st' i:=by
  obtain⟨o',d,ho,hdst,h⟩:=stands_iff.1 h
  rw[hi]at ho
  cases ho
  refine stands_iff.2 ⟨o,d,hi,hdst,?_⟩
  rw[j3 hl,hd d hdst]
  refine h.imp (fun h=>⟨h.1,?_⟩) id
  have h2:=zhl (ev':=B.ev) (zmo hl) h.2
  rcases hn with⟨h3,h4⟩|hn
  · rw[h3,h4];exact h2
  · exact zu0 hn h2
theorem zlz{A:Fr}{st:Store}:∀{l:List Nat},wx c ops A st l->∀i∈l,stands c ops A st i:=by
  intro l
  induction l with
  |nil=>intro _ i h;cases h
  | cons a l ih=>
    intro h i hi
    rcases List.mem_cons.1 hi with rfl|h'
    · exact h.1
    · exact ih h.2 i h'
def ybz(P:Program)(c:Cfg)(ops:Array Oper)(K:Fr->Store->Prop)(i:Nat)(chk:List Nat)(r:Sched)(A:Fr)(st:Store):Prop:=
  optK ops[i]? fun o=>
      zgn ops o A (fun A=>vcOp P c o (fun A' st'=>wx c ops A' st' chk/\vcDr P c ops K r A' st') A st)
        (fun A=>putO A c.n o.dst .und fun A'=>wx c ops A' st chk/\vcDr P c ops K r A' st)
theorem ynt{K:Fr->Store->Prop}{A:Fr}{st:Store}{i:Nat}{L:List Nat}:∀(S:Sched) (first:Bool),qs c ops S L first=true->vcDr P c ops K S A st->i∈zqg S->
    ∃chk r,yb0 c ops i chk L=true/\qs c ops r (i::L) true=true/\ybz P c ops K i chk r A st:=by
  intro S
  induction S with
  |done=>intro _ _ _ h;cases h
  |stop=>intro _ _ _ h;cases h
  |v j r _=>intro _ _ _ h;cases h
  | e j chk r alt _ ih=>
    intro first hs hv hi
    simp only[qs,Bool.and_eq_true]at hs
    simp only[zqg,List.mem_cons]at hi
    rcases hi with rfl|hi
    · exact⟨chk,r,hs.1.1.1,hs.1.1.2,hv.1⟩
    · exact ih false hs.1.2 hv.2 hi
structure DInv(c:Cfg)(ops:Array Oper)(Oth M0:Nat->Nat->Prop)(w0:World)(listed:Array Bool)(Lab U:List Nat)(A:Fr)(st:Store)(M:Nat->Nat->Prop)(a:Act)(w:World):Prop where
  lsz:listed.size=ops.size
  lst:∀i,i<ops.size->(listed.getD i false=true↔i∈Lab/\i∉U)
  usub:∀i∈U,i∈Lab
  lab:∀i∈Lab,i<ops.size/\∀j∈qv ops i,j∈Lab
  uv:∀i∈U,∃o,ops[i]?=some o/\isV c o=true
  std:∀i∈U,stands c ops A st i
  sim:Sim c.N Oth (yc A (jq ops U)) st M a w
  chg:Chg M0 w0 M w
  cls:∀i,i<ops.size->listed.getD i false=true->∀j∈qv ops i,listed.getD j false=true
theorem zry{listed:Array Bool}{i:Nat}(h:i<listed.size):listed.getD i true=listed.getD i false:=by
  simp[h]
theorem zof{ops:Array Oper}{listed:Array Bool}(cls:∀i,i<ops.size->listed.getD i false=true->∀j∈qv ops i,listed.getD j false=true)(hlt:∀i j,j∈qv ops i->j<ops.size){i:Nat}(hi:∀j∈qv ops i,listed.getD j false=true):
    ∀k∈zzh ops i,listed.getD k false=true:=by
  have key:∀(l acc:List Nat),(∀k∈acc,k<ops.size/\listed.getD k false=true)->∀k∈l.foldl (fun acc j=>bif mem j acc then qv ops j++acc else acc) acc,k<ops.size/\listed.getD k false=true:=by
    intro l
    induction l with
    |nil=>intro acc h;exact h
    | cons j l ih=>
      intro acc h
      refine ih _ ?_
      by_cases hm:mem j acc=false
      · simp only[hm,cond_false];exact h
      · have hm:mem j acc=true:=by simpa using hm
        have hj:=h j ((mem_iff _ _).1 hm)
        intro k hk
        simp only[hm,cond_true,List.mem_append]at hk
        rcases hk with hk|hk
        · exact⟨hlt j k hk,cls j hj.1 hj.2 k hk⟩
        · exact h k hk
  exact fun k hk=>(key _ _ (fun k hk=>⟨hlt i k hk,hi k hk⟩) k hk).2
end
end Go.V
namespace Go.V
section
variable {P:Program} {c:Cfg} {ops:Array Oper} {Oth M0:Nat->Nat->Prop} {w0:World}
def zf7(c:Cfg)(Oth M0:Nat->Nat->Prop)(w0:World)(K:Fr->Store->Prop):Exit->Act->World->Prop:=
  fun e a' w'=>∃A' st' M',(match e with|.normal=>K A' st'|_=>False)/\Sim c.N Oth A' st' M' a' w'/\Chg M0 w0 M' w'
theorem yc6(hI:zx P c.I){ev:Operand->LV}{bx:Nat->Option (List AV)}{st:Store}{d:Nat}{op:Op}{K:LV->Prop}(h:vcW c ev bx st d op K):∃x,K x/\vcW c ev bx st d op fun y=>y=x:=by
  unfold vcW at h⊢
  split at h
  · obtain⟨_,_,_,_,x,_,_,_,_,_,_,_,hx,hx'⟩:=zui h
    exact⟨x,hx,hx' _ rfl⟩
  · obtain⟨x,hx,hx',_⟩:=zlr hI _ h
    exact⟨x,hx,hx' _ rfl⟩
section
variable {listed:Array Bool} {Lab U:List Nat} {A:Fr} {st:Store} {M:Nat->Nat->Prop} {a:Act} {w:World}
theorem DInv.listed_iff(h:DInv c ops Oth M0 w0 listed Lab U A st M a w){i:Nat}(hi:i<ops.size):listed.getD i true=false↔¬(i∈Lab/\i∉U):=by
  rw[zry (by rw[h.lsz];exact hi),<-h.lst i hi]
  simp
theorem DInv.done(hops:zgz c ops=true){K:Fr->Store->Prop}{S:Sched}(h:DInv c ops Oth M0 w0 listed Lab U A st M a w)(hs:qs c ops S Lab true=true)(hv:vcDr P c ops K S A st)
    (hl:left ops listed=0):zf7 c Oth M0 w0 K .normal a w:=by
  have hall:∀i,i<ops.size->i∈Lab/\i∉U:=fun i hi=>by
    have:=zoy hl hi
    rw[zry (by rw[h.lsz];exact hi)]at this
    exact(h.lst i hi).1 this
  have hU:U=[]:=by
    cases U with
    |nil=>rfl
    |cons u U=>exact absurd (List.mem_cons_self) (hall u (h.lab u (h.usub u List.mem_cons_self)).1).2
  subst hU
  cases S with
  |done=>exact⟨A,st,M,hv,h.sim,h.chg⟩
  |stop=>simp[qs]at hs
  | v i r=>
    simp only[qs,Bool.and_eq_true,Bool.not_eq_true']at hs
    have hlt:i<ops.size:=Nat.le_of_ble_eq_true hs.2.1.1.1.2
    have:=hs.2.1.1.1.1
    rw[(mem_iff _ _).2 (hall i hlt).1]at this
    cases this
  | e i chk r alt=>
    simp only[qs,yb0,Bool.and_eq_true,Bool.not_eq_true']at hs
    have hlt:i<ops.size:=Nat.le_of_ble_eq_true hs.1.1.1.1.1.1.2
    have:=hs.1.1.1.1.1.1.1
    rw[(mem_iff _ _).2 (hall i hlt).1]at this
    cases this
theorem DInv.ready_ne(hops:zgz c ops=true)(h:DInv c ops Oth M0 w0 listed Lab U A st M a w){n:Nat}(hl:left ops listed=n+1):Region.ready .any ops listed≠[]:=by
  intro hr
  have hex:∃i,i<ops.size/\listed.getD i true=false:=by
    unfold left at hl
    have:0<(List.range ops.size).countP fun i=> !listed.getD i true:=by omega
    obtain⟨i,hi,hp⟩:=List.countP_pos_iff.1 this
    exact⟨i,List.mem_range.1 hi,by simpa using hp⟩
  obtain⟨i,hi,hp,hmin⟩:=least ops.size hex
  have:i∈Region.ready .any ops listed:=by
    rw[ready_iff]
    refine⟨hp,hi,fun j hj=>?_⟩
    have hlt:=(xy hops (Array.getElem?_eq_getElem hi)).lt j hj
    have:=hmin j hlt
    rw[zry (by rw[h.lsz];omega)]at this
    simpa using this
  rw[hr]at this
  cases this
theorem DInv.clear(hops:zgz c ops=true)(h:DInv c ops Oth M0 w0 listed Lab U A st M a w){i:Nat}(hr:i∈Region.ready .any ops listed){o:Oper}(hi:ops[i]?=some o):∀t∈o.looksAt ops,t∉jq ops U:=by
  intro t ht hd
  obtain⟨k,hk,o',ho',hd'⟩:=mem_dsts.1 hd
  have hf:=xy hops ho'
  by_cases hki:i=k
  · subst hki
    rw[hi]at ho'
    cases ho'
    exact hf.own t hd' ht
  · obtain⟨o2,ho2,hv⟩:=h.uv k hk
    rw[ho']at ho2
    cases ho2
    rcases hf.look t hd' i o hi hki ht with h1|⟨h1,_⟩
    · have:=(ready_iff.1 hr).2.2 k h1
      exact((h.lst k (h.lab k (h.usub k hk)).1).1 this).2 hk
    · rw[hv]at h1;cases h1
theorem DInv.look(h:DInv c ops Oth M0 w0 listed Lab U A st M a w){i:Nat}{o:Oper}(hl:∀t∈o.looksAt ops,t∉jq ops U):∀t∈o.looksAt ops,(yc A (jq ops U)).t t=A.t t:=
  fun t ht=>ze2 (hl t ht)
theorem ysy(hops:zgz c ops=true):∀i j,j∈qv ops i->j<ops.size:=by
  intro i j hj
  cases hi:ops[i]? with
  |none=>unfold qv at hj;rw[hi]at hj;simp at hj
  | some o=>
    have:=(xy hops hi).lt j hj
    have h2:=(Array.getElem?_eq_some_iff.1 hi).1
    omega
theorem ycb(h:DInv c ops Oth M0 w0 listed Lab U A st M a w)(hops:zgz c ops=true){i:Nat}(hr:i∈Region.ready .any ops listed):
    ∀k,k<ops.size->(listed.setIfInBounds i true).getD k false=true->∀j∈qv ops k,(listed.setIfInBounds i true).getD j false=true:=by
  have mono:∀j,listed.getD j false=true->(listed.setIfInBounds i true).getD j false=true:=by
    intro j hj
    by_cases hji:i=j
    · subst hji
      have:i<listed.size:=by
        rw[h.lsz];exact(ready_iff.1 hr).2.1
      simp[this]
    · rw[getD_set_ne false hji];exact hj
  intro k hk hl j hj
  by_cases hki:i=k
  · subst hki;exact mono j ((ready_iff.1 hr).2.2 j hj)
  · rw[getD_set_ne false hki]at hl
    exact mono j (h.cls k hk hl j hj)
theorem DInv.pend(hI:zx P c.I)(hops:zgz c ops=true){K:Fr->Store->Prop}{fuel:Nat}(h:DInv c ops Oth M0 w0 listed Lab U A st M a w){i:Nat}(hr:i∈Region.ready .any ops listed)(hU:i∈U)
    (ih:∀(U':List Nat) (M':Nat->Nat->Prop) (a':Act) (w':World),DInv c ops Oth M0 w0 (listed.setIfInBounds i true) Lab U' A st M' a' w'->wpAny P .any ops (zf7 c Oth M0 w0 K) fuel (listed.setIfInBounds i true) a' w'):
    wpOp P ops (zf7 c Oth M0 w0 K) i (wpAny P .any ops (zf7 c Oth M0 w0 K) fuel (listed.setIfInBounds i true)) a w:=by
  obtain⟨o,d,hi,hd,hst⟩:=stands_iff.1 (h.std i hU)
  have hf:=xy hops hi
  have hclear:=h.clear hops hr hi
  have hlook:=h.look (i:=i) hclear
  have hilt:=(Array.getElem?_eq_some_iff.1 hi).1
  -- the frame behind it
  have next:∀(M':Nat->Nat->Prop) (a':Act) (w':World),Sim c.N Oth ((yc A (jq ops U)).put d (A.t d)) st M' a' w'->Chg M w M' w'->
      wpAny P .any ops (zf7 c Oth M0 w0 K) fuel (listed.setIfInBounds i true) a' w':=by
    rintro M' a' w' ⟨β,sim⟩ hchg
    refine ih (U.filter fun k=> !Nat.beq k i) M' a' w' ⟨by simp[h.lsz],fun j hj=>?_,fun j hj=>h.usub j (List.mem_filter.1 hj).1,h.lab,fun j hj=>h.uv j (List.mem_filter.1 hj).1,fun j hj=>h.std j (List.mem_filter.1 hj).1,⟨β,sim.weaken rfl fun t=>?_⟩,h.chg.trans hchg,ycb h hops hr⟩
    · by_cases hji:i=j
      · subst hji
        have:i<listed.size:=by rw[h.lsz];exact hilt
        simp[this,h.usub i hU]
      · rw[getD_set_ne false hji,h.lst j hj]
        simp[List.mem_filter,nbeq (Ne.symm hji)]
    · by_cases ht:t=d
      · subst ht
        left
        rw[ze2]
        · simp[Fr.put]
        · intro hm
          obtain⟨k,hk,o',ho',hd'⟩:=mem_dsts.1 hm
          have hki:k≠i:=by
            have:=(List.mem_filter.1 hk).2
            intro h;subst h;simp at this
          exact hf.one t hd k o' ho' hki hd'
      · by_cases hm:t∈jq ops (U.filter fun k=> !Nat.beq k i)
        · right;simp[yc,(mem_iff _ _).2 hm]
        · left
          have hm2:t∉jq ops U:=by
            intro h2
            obtain⟨k,hk,o',ho',hd'⟩:=mem_dsts.1 h2
            refine hm (mem_dsts.2 ⟨k,List.mem_filter.2 ⟨hk,?_⟩,o',ho',hd'⟩)
            by_cases hki:k=i
            · subst hki;rw[hi]at ho';cases ho';rw[hd]at hd';cases hd';exact absurd rfl ht
            · simp[nbeq hki]
          simp only[Fr.put,nbeq ht,cond_false]
          rw[ze2 hm,ze2 hm2]
  unfold Go.wpOp
  simp only[hi]
  rcases hst with⟨hg,hv⟩|⟨hg,hu⟩
  · have hg':wc ops o (yc A (jq ops U))=some true:=by rw[j3 hlook];exact hg
    rw[wk h.sim hg']
    simp only[if_true]
    refine .inl (Oper.wp_q (Oper.wp_mono ?_ (yct hI hd (hf.dlt d hd) (zhl (ev':=(yc A (jq ops U)).ev) (zmo hlook) hv) Oth M a w h.sim)))
    rintro a' w' ⟨A',st',M',⟨hA,hst⟩,hsim,hchg⟩
    subst hA hst
    exact next M' a' w' hsim hchg
  · have hg':wc ops o (yc A (jq ops U))=some false:=by rw[j3 hlook];exact hg
    rw[wk h.sim hg']
    simp only[Bool.false_eq_true,if_false]
    obtain⟨β,sim⟩:=h.sim
    refine next M _ w ⟨β,?_⟩ (Chg.refl M w)
    rw[hd,hu]
    exact sim.put (hf.dlt d hd) rfl
theorem DInv.eff(hI:zx P c.I)(hops:zgz c ops=true){K:Fr->Store->Prop}{fuel:Nat}(h:DInv c ops Oth M0 w0 listed Lab U A st M a w){i:Nat}(hr:i∈Region.ready .any ops listed){chk:List Nat}{r:Sched}
    (he:yb0 c ops i chk Lab=true) (hv:ybz P c ops K i chk r A st)
    (ih:∀(A':Fr) (st':Store) (M':Nat->Nat->Prop) (a':Act) (w':World),vcDr P c ops K r A' st'->DInv c ops Oth M0 w0 (listed.setIfInBounds i true) (i::Lab) U A' st' M' a' w'->wpAny P .any ops (zf7 c Oth M0 w0 K) fuel (listed.setIfInBounds i true) a' w'):
    wpOp P ops (zf7 c Oth M0 w0 K) i (wpAny P .any ops (zf7 c Oth M0 w0 K) fuel (listed.setIfInBounds i true)) a w:=by
  obtain⟨o,hi,hv⟩:=zf hv
  have hf:=xy hops hi
  have hclear:=h.clear hops hr hi
  have hlook:=h.look (i:=i) hclear
  have hilt:=(Array.getElem?_eq_some_iff.1 hi).1
  simp only[yb0,hi,Bool.and_eq_true,Bool.not_eq_true',List.all_eq_true]at he
  obtain⟨⟨⟨⟨hnL,_⟩,hdeps⟩,hnV⟩,hL⟩:=he
  have hiL:i∉Lab:=fun hm=>by rw[(mem_iff _ _).2 hm]at hnL;cases hnL
  have hiU:i∉U:=fun hm=>hiL (h.usub i hm)
  have hdD:∀d,o.dst=some d->d∉jq ops U:=by
    intro d hd hm
    obtain⟨k,hk,o',ho',hd'⟩:=mem_dsts.1 hm
    exact hf.one d hd k o' ho' (fun h=>hiU (h▸hk)) hd'
  have hdl:∀j∈qv ops i,j∈Lab/\j∉U:=fun j hj=>by
    have h1:=(ready_iff.1 hr).2.2 j hj
    have hlt:j<ops.size:=by
      have:=hf.lt j hj;omega
    exact(h.lst j hlt).1 h1
  have hkr:∀k∈U,k∉zzh ops i:=fun k hk hm=>by
    have h1:=zof h.cls (ysy hops) (ready_iff.1 hr).2.2 k hm
    exact((h.lst k (h.lab k (h.usub k hk)).1).1 h1).2 hk
  -- what follows
  have next:∀(A':Fr) (st':Store) (M':Nat->Nat->Prop) (a':Act) (w':World),wx c ops A' st' chk->vcDr P c ops K r A' st'->Kept o A A'->((∃k,A'=A.put k .und/\o.dst=some k/\st'=st)\/A'=A/\st'=st\/True)->Sim c.N Oth (yc A' (jq ops U)) st' M' a' w'->Chg M w M' w'->
      (∀k∈U,k∉chk->∀o',ops[k]?=some o'->∀t,o.dst≠some t->A'.t t=A.t t)->
      wpAny P .any ops (zf7 c Oth M0 w0 K) fuel (listed.setIfInBounds i true) a' w':=by
    intro A' st' M' a' w' hchk hvc hkept _ hsim hchg hk2
    refine ih A' st' M' a' w' hvc ⟨by simp[h.lsz],fun j hj=>?_,fun j hj=>List.mem_cons_of_mem _ (h.usub j hj),fun j hj=>?_,h.uv,fun k hk=>?_,hsim,h.chg.trans hchg,ycb h hops hr⟩
    · by_cases hji:i=j
      · subst hji
        have:i<listed.size:=by rw[h.lsz];exact hilt
        simp[this,hiU]
      · rw[getD_set_ne false hji,h.lst j hj]
        simp[Ne.symm hji]
    · rcases List.mem_cons.1 hj with rfl|hj
      · exact⟨hilt,fun k hk=>List.mem_cons_of_mem _ (hdl k hk).1⟩
      · exact⟨(h.lab j hj).1,fun k hk=>List.mem_cons_of_mem _ ((h.lab j hj).2 k hk)⟩
    · by_cases hkc:k∈chk
      · exact zlz hchk k hkc
      · obtain⟨o',ho',hV⟩:=h.uv k hk
        have hk3:=hk2 k hk hkc o' ho'
        have hki:k≠i:=fun h=>hiU (h▸hk)
        have hkd:k∉qv ops i:=fun hd=>(hdl k hd).2 hk
        have h4:=hL k (h.usub k hk)
        have m1:mem k (zzh ops i)=false:=kl (hkr k hk)
        have m2:mem k chk=false:=kl hkc
        rw[ho']at h4
        simp only[m1,m2,Bool.false_or,Bool.or_eq_true,Bool.not_eq_true',Bool.and_eq_true,hV,Bool.true_eq_false,false_or]at h4
        refine zge ho' (h.std k hk) (fun t ht=>hk3 t fun hd=>?_) (fun d hd=>hk3 d fun hd2=>hf.one d hd2 k o' ho' hki hd) (.inr h4.1)
        rcases hf.look t hd k o' ho' hki ht with h5|⟨_,h5⟩
        · exact hiL ((h.lab k (h.usub k hk)).2 i h5)
        · exact hkd h5
  have hkept:∀(A':Fr),Kept o A A'->∀k∈U,k∉chk->∀o',ops[k]?=some o'->∀t,o.dst≠some t->A'.t t=A.t t:=by
    intro A' hK k hk hkc o' ho' t ht
    obtain⟨o2,ho2,hV⟩:=h.uv k hk
    rw[ho']at ho2
    cases ho2
    have hkd:k∉qv ops i:=fun hd=>(hdl k hd).2 hk
    have h4:=hL k (h.usub k hk)
    have m1:mem k (zzh ops i)=false:=kl (hkr k hk)
    have m2:mem k chk=false:=kl hkc
    rw[ho']at h4
    simp only[m1,m2,Bool.false_or,Bool.or_eq_true,Bool.not_eq_true',Bool.and_eq_true,hV,Bool.true_eq_false,false_or]at h4
    refine hK ?_ t ht
    have h5:=h4.2
    revert h5
    cases o.op<;>simp
  unfold Go.wpOp
  simp only[hi]
  rcases guardK_iff.1 hv with⟨hg,hv⟩|⟨hg,hv⟩
  · have hg':wc ops o (yc A (jq ops U))=some true:=by rw[j3 hlook];exact hg
    rw[wk h.sim hg']
    simp only[if_true]
    have hF:=zqn (D:=jq ops U) hI hv (fun x hx t ht=>hclear t (yaq (by rw[<-ht];exact hx))) hdD
    refine .inl (Oper.wp_q (Oper.wp_mono ?_ (zqf hI hF Oth M a w h.sim)))
    rintro a' w' ⟨B',st',M',⟨A',⟨hchk,hvc⟩,hB,hkp⟩,hsim,hchg⟩
    subst hB
    exact next A' st' M' a' w' hchk hvc hkp (.inr (.inr trivial)) hsim hchg (hkept A' hkp)
  · have hg':wc ops o (yc A (jq ops U))=some false:=by rw[j3 hlook];exact hg
    rw[wk h.sim hg']
    simp only[Bool.false_eq_true,if_false]
    obtain⟨β,sim⟩:=h.sim
    unfold putO at hv
    cases hd:o.dst with
    | none=>
      rw[hd]at hv
      exact next A st M _ w hv.1 hv.2 zir (.inr (.inr trivial)) ⟨β,sim⟩ (Chg.refl M w) (fun _ _ _ _ _ _ _=>rfl)
    | some d=>
      rw[hd]at hv
      obtain⟨hlt,hv⟩:=xp hv
      refine next (A.put d .und) st M _ w hv.1 hv.2 (zbr hd) (.inr (.inr trivial)) ⟨β,?_⟩ (Chg.refl M w) (fun _ _ _ _ _ t ht=>by
        have:t≠d:=fun h=>ht (by rw[h];exact hd)
        simp[Fr.put,nbeq this])
      rw[<-jf (hdD d hd)]
      exact sim.put hlt rfl
theorem DInv.move(hI:zx P c.I)(hops:zgz c ops=true){K:Fr->Store->Prop}(h:DInv c ops Oth M0 w0 listed Lab U A st M a w){j:Nat}{r:Sched}(hs:qs c ops (.v j r) Lab true=true)(hv:vcDr P c ops K (.v j r) A st):
    ∃A',qs c ops r (j::Lab) true=true/\vcDr P c ops K r A' st/\DInv c ops Oth M0 w0 listed (j::Lab) (j::U) A' st M a w:=by
  simp only[qs,Bool.and_eq_true,Bool.not_eq_true',true_and]at hs
  obtain⟨⟨⟨⟨hn,hlt⟩,hV⟩,hdep⟩,hs⟩:=hs
  have hjL:j∉Lab:=fun hm=>by rw[(mem_iff _ _).2 hm]at hn;cases hn
  have hlt:j<ops.size:=Nat.le_of_ble_eq_true hlt
  obtain⟨o,hi,hv⟩:=zf hv
  obtain⟨d,hd,hv⟩:=zf hv
  rw[hi]at hV
  replace hV:isV c o=true:=hV
  have hf:=xy hops hi
  have hdl:∀k∈qv ops j,k∈Lab:=fun k hk=>(mem_iff _ _).1 (List.all_eq_true.1 hdep k hk)
  have key:∀x,vcDr P c ops K r (A.put d x) st->((wc ops o A=some true/\vcW c A.ev A.bx st d o.op fun y=>y=x)\/(wc ops o A=some false/\x=.und))->
      ∃A',qs c ops r (j::Lab) true=true/\vcDr P c ops K r A' st/\DInv c ops Oth M0 w0 listed (j::Lab) (j::U) A' st M a w:=by
    intro x hx hst
    have hout:∀t,t≠d->(A.put d x).t t=A.t t:=fun t ht=>by simp[Fr.put,nbeq ht]
    refine⟨A.put d x,hs,hx,h.lsz,fun k hk=>?_,fun k hk=>?_,fun k hk=>?_,fun k hk=>?_,fun k hk=>?_,?_,h.chg,h.cls⟩
    · rw[h.lst k hk]
      by_cases hkj:k=j
      · subst hkj;simp[hjL]
      · simp[hkj]
    · rcases List.mem_cons.1 hk with rfl|hk
      · exact List.mem_cons_self
      · exact List.mem_cons_of_mem _ (h.usub k hk)
    · rcases List.mem_cons.1 hk with rfl|hk
      · exact⟨hlt,fun k hk=>List.mem_cons_of_mem _ (hdl k hk)⟩
      · exact⟨(h.lab k hk).1,fun k' hk'=>List.mem_cons_of_mem _ ((h.lab k hk).2 k' hk')⟩
    · rcases List.mem_cons.1 hk with rfl|hk
      · exact⟨o,hi,hV⟩
      · exact h.uv k hk
    · rcases List.mem_cons.1 hk with rfl|hk
      · have hl:∀t∈o.looksAt ops,(A.put d x).t t=A.t t:=fun t ht=>hout t fun hh=>hf.own d hd (hh▸ht)
        refine stands_iff.2 ⟨o,d,hi,hd,?_⟩
        rw[j3 hl,show(A.put d x).t d=x by simp[Fr.put]]
        exact hst.imp (fun h=>⟨h.1,zhl (ev':=(A.put d x).ev) (zmo hl) h.2⟩) id
      · obtain⟨o',ho',hV'⟩:=h.uv k hk
        have hkj:k≠j:=fun hh=>hjL (hh▸h.usub k hk)
        refine zge ho' (h.std k hk) (fun t ht=>hout t fun hh=>?_) (fun d' hd'=>hout d' fun hh=>hf.one d hd k o' ho' hkj (hh▸hd')) (.inl ⟨rfl,rfl⟩)
        subst hh
        rcases hf.look t hd k o' ho' hkj ht with h5|⟨h5,_⟩
        · exact hjL ((h.lab k (h.usub k hk)).2 j h5)
        · rw[hV]at h5;cases h5
    · obtain⟨β,sim⟩:=h.sim
      refine⟨β,sim.weaken rfl fun t=>?_⟩
      have hds:jq ops (j::U)=d::jq ops U:=by simp[jq,hi,hd]
      rw[hds]
      by_cases ht:t=d
      · subst ht;right;simp[yc,mem]
      · by_cases hm:t∈jq ops U
        · right;simp[yc,mem,nbeq ht,(mem_iff _ _).2 hm]
        · left;simp[yc,mem,nbeq ht,kl hm,Fr.put]
  rcases guardK_iff.1 hv with⟨hg,hv⟩|⟨hg,hv⟩
  · have:∃x,vcDr P c ops K r (A.put d x) st/\vcW c A.ev A.bx st d o.op fun y=>y=x:=yc6 hI hv
    obtain⟨x,h1,h2⟩:=this
    exact key x h1 (.inl ⟨hg,h2⟩)
  · exact key .und hv (.inr ⟨hg,rfl⟩)
end
theorem yb1(hI:zx P c.I)(hops:zgz c ops=true){K:Fr->Store->Prop}{fuel:Nat}
    (ih:∀(S:Sched) (listed:Array Bool) (Lab U:List Nat) (A:Fr) (st:Store) (M:Nat->Nat->Prop) (a:Act) (w:World),qs c ops S Lab true=true->vcDr P c ops K S A st->DInv c ops Oth M0 w0 listed Lab U A st M a w->left ops listed=fuel->
      wpAny P .any ops (zf7 c Oth M0 w0 K) fuel listed a w) {listed:Array Bool} {M:Nat->Nat->Prop} {a:Act} {w:World} {st:Store} (hl:left ops listed=fuel+1) {i:Nat} (hr:i∈Region.ready .any ops listed):
    ∀ (S:Sched) (Lab U:List Nat) (A:Fr),qs c ops S Lab true=true->vcDr P c ops K S A st->DInv c ops Oth M0 w0 listed Lab U A st M a w->
      wpOp P ops (zf7 c Oth M0 w0 K) i (wpAny P .any ops (zf7 c Oth M0 w0 K) fuel (listed.setIfInBounds i true)) a w:=by
  obtain⟨hun,hilt,hdeps⟩:=ready_iff.1 hr
  intro S
  induction S with
  | done=>
    intro Lab U A hs hv h
    by_cases hU:i∈U
    · exact h.pend hI hops hr hU fun U' M' a' w' h'=>ih .done _ _ _ _ _ _ _ _ hs hv h' (by have:=zg9 h.lsz hilt hun;omega)
    · simp only[qs,Bool.true_and]at hs
      exact absurd ⟨(mem_iff _ _).1 (all_range.1 hs i hilt),hU⟩ ((h.listed_iff hilt).1 hun)
  |stop=>intro Lab U A hs;simp[qs]at hs
  | v j r ihr=>
    intro Lab U A hs hv h
    by_cases hU:i∈U
    · exact h.pend hI hops hr hU fun U' M' a' w' h'=>ih (.v j r) _ _ _ _ _ _ _ _ hs hv h' (by have:=zg9 h.lsz hilt hun;omega)
    · obtain⟨A',h1,h2,h3⟩:=h.move hI hops hs hv
      exact ihr _ _ A' h1 h2 h3
  | e j chk r alt _ _=>
    intro Lab U A hs hv h
    by_cases hU:i∈U
    · exact h.pend hI hops hr hU fun U' M' a' w' h'=>ih (.e j chk r alt) _ _ _ _ _ _ _ _ hs hv h' (by have:=zg9 h.lsz hilt hun;omega)
    · have hiL:i∉Lab:=fun hm=>(h.listed_iff hilt).1 hun ⟨hm,hU⟩
      have hin:i∈zqg (.e j chk r alt):=by
        have hs2:=hs
        simp only[qs,Bool.and_eq_true,Bool.not_true,Bool.false_or]at hs2
        have h1:=all_range.1 hs2.2 i hilt
        simp only[Bool.or_eq_true,Bool.not_eq_true',kl hiL,Bool.false_eq_true,false_or]at h1
        rcases h1 with h1|h1
        · have:sub (qv ops i) Lab=true:=by
            unfold sub
            rw[List.all_eq_true]
            intro k hk
            have hlt:k<ops.size:=by
              have:=(xy hops (Array.getElem?_eq_getElem hilt)).lt k hk
              omega
            exact(mem_iff _ _).2 ((h.lst k hlt).1 (hdeps k hk)).1
          rw[this]at h1;cases h1
        · exact(mem_iff _ _).1 h1
      obtain⟨chk',r',h1,h2,h3⟩:=ynt _ true hs hv hin
      exact h.eff hI hops hr h1 h3 fun A' st' M' a' w' h4 h5=>ih r' _ _ _ _ _ _ _ _ h2 h4 h5 (by have:=zg9 h.lsz hilt hun;omega)
theorem ynb(hI:zx P c.I)(hops:zgz c ops=true){K:Fr->Store->Prop}:∀(fuel:Nat) (S:Sched) (listed:Array Bool) (Lab U:List Nat) (A:Fr) (st:Store) (M:Nat->Nat->Prop) (a:Act) (w:World),qs c ops S Lab true=true->vcDr P c ops K S A st->DInv c ops Oth M0 w0 listed Lab U A st M a w->left ops listed=fuel->
      wpAny P .any ops (zf7 c Oth M0 w0 K) fuel listed a w:=by
  intro fuel
  induction fuel with
  | zero=>
    intro S listed Lab U A st M a w hs hv h hl
    refine⟨?_,h.done hops hs hv hl⟩
    cases hr:Region.ready .any ops listed with
    |nil=>rfl
    | cons i rs=>
      have hi:i∈Region.ready .any ops listed:=by rw[hr];exact List.mem_cons_self
      obtain⟨h1,h2,_⟩:=ready_iff.1 hi
      rw[zoy hl h2]at h1
      cases h1
  | succ fuel ih=>
    intro S listed Lab U A st M a w hs hv h hl
    refine⟨fun hr=>absurd hr (h.ready_ne hops hl),fun i hi=>yb1 hI hops ih hl hi S Lab U A hs hv h⟩
theorem yc1{ops:Array Oper}(hd:∀(i:Nat) (o:Oper),ops[i]?=some o->∀cl,o.op≠.defer cl){Q:Exit->Act->World->Prop}{i:Nat}{K K':Act->World->Prop}{a:Act}{w:World}(hk:∀a w,K a w->K' a w)(h:wpOp P ops Q i K a w)(hn:∀e a w,e≠.normal->¬Q e a w):wpOpIn c.F 0 P ops Q i K' a w:=by
  unfold wpOp at h
  unfold wpOpIn
  split
  · rename_i hi;simp only[hi]at h;exact hk _ _ h
  · rename_i o hi
    simp only[hi]at h
    split
    · rename_i hw
      simp only[hw,if_true]at h
      rcases h with h|⟨_,a1,w1,h⟩
      · exact zlo hk hn (Oper.wpIn_F (hd i o hi) h)
      · exact(hn _ _ _ (by simp) h).elim
    · rename_i hw
      simp only[hw]at h
      exact⟨fun _ _=>Tv,hk _ _ h⟩
theorem zxy{ops:Array Oper}(hd:∀(i:Nat) (o:Oper),ops[i]?=some o->∀cl,o.op≠.defer cl){Q:Exit->Act->World->Prop}(hn:∀e a w,e≠.normal->¬Q e a w){md:Region.Mode}:∀(fuel:Nat) (listed:Array Bool) (a:Act) (w:World),wpAny P md ops Q fuel listed a w->wpAnyIn c.F 0 P md ops Q fuel listed a w:=by
  intro fuel
  induction fuel with
  |zero=>intro listed a w h;exact h
  |succ fuel ih=>intro listed a w h;exact⟨h.1,fun i hi=>yc1 hd (fun a w h=>ih _ a w h) (h.2 i hi) hn⟩
theorem ADraw.of_sched(hI:zx P c.I)(hm:P.follows .mixedOrders=true)(hops:zgz c ops=true){K:Fr->Store->Prop}{A:Fr}{st:Store}(S:Sched)(hs:qs c ops S [] true=true)(hv:vcDr P c ops K S A st):ADraw P c ops K A st:=by
  refine⟨fun id=>⟨fun Oth M a w sim=>wpIn_region_any hm (zxy (fun i o hi=>(xy hops hi).nd) ?_ _ _ _ _ ?_)⟩⟩
  · rintro e a' w' hne ⟨A',st',M',h,_⟩
    cases e<;>first|exact hne rfl|exact h
  obtain⟨β,sim⟩:=sim
  have g:=Grow.drew w
  have hinv:DInv c ops Oth M w (Array.replicate ops.size false) [] [] A st M a w.drew:=
    ⟨by simp,fun i hi=>by simp[hi],fun i h=>(by cases h),fun i h=>(by cases h),fun i h=>(by cases h),fun i h=>(by cases h),⟨β,sim.grow g⟩,g.chg M,fun i hi hl=>by simp[hi]at hl⟩
  have hl:left ops (Array.replicate ops.size false)=ops.size:=by
    unfold left
    have:(List.range ops.size).countP (fun i=> !(Array.replicate ops.size false).getD i true)=(List.range ops.size).length:=by
      rw[List.countP_eq_length]
      intro i hi
      simp[List.mem_range.1 hi]
    rw[this,List.length_range]
  exact ynb hI hops ops.size S _ [] [] A st M a w.drew hs hv hinv hl
theorem Qc(hI:zx P c.I){K:Fr->Store->Prop}{A:Fr}{st:Store}(S:Sched)(hv:vcDr P c ops K S A st)(hm:P.follows .mixedOrders=true:=by rfl)(hops:zgz c ops=true:=by rfl)(hs:qs c ops S [] true=true:=by rfl):ADraw P c ops K A st:=ADraw.of_sched hI hm hops S hs hv
end
end Go.V
namespace Go.V
theorem ret{x:AV}{st:Store}{R:AV->Store->Prop}(h:R x st):∃r st',AV.le x r/\st.Has st'/\R r st':=⟨x,st,Tt,Store.Has.refl _,h⟩
theorem kx{x r:AV}{st st':Store}{R:AV->Store->Prop}(h:AV.le x r)(k:st.Has st')(q:R r st'):∃r st',AV.le x r/\st.Has st'/\R r st':=⟨r,st',h,k,q⟩
theorem optR{α:Type}{x:α}{K:α->Prop}(h:K x):optK (some x) K:=h
theorem bcd{c:Prop}[Decidable c]{p q:Prop}(h:c->p)(h':¬c->q):zfd (decide c) p q:=ze (fun e=>h (of_decide_eq_true e)) (fun e=>h' (of_decide_eq_false e))
theorem bceq{a b:Int}{p q:Prop}(h:a=b->p)(h':a≠b->q):zfd (a==b) p q:=ze (fun e=>h (eq_of_beq e)) (fun e=>h' (ne_of_beq_false e))
theorem bcne{a b:Int}{p q:Prop}(h:a≠b->p)(h':a=b->q):zfd (a != b) p q:=by
  refine ze (fun e=>h ?_) (fun e=>h' ?_)<;>simpa using e
theorem yo{b:Bool}{p q:Prop}(h:zfd b q p):zfd (!b) p q:=by cases b<;>exact h
theorem in64{v:Int}{K:Prop}(h:-9223372036854775808<=v/\v<=9223372036854775807)(k:K):yq v/\K:=⟨h,k⟩
theorem Qd{v:Int}{K:Prop}(k:K)(h:-9223372036854775808<=v/\v<=9223372036854775807:=by omega):yq v/\K:=⟨h,k⟩
end Go.V
namespace Go.V
theorem Fresh.ne_obj{st:Store}{b p:Nat}{x:AObj}(h:Fresh st b)(hp:st.obj p=some x):b≠p:=fun e=>by rw[<-e,h.1]at hp;cases hp
theorem zb(st:Store)(p:Nat)(x:AObj):(st.setObj p x).obj p=some x:=by simp[Store.setObj]
theorem zd{st:Store}{p b:Nat}{x:AObj}(h:b≠p):(st.setObj p x).obj b=st.obj b:=by simp[Store.setObj,nbeq h]
theorem zyv{st:Store}{p b:Nat}{x:Option Nat}(h:b≠p):(st.setTok p x).tok b=st.tok b:=by simp[Store.setTok,nbeq h]
theorem zg(st:Store)(p:Nat)(x y:AObj):(st.setObj p x).setObj p y=st.setObj p y:=by
  unfold Store.setObj
  congr
  funext i
  by_cases hi:i=p
  · subst hi;simp
  · simp[nbeq hi]
theorem zpk{st:Store}{p b:Nat}{x:AObj}(h:Fresh st b)(hn:b≠p):Fresh (st.setObj p x) b:=⟨by rw[zd hn];exact h.1,h.2⟩
theorem zei(st:Store)(p b:Nat)(x:AObj)(y:Option Nat):(st.setTok b y).setObj p x=(st.setObj p x).setTok b y:=rfl
theorem App.setObj{k:Nat}{st st':Store}{v:AV}{rows:List (List AV)}{p:Nat}{x y:AObj}(h:App k (st.setObj p x) v rows st'):App k (st.setObj p y) v rows (st'.setObj p y):=by
  rcases h with⟨h1,h2,rfl⟩|⟨h1,h2,rfl⟩|⟨h1,b,hb,h2,rfl⟩
  · rw[zg];exact .inl ⟨h1,h2,rfl⟩
  · rw[zg];exact .inr (.inl ⟨h1,h2,rfl⟩)
  · have hne:b≠p:=fun e=>by have:=hb.1;rw[e,zb]at this;cases this
    refine .inr (.inr ⟨h1,b,?_,h2,?_⟩)
    · exact⟨by rw[zd hne];have:=hb.1;rwa [zd hne]at this,hb.2⟩
    · rw[zei,zg]
theorem App.fresh{k:Nat}{st st':Store}{v:AV}{rows:List (List AV)}{p:Nat}(h:App k st v rows st')(hp:Fresh st' p):st.obj p=none:=by
  cases ho:st.obj p with
  |none=>rfl
  |some x=>have:=h.has.obj p x ho;rw[hp.1]at this;cases this
theorem qi{st:Store}{p:Nat}{x:AObj}(h:st.obj p=none):(st.setObj p x).Has st:=
  ⟨fun b y hb=>by
    have:b≠p:=fun e=>by rw[e,h]at hb;cases hb
    rw[zd this];exact hb,fun _ _ h=>h⟩
theorem App.obj{k:Nat}{st st':Store}{v:AV}{rows:List (List AV)}(h:App k st v rows st')(p:Nat):st'.obj p=st.obj p:=by
  rcases h with⟨_,_,rfl⟩|⟨_,_,rfl⟩|⟨_,_,_,_,rfl⟩<;>rfl
theorem App.read{k:Nat}{st st':Store}{v:AV}{rows:List (List AV)}{p:Nat}{x:AObj}(h:App k (st.setObj p x) v rows st'):st'.obj p=some x:=by rw[h.obj,zb]
theorem App.src{k:Nat}{st st':Store}{v:AV}{rows:List (List AV)}(h:App k st v rows st'):xc k (.av v)=some rows:=by
  rcases h with⟨rfl,rfl,_⟩|⟨rfl,rfl,_⟩|⟨_,b,_,rfl,_⟩
  · rfl
  · rfl
  · simp[xc]
theorem App.split{k:Nat}{st st':Store}{v:AV}{rows:List (List AV)}{p:Nat}{x:AObj}(h:App k (st.setObj p x) v rows st'):∃st1:Store,st'=st1.setObj p x/\st1.Has st/\∀y,App k (st.setObj p y) v rows (st1.setObj p y):=by
  rcases h with⟨h1,h2,rfl⟩|⟨h1,h2,rfl⟩|⟨h1,b,hb,h2,rfl⟩
  · exact⟨st,rfl,Store.Has.refl _,fun y=>.inl ⟨h1,h2,rfl⟩⟩
  · exact⟨st,rfl,Store.Has.refl _,fun y=>.inr (.inl ⟨h1,h2,rfl⟩)⟩
  · have hne:b≠p:=fun e=>by have:=hb.1;rw[e,zb]at this;cases this
    have hf:Fresh st b:=⟨by have:=hb.1;rwa [zd hne]at this,hb.2⟩
    refine⟨st.setTok b (some (rows.length*k)),(zei _ _ _ _ _).symm,⟨fun _ _ h=>h,fun i y hi=>?_⟩,fun y=>.inr (.inr ⟨h1,b,zpk hf hne,h2,rfl⟩)⟩
    have:i≠b:=fun e=>by rw[e,hf.2]at hi;cases hi
    rw[zyv this];exact hi
theorem ACalls.drop{P:Program}{f:FuncId}{xs:List AV}{st st':Store}{R:AV->Store->Prop}(h:st.Has st')(hc:ACalls P f xs st' R):ACalls P f xs st R:=by
  refine⟨fun Oth M w vs sto hr=>?_⟩
  have h1:=hc.out Oth M w vs (sto.weaken h) hr
  have k:∀v w',zu st' R Oth M w v w'->zu st R Oth M w v w':=fun v w' ⟨r,st1,M',h1,h2,h3,h4⟩=>⟨r,st1,M',h1,h2,h3,h4⟩
  generalize(callFunc f vs).run P w=res at h1
  cases res with
  | ok n w'=>
    cases n with
    |enter g args=>exact Calls.mono h1 fun e w'' ⟨v,he,hv⟩=>⟨v,he,k _ _ hv⟩
    |value v=>exact k _ _ h1
    |_=>exact h1
  |_=>exact h1
theorem App.cells{k:Nat}{st st':Store}{v:AV}{rows:List (List AV)}(h:App k st v rows st'):cellsOf v=some [v]:=by
  rcases h with⟨rfl,rfl,_⟩|⟨rfl,rfl,_⟩|⟨_,b,_,rfl,_⟩<;>rfl
theorem App.lst{k:Nat}{st st':Store}{v:AV}{rows:List (List AV)}(h:App k st v rows st')(hne:rows≠[]):∃b,v=.lst k rows (some b):=by
  rcases h with⟨_,h,_⟩|⟨_,h,_⟩|⟨_,b,_,h,_⟩
  · exact absurd h hne
  · exact absurd h hne
  · exact⟨b,h⟩
theorem App.one{k:Nat}{st st':Store}{v:AV}{rows:List (List AV)}(h:App k st v rows st'):v.one=true:=by
  rcases h with⟨rfl,rfl,_⟩|⟨rfl,rfl,_⟩|⟨_,b,_,rfl,_⟩<;>rfl
theorem wq{i:TI}{A:Fr}{st:Store}{b o:Nat}{v:AV}{l:List AV}{K:Fr->Store->Prop}(hc:cellsOf v=some [v])(h1:v.one=true)(hi:i.size=1)(ho:st.obj b=some (.cells l))(hl:o+1<=l.length)
    (hk:K A (st.setObj b (.cells (zo l o [v])))):zef i A st (.av (.s (.pointer (some ⟨b,o,none⟩)))) v K:=by
  unfold zef
  rw[hc]
  show(bif Nat.beq 1 i.size&&([v].all AV.one)then _ else False)
  rw[hi]
  simp only[List.all_cons,h1,List.all_nil,Nat.beq_refl,Bool.and_self,cond_true]
  rw[ho]
  exact⟨hl,jb hk⟩
theorem zh{i:TI}{A:Fr}{st st2:Store}{b o:Nat}{v:AV}{l:List AV}{K:Fr->Store->Prop}(hc:cellsOf v=some [v])(h1:v.one=true)(hi:i.size=1)(ho:st.obj b=some (.cells l))(hl:o+1<=l.length)
    (he:st.setObj b (.cells (zo l o [v]))=st2) (hk:K A st2):zef i A st (.av (.s (.pointer (some ⟨b,o,none⟩)))) v K:=
  wq hc h1 hi ho hl (he▸hk)
theorem jt{st:Store}{p q:Nat}{x y:AObj}(h:q≠p):(st.setObj p x).setObj q y=(st.setObj q y).setObj p x:=by
  unfold Store.setObj
  congr
  funext i
  by_cases hi:i=p
  · subst hi;simp[nbeq (Ne.symm h)]
  · simp[nbeq hi]
end Go.V
namespace Go.V
def u8(b:UInt8):AV:=.s (.int .u8 b.toNat)
def int(n:Int):AV:=.s (.int .i64 n)
def u64(n:Int):AV:=.s (.int .u64 n)
def bool(b:Bool):AV:=.s (.bool b)
def nil:AV:=.s (.slice none 0 0)
def rws{α:Type}(f:α->List AV)(l:List α):List (List AV):=l.map f
def lst{α:Type}(k:Nat)(f:α->List AV)(l:List α):AV:=.lst k (rws f l) none
section
variable {α:Type} {f:α->List AV}
theorem zk(l:List α):(rws f l).length=l.length:=by simp[rws]
theorem zj{l:List α}{i:Nat}(h:i<l.length):(rws f l)[i]?=some (f l[i]):=by simp[rws,h]
theorem zl5{l:List α}{i:Nat}(h:i<l.length):rws f (l.take i)++[f l[i]]=rws f (l.take (i+1)):=by
 unfold rws;rw[List.take_succ_eq_append_getElem h,List.map_append];rfl
theorem zy3(a b:List α):rws f a++rws f b=rws f (a++b):=by simp[rws]
theorem xk{l:List α}{i:Nat}(h:decide ((i:Int)<((rws f l).length:Int))=true):i<l.length:=by
 rw[zk]at h;simpa using h
theorem ja{l:List α}{i:Nat}(h:decide ((i:Int)<((rws f l).length:Int))=false)(h2:i<=l.length):i=l.length:=by
 rw[zk]at h;simp at h;omega
theorem yae{l m:List α}(h:(((rws f l).length:Int) != ((rws f m).length:Int))=true):l.length≠m.length:=by
 rw[zk,zk]at h;simp at h;omega
theorem zps{l m:List α}(h:(((rws f l).length:Int) != ((rws f m).length:Int))=false):l.length=m.length:=by
 rw[zk,zk]at h;simp at h;omega
end
def u8C(b:UInt8):List AV:=[u8 b]
def intC(n:Int):List AV:=[int n]
def byts(l:List UInt8):AV:=lst 1 u8C l
def ints(l:List Int):AV:=lst 1 intC l
theorem isF{R:AV->Store->Prop}{b:Bool}{st:Store}(h:R (bool b) st)(hb:b=false):R (bool false) st:=by rw[hb]at h;exact h
theorem isT{R:AV->Store->Prop}{b:Bool}{st:Store}(h:R (bool b) st)(hb:b=true):R (bool true) st:=by rw[hb]at h;exact h
structure Gnd where
 W:Int
 H:Int
 T:List UInt8
 deriving DecidableEq
structure Cmd where
 P:Int
 S:Int
 K:Int
 N:Int
 U:List Int
 T:Int
 W:Int
 H:Int
 X:Int
 Y:Int
 deriving DecidableEq
structure Frm where
 turn:Int
 C:List Cmd
 hash:Int
 deriving DecidableEq
structure Rep where
 P:Int
 G:Gnd
 F:List Frm
 deriving DecidableEq
def gndC(g:Gnd):List AV:=[int g.W,int g.H,byts g.T]
def Cmd.fits(c:Cmd):Prop:=c.U.length<=1000000000000
def Frm.fits(f:Frm):Prop:=f.C.length<=1000000000000/\∀c∈f.C,c.fits
def Gnd.fits(g:Gnd):Prop:=g.T.length<=1000000000000
def Rep.fits(r:Rep):Prop:=r.G.fits/\r.F.length<=1000000000000/\∀f∈r.F,f.fits
def gndP(g:Gnd):Prop:=(1<=g.W/\g.W<=128)/\(1<=g.H/\g.H<=128)/\(g.T.length:Int)=g.W*g.H/\∀t∈g.T,t.toNat<=5
def xx(x y:Int):Prop:=(-1099511627776<=x/\x<=1099511627776)/\(-1099511627776<=y/\y<=1099511627776)
def Cmd.only(c:Cmd):Cmd:=
 if c.K=1 then⟨c.P,c.S,c.K,c.N,[],0,0,0,c.X,c.Y⟩else
 if c.K=2 then⟨c.P,c.S,c.K,0,c.U,c.T,0,0,0,0⟩else
 if c.K=3 then⟨c.P,c.S,c.K,0,c.U,0,0,0,0,0⟩else
 if c.K=4 then⟨c.P,c.S,c.K,0,[],c.T,c.W,c.H,0,0⟩else
 if c.K=5 then⟨c.P,c.S,c.K,c.N,[],0,0,0,0,0⟩else
 if c.K=6 then⟨c.P,c.S,c.K,c.N,c.U,0,0,0,0,0⟩else
 if c.K=7 then⟨c.P,c.S,c.K,c.N,[],c.T,0,0,0,0⟩else
 ⟨c.P,c.S,c.K,0,[],0,0,0,0,0⟩
def leL:List AV->List AV->Prop
 |[],[]=>True
 |x::xs,y::ys=>AV.le x y/\leL xs ys
 |_,_=>False
theorem zmd:∀{xs ys:List AV},leL xs ys->xs.length=ys.length/\∀(i:Nat) (x y:AV),xs[i]?=some x->ys[i]?=some y->AV.le x y:=by
 intro xs
 induction xs with
 |nil=>
  intro ys h
  cases ys with
  |nil=>exact⟨rfl,fun i x y h=>by simp at h⟩
  |cons y ys=>exact h.elim
 |cons x xs ih=>
  intro ys h
  cases ys with
  |nil=>exact h.elim
  |cons y ys=>
   obtain⟨h1,h2⟩:=ih h.2
   refine⟨by simp[h1],fun i u v hu hv=>?_⟩
   cases i with
   |zero=>simp at hu hv;subst hu hv;exact h.1
   |succ i=>exact h2 i u v (by simpa using hu) (by simpa using hv)
theorem AV.le_aggL{xs ys:List AV}(h:leL xs ys):AV.le (.agg xs) (.agg ys):=AV.le_agg (zmd h).1 (zmd h).2
theorem zzg{w:World}{T:Nat->Nat->Prop}{xs ys:List AV}{vs:List Value}(h:leL xs ys)(hr:Reads w T xs vs):Reads w T ys vs:=by
 obtain⟨h1,h2⟩:=zmd h
 refine⟨by rw[<-h1];exact hr.1,fun i y v hy hv=>?_⟩
 have hi:i<xs.length:=by
  have:=(List.getElem?_eq_some_iff.1 hy).1
  omega
 exact h2 i xs[i] y (List.getElem?_eq_getElem hi) hy w T v (hr.2 i _ v (List.getElem?_eq_getElem hi) hv)
theorem ACalls.le{P:Program}{f:FuncId}{xs ys:List AV}{st:Store}{R:AV->Store->Prop}(h:leL xs ys)(hc:ACalls P f ys st R):ACalls P f xs st R:=
 ⟨fun Oth M w vs sto hr=>hc.out Oth M w vs sto (zzg h hr)⟩
theorem ztc{a b:Int}(h1:1<=a/\a<=128)(h2:1<=b/\b<=128):1<=a*b/\a*b<=16384:=by
 have h3:a*b<=128*128:=Int.mul_le_mul h1.2 h2.2 (by omega) (by omega)
 have h4:0<a*b:=Int.mul_pos (by omega) (by omega)
 omega
def cmpZ(a b:Int):Int:=if a<b then -1 else if a>b then 1 else 0
end Go.V
