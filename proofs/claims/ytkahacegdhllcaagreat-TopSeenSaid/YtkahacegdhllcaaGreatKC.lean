/- Ground of laws of throngtop: contracts and plain lemmas; no condition beyond the row's own. -/
import Derived.MapKept
import Derived.Test.YtkahacegdhllcaaGreatKB
set_option linter.unusedSimpArgs false
set_option linter.unusedVariables false
set_option linter.defProp false
namespace Go.V
inductive Sched where
  |done
  |v (i:Nat) (r:Sched)
  |e (i:Nat) (chk:List Nat) (r alt:Sched)
  |stop
def sv:List Nat->Sched->Sched
  |[],s=>s
  |i::l,s=>.v i (sv l s)
def isV(c:Cfg)(o:Oper):Bool:=
  match o.op with
  |.alloc _=>false
  |.box _ _=>false
  |.store _ _ _=>false
  |.assign _=>false
  |.convert s t _=> !Nat.beq s t
  |.buildSlice _ _ _=>match o.dst with|some d=> !c.G.contains d|none=>false
  | .call cl=>match cl.callee with
    |.builtin .len=>true
    |.builtin .cap=>true
    |.builtin .min=>true
    |.builtin .max=>true
    |_=>false
  |.mapUpdate ..|.insert ..|.mapEntry ..|.entryStore ..|.makeMap ..|.makeSlice ..|.lookup ..|.range ..|.next ..|.entry ..|.makeInterface ..|.typeAssert ..|.select ..|.go ..|.defer ..|.panic ..|.send ..|.recv ..|.ready ..|.waits ..|.makeChan ..=>false
  |_=>true
def ju(ops:Array Oper)(i:Nat):List Nat:=
  match ops[i]? with
  |some o=>o.after.toList.filterMap λe=>bif Region.binds .any e then some e.on else none
  |none=>[]
def mem(i:Nat):List Nat->Bool
  |[]=>false
  |j::l=>bif Nat.beq i j then true else mem i l
theorem mem_iff(i:Nat):∀(l:List Nat),mem i l=true↔i∈l:=by
  intro l;induction l with
  |nil=>simp[mem]
  | cons j l ih=>
    simp_all[mem]
def sub(l m:List Nat):Bool:=l.all λi=>mem i m
def Vf:Sched->List Nat
  |.e i _ _ alt=>i::Vf alt
  |_=>[]
def Ri(ops:Array Oper)(i:Nat):List Nat:=
  (List.range i).reverse.foldl (λacc j=>bif mem j acc then ju ops j++acc else acc) (ju ops i)
def Ss(c:Cfg)(ops:Array Oper)(i:Nat)(chk L:List Nat):Bool:=
  !mem i L&&Nat.blt i ops.size&&sub (ju ops i) L&&(match ops[i]? with|some o=> !isV c o|none=>false)&&
  L.all λj=>mem j (Ri ops i)||mem j chk||(match ops[j]?,ops[i]? with
    |some o,some o'=> !isV c o||(Od o.op&&(match o'.op with|.alloc _=>false|.box _ _=>false|_=>true))
    |_,_=>false)
def Ai(c:Cfg)(ops:Array Oper):Sched->List Nat->Bool->Bool
  |.done,L,first=>first&&(List.range ops.size).all λi=>mem i L
  |.v i r,L,first=>first&&(!mem i L&&Nat.blt i ops.size&&(match ops[i]? with|some o=>isV c o|none=>false)&&sub (ju ops i) L&&Ai c ops r (i::L) true)
  |.e i chk r alt,L,first=>Ss c ops i chk L&&Ai c ops r (i::L) true&&Ai c ops alt L false&&
      (!first||(List.range ops.size).all λj=>mem j L|| !sub (ju ops j) L||mem j (i::Vf alt))
  |.stop,_,first=> !first
def Fy(c:Cfg)(ops:Array Oper):Bool:=
  (List.range ops.size).all λi=>match ops[i]? with
    |none=>false
    | some o=>(ju ops i).all (λj=>Nat.blt j i)&&(match o.op with|.select ..=>false|.defer ..=>false|_=>true)&&(match o.dst with
      |none=> !isV c o
      | some t=>Nat.blt t c.n&& !mem t (o.looksAt ops)&&
        (List.range ops.size).all λk=>Nat.beq k i||(match ops[k]? with
          |none=>false
          |some o'=>(match o'.dst with|some t'=> !Nat.beq t t'|none=>true)&&(!mem t (o'.looksAt ops)||mem i (ju ops k)||(!isV c o&&mem k (ju ops i)))))
def Kr(ops:Array Oper)(o:Oper)(A:Fr)(go skip:Fr->Prop):Prop:=
  match o.guard with
  |none=>go A
  | some (j,want)=>optK ((ops[j]?).bind (·.dst)) λt=>
    match A.t t with
    |.av (.s (.bool b))=>Ds b (bif want then go (A.put t (ke true))else skip (A.put t (ke true))) (bif want then skip (A.put t (ke false))else go (A.put t (ke false)))
    |.und=>skip A
    |_=>False
def stands(c:Cfg)(ops:Array Oper)(A:Fr)(st:Store)(i:Nat):Prop:=
  optK ops[i]? λo=>optK o.dst λd=>Kr ops o A (λA=>vcW c A.ev A.bx st d o.op λx=>x=A.t d) (λA=>A.t d=.und)
def Lg(c:Cfg)(ops:Array Oper)(A:Fr)(st:Store):List Nat->Prop
  |[]=>True
  |i::l=>stands c ops A st i/\Lg c ops A st l
def Af(P:Program)(c:Cfg)(ops:Array Oper)(K:Fr->Store->Prop):Sched->Fr->Store->Prop
  |.done,A,st=>K A st
  |.v i r,A,st=>optK ops[i]? λo=>optK o.dst λd=>
      Kr ops o A (λA=>vcW c A.ev A.bx st d o.op λx=>Af P c ops K r (A.put d x) st) (λA=>Af P c ops K r (A.put d .und) st)
  |.e i chk r alt,A,st=>(optK ops[i]? λo=>
      Kr ops o A (λA=>Fp P c o (λA' st'=>Lg c ops A' st' chk/\Af P c ops K r A' st') A st)
        (λA=>xc A c.n o.dst .und λA'=>Lg c ops A' st chk/\Af P c ops K r A' st))/\Af P c ops K alt A st
  |.stop,_,_=>True
section
variable {P:Program} {c:Cfg} {ops:Array Oper}
def Co(ops:Array Oper)(o:Oper)(A:Fr):Option Bool:=
  match o.guard with
  |none=>some true
  | some (j,want)=>match(ops[j]?).bind (·.dst)with
    |none=>none
    | some t=>match A.t t with
      |.av (.s (.bool b))=>some (b==want)
      |.und=>some false
      |_=>none
theorem guardK_iff{o:Oper}{A:Fr}{go skip:Fr->Prop}:Kr ops o A go skip↔(Co ops o A=some true/\go A)\/(Co ops o A=some false/\skip A):=by
  unfold Kr Co;cases hg:o.guard with
  |none=>simp
  | some jw=>
    have⟨j,want⟩:=jw;simp only;cases hd:(ops[j]?).bind (·.dst)with
    |none=>simp[optK]
    | some t=>
      simp only[optK];generalize hy:A.t t=y;split
      · rename_i b
        cases b with
        |true=>grind[Fr.put_self,ke,Ds]
        |false=>grind[Fr.put_self,ke,Ds]
      · simp
      simp
theorem dr{o:Oper}{B:Fr}{st:Store}{n:SN}{Oth M:BB}{a:Act}{w:World}(sim:Sim n Oth B st M a w){b:Bool}(h:Co ops o B=some b):Region.wanted o (yielded ops a.tmps)=b:=by
  have⟨β,s⟩:=sim;unfold Co at h;unfold Region.wanted;cases hg:o.guard with
  |none=>grind
  | some jw=>
    have⟨j,want⟩:=jw;rw[hg]at h;simp only at h⊢;cases hd:(ops[j]?).bind (·.dst)with
    |none=>grind
    | some t=>
      rw[hd]at h;simp only at h;have hs:=s.tm t;split at h
      · rename_i b' hb
        simp at h;rw[hb]at hs;rw[zhm hd (VRel.eq_s hs),<-h];simp
      · rename_i hb
        simp at h;rw[hb]at hs;rw[zhl hd hs,h];rfl
      · cases h
def ue{b:Bool}{p:Prop}(h:bif b then p else False):b=true/\p:=by grind
def zje{b:Bool}{p:Prop}(hb:b=true)(h:p):bif b then p else False:=by grind
def qm(A:Fr)(D:List Nat):Fr:=⟨λt=>bif mem t D then .any else A.t t,A.bx⟩
theorem Kk{t:Nat}{D:List Nat}(h:t∉D):mem t D=false:=by grind[mem_iff]
theorem dv{A:Fr}{D:List Nat}{t:Nat}(h:t∉D):(qm A D).t t=A.t t:=by simp[qm,Kk h]
def yow{A:Fr}{D:List Nat}{x:Operand}(h:∀t,x=.tmp t->t∉D):(qm A D).ev x=A.ev x:=by
  cases x with
  |tmp t=>exact dv (h t rfl)
  |_=>rfl
theorem Iv{A:Fr}{D:List Nat}{d:Nat}(h:d∉D)(x:LV):(qm A D).put d x=qm (A.put d x) D:=by unfold qm Fr.put;grind[Kk,y9]
def zh1{A:Fr}{D:List Nat}{d:Nat}(h:d∉D)(l:List AV):(qm A D).newBx d l=qm (A.newBx d l) D:=by
  unfold qm Fr.newBx
  congr
  funext i
  by_cases hi:i=d
  · subst hi;simp[Kk h]
  · simp only[y9 hi,cond_false]
    cases mem i D<;>rfl
def Gj(o:Oper)(A A':Fr):Prop:=(match o.op with|.alloc _=>False|.box _ _=>False|_=>True)->∀t,o.dst≠some t->A'.t t=A.t t
theorem Mg{o:Oper}{A:Fr}{d:Nat}{x:LV}(hd:o.dst=some d):Gj o A (A.put d x):=λ_ t ht=>by grind[Fr.put,y9]
def rn{o:Oper}{A:Fr}:Gj o A A:=λ_ _ _=>rfl
def zmp(hI:qe P c.I){o:Oper}{K:Fr->Store->Prop}{A:Fr}{st:Store}{D:List Nat}(h:Fp P c o K A st)(hop:∀x∈o.op.operands,∀t,x=.tmp t->t∉D)(hd:∀d,o.dst=some d->d∉D):
    Fp P c o (λB' st'=>∃A',K A' st'/\B'=qm A' D/\Gj o A A') (qm A D) st:=by
  have hev:∀x∈o.op.operands,(qm A D).ev x=A.ev x:=λx hx=>yow (hop x hx);have hputO:∀(x:LV) (st':Store),(xc A c.n o.dst x λA'=>K A' st')->xc (qm A D) c.n o.dst x λB'=>∃A',K A' st'/\B'=qm A' D/\Gj o A A':=by
    intro x st' hx;unfold xc at hx⊢;cases hdst:o.dst with
    |none=>rw[hdst]at hx;exact⟨A,hx,rfl,rn⟩
    | some d=>
      rw[hdst]at hx;have⟨hlt,hx⟩:=Bh hx;simp only[show Nat.blt d c.n=true from Fch hlt,cond_true];grind[Iv,Mg]
  have hval:∀op',op'=o.op->(optK o.dst λd=>bif Nat.blt d c.n then vcV c A.ev A.bx st d op' (λx=>K (A.put d x) st)else False)->
      optK o.dst λd=>bif Nat.blt d c.n then vcV c (qm A D).ev (qm A D).bx st d op' (λx=>∃A',K A' st/\(qm A D).put d x=qm A' D/\Gj o A A')else False:=by
    rintro op' rfl hx;have⟨d,hdst,hx⟩:=zt hx;have⟨hlt,hx⟩:=Bh hx;refine za d hdst ?_;simp only[show Nat.blt d c.n=true from Fch hlt,cond_true];exact zbh hI (λx hx=>⟨_,hx,Iv (hd d hdst) x,Mg hdst⟩) (zbi hev hx)
  unfold Fp at h⊢;have hX:vcX P c o K A st->vcX P c o (λB' st'=>∃A',K A' st'/\B'=qm A' D/\Gj o A A') (qm A D) st:=by
    intro h;have⟨vs,hvs,h⟩:=zt h
    have e:(o.op.operands.toList.mapM λx=>((qm A D).ev x).toAV)=o.op.operands.toList.mapM λx=>(A.ev x).toAV:=
      ci λx hx=>hev x δ
    refine za vs δ ⟨λOth M w ρ hI' sto hr=>?_⟩;have:=h.out Oth M w ρ hI' sto hr
    have hpost:∀v w',xm st (λr st'=>xc A c.n o.dst (.av r) λA'=>K A' st') Oth M w v w'->xm st (λr st'=>xc (qm A D) c.n o.dst (.av r) λB'=>∃A',K A' st'/\B'=qm A' D/\Gj o A A') Oth M w v w':=
      λv w' ⟨r,st',M',h1,h2⟩=>⟨r,st',M',hputO _ st' h1,h2⟩
    grind
  cases hx:isX o.op with
  |true=>grind
  |false=>
  rw[hx]at h;replace h:Hb P c o K A st:=h;change Hb P c o (λB' st'=>∃A',K A' st'/\B'=qm A' D/\Gj o A A') (qm A D) st;unfold Hb at h⊢;cases ho:o.op with
  | alloc t=>
    simp only[ho,Ht]at h⊢;have⟨i,hi,h⟩:=zt h;have⟨d,hdst,h⟩:=zt h;have⟨hlt,h⟩:=Bh h;refine za i hi (za d hdst ?_);simp only[show Nat.blt d c.n=true from Fch hlt,cond_true];cases hg:c.G.contains d with
    |true=>rw[hg]at h;exact λb hb=>⟨_,h b hb,Iv (hd d hdst) _,λhh=>δ⟩
    |false=>rw[hg]at h;exact⟨_,h,zh1 (hd d hdst) _,λhh=>δ⟩
  | box t x=>
    simp only[ho]at h⊢;rw[ho]at hev;have⟨d,hdst,h⟩:=zt h;have⟨hlt,h⟩:=Bh h;refine za d hdst ?_;simp only[show Nat.blt d c.n=true from Fch hlt,cond_true];rw[hev x θw];split at h
    · have⟨l,hl,h⟩:=zt h
      refine za l hl ?_;cases hg:c.G.contains d with
      |true=>rw[hg]at h;exact λb hb=>⟨_,h b hb,Iv (hd d hdst) _,λhh=>δ⟩
      |false=>rw[hg]at h;exact⟨_,h,zh1 (hd d hdst) _,λhh=>δ⟩
    omega
  | buildSlice t n parts=>
    simp only[ho]at h⊢;rw[ho]at hev;have e:(parts.toList.map λp=>(p.1,(qm A D).ev p.2))=(parts.toList.map λp=>(p.1,A.ev p.2)):=Fbw λp hp=>by grind[Op.operands]
    rw[e];have⟨i,hi,h⟩:=zt h;have⟨d,hdst,h⟩:=zt h;have⟨hlt,h⟩:=Bh h;refine za i hi (za d hdst ?_);simp only[show Nat.blt d c.n=true from Fch hlt,cond_true];split at h
    · have⟨ie,hie,h⟩:=zt h
      have⟨rows,hrows,h⟩:=zt h;refine za ie hie (za rows hrows ?_);cases hone:rows.flatten.all AV.one with
      |false=>grind
      | true=>
        rw[hone]at h;simp only[cond_true]at h⊢;refine⟨h.1,?_⟩;replace h:=h.2;cases rows with
        |nil=>grind[Iv,Mg]
        | cons r rs=>
          cases hg:c.G.contains d with
          | true=>
            cases hg2:c.G.contains (d+1000000)with
            |true=>simp only[hg,hg2,cond_true]at h⊢;grind[Iv,Mg]
            |false=>simp only[hg,hg2,cond_true,cond_false]at h⊢;grind[Iv,Mg]
          |false=>simp only[hg,cond_false]at h⊢;grind[Iv,Mg]
    omega
  | store t p x=>
    simp only[ho]at h⊢;rw[ho]at hev;cases hdst:o.dst with
    |some d=>grind
    | none=>
      rw[hdst]at h;simp only[Option.isNone_none,cond_true]at h⊢;have⟨i,hi,h⟩:=zt h;refine za i hi ?_;rw[hev x θw];split at h
      · unfold Dx at h⊢
        rw[hev p θw];have⟨xs,hxs,h⟩:=zt h;refine za xs hxs ?_;cases hb:(Nat.beq xs.length i.size&&xs.all AV.one)with
        |false=>grind
        | true=>
          rw[hb]at h;simp only[cond_true]at h⊢;split at h
          · rename_i k off hp
            have⟨l,hl,h⟩:=zt h;refine za l hl ?_;cases hb2:Nat.ble (off+xs.length) l.length with
            |false=>grind
            |true=>rw[hb2]at h;simp only[cond_true,Ht]at h⊢;exact⟨_,h,rfl,λ_ _ _=>rfl⟩
          · have⟨y,hy,h⟩:=zt h
            refine za y hy ?_;cases y with
            |cells l=>simp only[Ht]at h⊢;exact⟨h.1,_,h.2,rfl,rn⟩
            |map es bs clock=>omega
            |iter m since seen last=>omega
            |ghost o gh=>omega
          omega
      omega
  | binOp op t x y yt=>
    simp only[ho]at h⊢;have hev':=hev;rw[ho]at hev';unfold f9 at h⊢;rw[hev' x θw,hev' y θw];split at h
    · have⟨i,hi,h⟩:=zt h
      refine za i hi ?_;cases hty:i.ty with
      | slice e=>
        rw[hty]at h;cases op with
        |eql=>simp_all
        |neq=>simp_all
        |_=>omega
      |_=>grind
    grind
  | convert s t x=>
    simp only[ho]at h⊢;have hev':=hev;rw[ho]at hev';unfold fk at h⊢;rw[hev' x θw];split at h
    · have⟨hb,h⟩:=ue h
      refine zje hb ?_;have⟨i,hi,h⟩:=zt h;refine za i hi ?_;split at h
      · have⟨ie,hie,h⟩:=zt h
        have⟨hu,h⟩:=ue h;have⟨top,htop,h⟩:=zt h;simp_all
      omega
    · exact hX h
    · exact hX h
    grind
  | call cl=>
    simp only[ho]at h⊢;have hev':=hev;rw[ho]at hev';cases hcl:cl.callee with
    | value f=>
      simp only[hcl]at h⊢;rw[hev' f (by simp[Op.operands,Call.operands,hcl])];split at h
      · have⟨vs,hvs,h⟩:=zt h
        have e:(cl.args.toList.mapM λx=>((qm A D).ev x).toAV)=cl.args.toList.mapM λx=>(A.ev x).toAV:=
          ci λx hx=>hev' x ψp
        rw[e];refine za vs hvs ⟨λOth M w us sto hr=>?_⟩;have:=h.out Oth M w us sto hr
        have hpost:∀v w',xm st (λr st'=>xc A c.n o.dst (.av r) λA'=>K A' st') Oth M w v w'->xm st (λr st'=>xc (qm A D) c.n o.dst (.av r) λB'=>∃A',K A' st'/\B'=qm A' D/\Gj o A A') Oth M w v w':=
          λv w' ⟨r,st',M',h1,h2⟩=>⟨r,st',M',hputO _ st' h1,h2⟩
        generalize(callFunc _ us).run P w=res at*;cases res with
        |halt x w'=>trivial
        | ok nx w'=>
          cases nx with
          |enter f as=>exact Calls.mono this λe w'' ⟨v,he,hp⟩=>⟨v,he,hpost v w'' hp⟩
          |value v=>exact hpost v w' this
          |_=>trivial
      omega
    | invoke y m=>
      simp only[hcl]at h⊢;unfold cw at h⊢;rw[hev' y (by simp[Op.operands,Call.operands,hcl])];split at h
      · have⟨vs,hvs,g,x,hm,h⟩:=zt h
        have e:(cl.args.toList.mapM λx=>((qm A D).ev x).toAV)=cl.args.toList.mapM λx=>(A.ev x).toAV:=
          ci λx hx=>hev' x ψp
        rw[e];refine za vs hvs ⟨g,x,hm,⟨λOth M w us sto hr=>?_⟩⟩;have:=h.out Oth M w us sto hr
        have hpost:∀v w',xm st (λr st'=>xc A c.n o.dst (.av r) λA'=>K A' st') Oth M w v w'->xm st (λr st'=>xc (qm A D) c.n o.dst (.av r) λB'=>∃A',K A' st'/\B'=qm A' D/\Gj o A A') Oth M w v w':=
          λv w' ⟨r,st',M',h1,h2⟩=>⟨r,st',M',hputO _ st' h1,h2⟩
        generalize(callFunc _ us).run P w=res at*;cases res with
        |halt x w'=>trivial
        | ok nx w'=>
          cases nx with
          |enter f as=>exact Calls.mono this λe w'' ⟨v,he,hp⟩=>⟨v,he,hpost v w'' hp⟩
          |value v=>exact hpost v w' this
          |_=>trivial
      omega
    | builtin b=>
      cases b with
      | append=>
        simp only[hcl]at h⊢;have⟨t,ht,h⟩:=zt h;have⟨i,hi,h⟩:=zt h;have⟨s,hs,h⟩:=zt h;have⟨x,hx,h⟩:=zt h;refine za t ht (za i hi (za s hs (za x hx ?_)));rw[hev' s (by simp[Op.operands,Call.operands,hcl];exact Fee hs),hev' x (by simp[Op.operands,Call.operands,hcl];exact Fee hx)];split at h
        · cases hb:(cl.argTypes[1]?.bind c.I).any Pz with
          |false=>rw[hb]at h;exact hX h
          |true=>
          rw[hb]at h;replace h:=h.out;rcases h with h|⟨s',x',hes,hex,h⟩;rotate_left
          · refine⟨.inr ⟨s',x',hes,hex,h.has,λie hie Oth M w sv xv at' ty args t sto h1 h2 h3 h4 h5 h6 h7 h8=>?_⟩⟩
            have⟨v,w',hr,r,st',M',hK,hp⟩:=h.out ie hie Oth M w sv xv at' ty args t sto h1 h2 h3 h4 h5 h6 h7 h8;exact⟨v,w',hr,r,st',M',hputO _ st' hK,hp⟩
          refine⟨.inl ?_⟩;unfold gj at h⊢;have⟨ie,hie,h⟩:=zt h;refine za ie hie ?_;split at h
          · have⟨rows,hrows,hroom,h⟩:=zt h
            exact za rows hrows ⟨hroom,λv st' ho=>hputO _ st' (h v st' ho)⟩
          · have⟨rows,hrows,hroom,h⟩:=zt h
            exact za rows hrows ⟨hroom,λv st' ho=>hputO _ st' (h v st' ho)⟩
          · rename_i k rows b hev2
            have⟨hk,h⟩:=ue h;have⟨rows',hrows,htok,hroom,h⟩:=zt h;exact zje hk (za rows' hrows ⟨htok,hroom,λv st' ho=>hputO _ st' (h v st' ho)⟩)
          · exact h.elim
        · exact h.elim
      |_=>simp only[hcl]at h⊢;have:=hval o.op rfl (by rw[ho];exact h);rw[ho]at this;exact this
  |_=>simp only[ho]at h⊢;exact hval _ ho.symm h
end
section
variable {P:Program} {c:Cfg} {ops:Array Oper}
def all_range{n:Nat}{p:Nat->Bool}:(List.range n).all p=true↔∀i,i<n->p i=true:=φ
structure OpFacts(c:Cfg)(ops:Array Oper)(i:Nat)(o:Oper):Prop where
  lt:∀j∈ju ops i,j<i
  sel:∀cs b,o.op≠.select cs b
  nd:∀cl,o.op≠.defer cl
  dst:isV c o=true->∃d,o.dst=some d
  dlt:∀d,o.dst=some d->d<c.n
  own:∀d,o.dst=some d->d∉o.looksAt ops
  one:∀d,o.dst=some d->∀k o',ops[k]?=some o'->k≠i->o'.dst≠some d
  look:∀d,o.dst=some d->∀k o',ops[k]?=some o'->k≠i->d∈o'.looksAt ops->i∈ju ops k\/(isV c o=false/\k∈ju ops i)
def Ki(h:Fy c ops=true){i:Nat}{o:Oper}(hi:ops[i]?=some o):OpFacts c ops i o:=by
  have hlt:i<ops.size:=(Fb3.1 hi).1;have h1:=all_range.1 h i hlt;simp only[hi,Fa6,Fcc]at h1;have⟨⟨hd,hs⟩,h2⟩:=h1;refine⟨λj hj=>Fbt (hd j hj),λcs b hop=>δ,λcl hop=>δ,λhv=>?_,λd hdst=>?_,λd hdst=>?_,λd hdst k o' hk hne=>?_,λd hdst k o' hk hne hl=>?_⟩
  · grind
  all_goals
    rw[hdst]at h2;simp only[Fa6,Fcf]at h2;have⟨⟨h3,h4⟩,h5⟩:=h2
  · exact Fbt h3
  · intro hm
    rw[(mem_iff _ _).2 hm]at h4;cases h4
  all_goals
    have hklt:k<ops.size:=(Fb3.1 hk).1;have h6:=all_range.1 h5 k hklt;rw[hk]at h6;simp only[Bool.or_eq_true,y9 hne,Fap,false_or,Fa6,Fcf]at h6
  · intro hd'
    simp_all
  grind[mem_iff]
def yr6{p q:Nat->Bool}{i:Nat}:∀(l:List Nat),l.Nodup->i∈l->p i=true->q i=false->(∀j,j≠i->p j=q j)->l.countP p=l.countP q+1:=by
  intro l;induction l with
  |nil=>simp
  | cons a l ih=>
    grind[List.countP_congr]
def left(ops:Array Oper)(listed:Array Bool):Nat:=(List.range ops.size).countP λi=> !listed.getD i true
def cj{listed:Array Bool}(hs:listed.size=ops.size){i:Nat}(hi:i<ops.size)(hl:listed.getD i true=false):left ops listed=left ops (listed.setIfInBounds i true)+1:=by
  unfold left;refine yr6 (i:=i) _ List.nodup_range (Fbj.2 hi) (by simp[hl]) ?_ λj hj=>?_
  · simp
  · rw[getD_set_ne true (Ne.symm hj)]
theorem zgs{listed:Array Bool}(h:left ops listed=0){i:Nat}(hi:i<ops.size):listed.getD i true=true:=by grind[left,List.countP_eq_zero]
def least{p:Nat->Prop}:∀n,(∃i,i<n/\p i)->∃i,i<n/\p i/\∀j,j<i->¬p j:=by
  intro n;induction n with
  |zero=>simp
  | succ n ih=>
    rintro⟨i,h,hp⟩;by_cases hx:∃j,j<n/\p j
    · grind
    grind
def zf8{i j:Nat}{o:Oper}(hi:ops[i]?=some o):j∈ju ops i↔∃e∈o.after,Region.binds .any e=true/\e.on=j:=by grind[ju]
theorem ready_iff{i:Nat}{listed:Array Bool}:i∈Region.ready .any ops listed↔listed.getD i true=false/\i<ops.size/\∀j∈ju ops i,listed.getD j false=true:=by
  rw[mem_ready];constructor
  · rintro⟨h1,o,ho,h2⟩
    refine⟨h1,(Fb3.1 ho).1,λj hj=>?_⟩;obtain⟨e,he,hb,rfl⟩:=(zf8 ho).1 hj;grind
  · rintro⟨h1,hlt,h2⟩
    refine⟨h1,ops[i],Fbp hlt,λe he hb=>h2 _ ((zf8 (Fbp hlt)).2 ⟨e,he,hb,rfl⟩)⟩
def Bg(ops:Array Oper)(U:List Nat):List Nat:=U.filterMap λi=>(ops[i]?).bind (·.dst)
def mem_dsts{U:List Nat}{t:Nat}:t∈Bg ops U↔∃k∈U,∃o,ops[k]?=some o/\o.dst=some t:=by grind[Bg]
def SimB.weaken{n:SN}{Oth M:BB}{β:Nat->Nat}{A B:Fr}{st:Store}{a:Act}{w:World}(h:SimB n Oth β A st M a w)(hb:B.bx=A.bx)(ht:∀t,A.t t=B.t t\/B.t t=.any):SimB n Oth β B st M a w where
  tsz:=h.tsz
  dfr:=h.dfr
  tm i:=by
    rcases ht i with h1|h1
    · rw[<-h1];exact h.tm i
    · rw[h1];trivial
  bx:=by rw[hb];exact h.bx
  inj:=by rw[hb];exact h.inj
  sep:=by rw[hb];exact h.sep
  sto:=h.sto
def Oper.wp_q{o:Oper}{a:Act}{w:World}{K:Act->World->Prop}{Q:Exit->Act->World->Prop}(h:o.wp P a w K λ_ _ _=>False):o.wp P a w K Q:=by
  unfold Oper.wp at*;generalize(execOp a.eval o).run P w=r at*;cases r with
  | ok n w'=>
    cases n<;>simp only[Oper.upon]at h⊢<;>
      first
        |exact h
        |exact Calls.mono h (λe w'' he=>by cases e<;>first|exact he|exact he.elim|(have⟨_,_,he⟩:=he;exact he.elim))
        |exact Rows.mono h (λ_ _ he=>he)
  |halt x w'=>cases x<;>trivial<;>exact h.elim
def yt8(hI:qe P c.I){o:Oper}{d:Nat}{x:LV}{B:Fr}{st:Store}(hd:o.dst=some d)(hlt:d<c.n)(h:vcW c B.ev B.bx st d o.op (λy=>y=x)):AOp P c.N o (λA' st'=>A'=B.put d x/\st'=st) B st:=by
  have key:(∀t n ps,o.op≠.buildSlice t n ps)->AOp P c.N o (λA' st'=>A'=B.put d x/\st'=st) B st:=by
    intro hne;refine Ve hI (za d hd ?_);simp only[show Nat.blt d c.n=true from Fch hlt,cond_true];unfold vcW at h;split at h
    · grind
    · exact zbh hI (λy hy=>⟨by rw[hy],Tv⟩) h
  cases hop:o.op with
  | buildSlice t n parts=>
    clear key;rw[hop]at h;have⟨i,ie,e,rows,y,hi,hty,hie,hrows,hone,hroom,hy,hyx,_⟩:=zj9 (show bsK c B.ev t n parts (λy=>y=x)from h);subst hyx;refine zk0 (c:={c with G:=[]}) hop hI (za i hi (za d hd ?_));simp only[show Nat.blt d c.n=true from Fch hlt,cond_true,hty];refine za ie hie (za rows hrows ?_);grind
  |_=>grind
theorem Oq{o:Oper}{A B:Fr}(h:∀t∈o.looksAt ops,B.t t=A.t t):Co ops o B=Co ops o A:=by grind[Co,Oper.looksAt]
def zgq{o:Oper}{t:Nat}(h:Operand.tmp t∈o.op.operands):t∈o.looksAt ops:=
  List.mem_append_left _ (List.mem_filterMap.2 ⟨.tmp t,δ,rfl⟩)
def te{o:Oper}{A B:Fr}(h:∀t∈o.looksAt ops,B.t t=A.t t):∀x∈o.op.operands,B.ev x=A.ev x:=by
  intro x hx;cases x with
  |tmp t=>exact h t (zgq hx)
  |_=>rfl
def stands_iff{A:Fr}{st:Store}{i:Nat}:stands c ops A st i↔∃o d,ops[i]?=some o/\o.dst=some d∧
    ((Co ops o A=some true/\vcW c A.ev A.bx st d o.op λx=>x=A.t d)\/(Co ops o A=some false/\A.t d=.und)):=by
  unfold stands;constructor
  · intro h
    have⟨o,ho,h⟩:=zt h;simp_all[zt,guardK_iff]
  grind[za,guardK_iff]
def zcp{A B:Fr}{st st':Store}{i:Nat}{o:Oper}(hi:ops[i]?=some o)(h:stands c ops A st i)(hl:∀t∈o.looksAt ops,B.t t=A.t t)(hd:∀d,o.dst=some d->B.t d=A.t d)
    (hn:(B.bx=A.bx/\st'=st)\/Od o.op=true):stands c ops B st' i:=by
  have⟨o',d,ho,hdst,h⟩:=stands_iff.1 h;rw[hi]at ho;cases ho;refine stands_iff.2 ⟨o,d,hi,hdst,?_⟩;rw[Oq hl,hd d hdst];refine h.imp (λh=>⟨h.1,?_⟩) id;have h2:=ii (ev':=B.ev) (te hl) h.2;grind[zmo]
def yap{A:Fr}{st:Store}:∀{l:List Nat},Lg c ops A st l->∀i∈l,stands c ops A st i:=by
  intro l;induction l with
  |nil=>simp
  | cons a l ih=>
    intro h i hi;rcases Faw.1 hi with rfl|h'
    · exact h.1
    · exact ih h.2 i h'
def ziq(P:Program)(c:Cfg)(ops:Array Oper)(K:Fr->Store->Prop)(i:Nat)(chk:List Nat)(r:Sched)(A:Fr)(st:Store):Prop:=
  optK ops[i]? λo=>
      Kr ops o A (λA=>Fp P c o (λA' st'=>Lg c ops A' st' chk/\Af P c ops K r A' st') A st)
        (λA=>xc A c.n o.dst .und λA'=>Lg c ops A' st chk/\Af P c ops K r A' st)
def yuj{K:Fr->Store->Prop}{A:Fr}{st:Store}{i:Nat}{L:List Nat}:∀(S:Sched) (first:Bool),Ai c ops S L first=true->Af P c ops K S A st->i∈Vf S->
    ∃chk r,Ss c ops i chk L=true/\Ai c ops r (i::L) true=true/\ziq P c ops K i chk r A st:=by
  intro S;induction S with
  |done=>intro _ _ _ h;cases h
  |stop=>intro _ _ _ h;cases h
  |v j r _=>intro _ _ _ h;cases h
  | e j chk r alt _ ih=>
    intro first hs hv hi
    simp only[Ai,Fa6]at hs;simp only[Vf,Faw]at hi;rcases hi with rfl|hi
    · exact⟨chk,r,hs.1.1.1,hs.1.1.2,hv.1⟩
    · exact ih false hs.1.2 hv.2 hi
structure DInv(c:Cfg)(ops:Array Oper)(Oth M0:BB)(w0:World)(listed:Array Bool)(Lab U:List Nat)(A:Fr)(st:Store)(M:BB)(a:Act)(w:World):Prop where
  lsz:listed.size=ops.size
  lst:∀i,i<ops.size->(listed.getD i false=true↔i∈Lab/\i∉U)
  usub:∀i∈U,i∈Lab
  lab:∀i∈Lab,i<ops.size/\∀j∈ju ops i,j∈Lab
  uv:∀i∈U,∃o,ops[i]?=some o/\isV c o=true
  std:∀i∈U,stands c ops A st i
  sim:Sim c.N Oth (qm A (Bg ops U)) st M a w
  chg:Chg M0 w0 M w
  cls:∀i,i<ops.size->listed.getD i false=true->∀j∈ju ops i,listed.getD j false=true
theorem zhx{listed:Array Bool}{i:Nat}(h:i<listed.size):listed.getD i true=listed.getD i false:=by simp[h]
def yhd{ops:Array Oper}{listed:Array Bool}(cls:∀i,i<ops.size->listed.getD i false=true->∀j∈ju ops i,listed.getD j false=true)(hlt:∀i j,j∈ju ops i->j<ops.size){i:Nat}(hi:∀j∈ju ops i,listed.getD j false=true):
    ∀k∈Ri ops i,listed.getD k false=true:=by
  have key:∀(l acc:List Nat),(∀k∈acc,k<ops.size/\listed.getD k false=true)->∀k∈l.foldl (λacc j=>bif mem j acc then ju ops j++acc else acc) acc,k<ops.size/\listed.getD k false=true:=by
    intro l;induction l with
    |nil=>simp
    | cons j l ih=>
      intro acc h;refine ih _ ?_;by_cases hm:mem j acc=false
      · grind
      · have hm:mem j acc=true:=by grind
        have hj:=h j ((mem_iff _ _).1 hm);grind
  exact λk hk=>(key _ _ (λk hk=>⟨hlt i k hk,hi k hk⟩) k hk).2
end
section
variable {P:Program} {c:Cfg} {ops:Array Oper} {Oth M0:BB} {w0:World}
def Fi(c:Cfg)(Oth M0:BB)(w0:World)(K:Fr->Store->Prop):Exit->Act->World->Prop:=
  λe a' w'=>∃A' st' M',(match e with|.normal=>K A' st'|_=>False)/\Sim c.N Oth A' st' M' a' w'/\Chg M0 w0 M' w'
theorem zmn(hI:qe P c.I){ev:Operand->LV}{bx:Nat->Option (List AV)}{st:Store}{d:Nat}{op:Op}{K:LV->Prop}(h:vcW c ev bx st d op K):∃x,K x/\vcW c ev bx st d op λy=>y=x:=by
  unfold vcW at h⊢;split at h
  · have⟨_,_,_,_,x,_,_,_,_,_,_,_,hx,hx'⟩:=zj9 h
    grind
  · have⟨x,hx,hx',_⟩:=ij hI _ h
    grind
section
variable {listed:Array Bool} {Lab U:List Nat} {A:Fr} {st:Store} {M:BB} {a:Act} {w:World}
def DInv.listed_iff(h:DInv c ops Oth M0 w0 listed Lab U A st M a w){i:Nat}(hi:i<ops.size):listed.getD i true=false↔¬(i∈Lab/\i∉U):=by rw[zhx (by rw[h.lsz];exact hi),<-h.lst i hi];simp
def DInv.done(hops:Fy c ops=true){K:Fr->Store->Prop}{S:Sched}(h:DInv c ops Oth M0 w0 listed Lab U A st M a w)(hs:Ai c ops S Lab true=true)(hv:Af P c ops K S A st)
    (hl:left ops listed=0):Fi c Oth M0 w0 K .normal a w:=by
  have hall:∀i,i<ops.size->i∈Lab/\i∉U:=λi hi=>by have:=zgs hl hi;rw[zhx (by rw[h.lsz];exact hi)]at this;exact(h.lst i hi).1 this
  have hU:U=[]:=by
    cases U with
    |nil=>rfl
    |cons u U=>exact absurd (Fa1) (hall u (h.lab u (h.usub u Fa1)).1).2
  subst hU;cases S with
  |done=>exact⟨A,st,M,hv,h.sim,h.chg⟩
  |stop=>trivial
  | v i r=>
    simp only[Ai,Fa6,Fcf]at hs;grind[mem_iff]
  | e i chk r alt=>
    simp only[Ai,Ss,Fa6,Fcf]at hs;grind[mem_iff]
def DInv.ready_ne(hops:Fy c ops=true)(h:DInv c ops Oth M0 w0 listed Lab U A st M a w){n:Nat}(hl:left ops listed=n+1):Region.ready .any ops listed≠[]:=by
  intro hr;have hex:∃i,i<ops.size/\listed.getD i true=false:=by grind[left,List.countP_pos_iff]
  have⟨i,hi,hp,hmin⟩:=least ops.size hex;have:i∈Region.ready .any ops listed:=by rw[ready_iff];refine⟨hp,hi,λj hj=>?_⟩;have hlt:=(Ki hops (Fbp hi)).lt j hj;grind
  grind
def DInv.clear(hops:Fy c ops=true)(h:DInv c ops Oth M0 w0 listed Lab U A st M a w){i:Nat}(hr:i∈Region.ready .any ops listed){o:Oper}(hi:ops[i]?=some o):∀t∈o.looksAt ops,t∉Bg ops U:=by
  intro t ht hd;have⟨k,hk,o',ho',hd'⟩:=mem_dsts.1 hd;have hf:=Ki hops ho';by_cases hki:i=k
  · subst hki
    rw[hi]at ho';cases ho';exact hf.own t hd' ht
  · have⟨o2,ho2,hv⟩:=h.uv k hk
    rw[ho']at ho2;cases ho2;rcases hf.look t hd' i o hi hki ht with h1|⟨h1,_⟩
    · have:=(ready_iff.1 hr).2.2 k h1
      exact((h.lst k (h.lab k (h.usub k hk)).1).1 this).2 hk
    grind
theorem DInv.look(h:DInv c ops Oth M0 w0 listed Lab U A st M a w){i:Nat}{o:Oper}(hl:∀t∈o.looksAt ops,t∉Bg ops U):∀t∈o.looksAt ops,(qm A (Bg ops U)).t t=A.t t:=
  λt ht=>dv (hl t ht)
def yrr(hops:Fy c ops=true):∀i j,j∈ju ops i->j<ops.size:=by
  intro i j hj;cases hi:ops[i]? with
  |none=>grind[ju]
  | some o=>
    have:=(Ki hops hi).lt j hj;grind
def zjn(h:DInv c ops Oth M0 w0 listed Lab U A st M a w)(hops:Fy c ops=true){i:Nat}(hr:i∈Region.ready .any ops listed):
    ∀k,k<ops.size->(listed.setIfInBounds i true).getD k false=true->∀j∈ju ops k,(listed.setIfInBounds i true).getD j false=true:=by
  have mono:∀j,listed.getD j false=true->(listed.setIfInBounds i true).getD j false=true:=by
    intro j hj;by_cases hji:i=j
    · grind[ready_iff]
    simp_all
  intro k hk hl j hj;by_cases hki:i=k
  · grind[ready_iff]
  · rw[getD_set_ne false hki]at hl
    exact mono j (h.cls k hk hl j hj)
def DInv.pend(hI:qe P c.I)(hops:Fy c ops=true){K:Fr->Store->Prop}{fuel:Nat}(h:DInv c ops Oth M0 w0 listed Lab U A st M a w){i:Nat}(hr:i∈Region.ready .any ops listed)(hU:i∈U)
    (ih:∀(U':List Nat) (M':BB) (a':Act) (w':World),DInv c ops Oth M0 w0 (listed.setIfInBounds i true) Lab U' A st M' a' w'->wpAny P .any ops (Fi c Oth M0 w0 K) fuel (listed.setIfInBounds i true) a' w'):
    wpOp P ops (Fi c Oth M0 w0 K) i (wpAny P .any ops (Fi c Oth M0 w0 K) fuel (listed.setIfInBounds i true)) a w:=by
  have⟨o,d,hi,hd,hst⟩:=stands_iff.1 (h.std i hU);have hf:=Ki hops hi;have hclear:=h.clear hops hr hi;have hlook:=h.look (i:=i) hclear;have hilt:=(Fb3.1 hi).1
  -- the frame behind it
  have next:∀(M':BB) (a':Act) (w':World),Sim c.N Oth ((qm A (Bg ops U)).put d (A.t d)) st M' a' w'->Chg M w M' w'->
      wpAny P .any ops (Fi c Oth M0 w0 K) fuel (listed.setIfInBounds i true) a' w':=by
    rintro M' a' w' ⟨β,sim⟩ hchg;refine ih (U.filter λk=> !Nat.beq k i) M' a' w' ⟨by simp[h.lsz],λj hj=>?_,λj hj=>h.usub j (Fbd.1 hj).1,h.lab,λj hj=>h.uv j (Fbd.1 hj).1,λj hj=>h.std j (Fbd.1 hj).1,⟨β,sim.weaken rfl λt=>?_⟩,h.chg.trans hchg,zjn h hops hr⟩
    · by_cases hji:i=j
      · subst hji
        have:i<listed.size:=by rw[h.lsz];exact hilt
        simp[this,h.usub i hU]
      · rw[getD_set_ne false hji,h.lst j hj]
        simp_all[Ne.symm]
    · by_cases ht:t=d
      · subst ht
        left;rw[dv]
        · simp[Fr.put]
        · intro hm
          have⟨k,hk,o',ho',hd'⟩:=mem_dsts.1 hm;have hki:k≠i:=by have:=(Fbd.1 hk).2;intro h;simp_all
          exact hf.one t hd k o' ho' hki hd'
      · by_cases hm:t∈Bg ops (U.filter λk=> !Nat.beq k i)
        · right;simp[qm,(mem_iff _ _).2 hm]
        · left
          have hm2:t∉Bg ops U:=by
            intro h2;have⟨k,hk,o',ho',hd'⟩:=mem_dsts.1 h2;refine hm (mem_dsts.2 ⟨k,Fbd.2 ⟨hk,?_⟩,o',ho',hd'⟩);by_cases hki:k=i
            · grind
            · simp[y9 hki]
          simp_all[Fr.put,y9,dv]
  unfold Go.wpOp;simp only[hi];rcases hst with⟨hg,hv⟩|⟨hg,hu⟩
  · have hg':Co ops o (qm A (Bg ops U))=some true:=by rw[Oq hlook];exact hg
    rw[dr h.sim hg'];simp only[if_true];refine .inl (Oper.wp_q (Oper.wp_mono ?_ (yt8 hI hd (hf.dlt d hd) (ii (ev':=(qm A (Bg ops U)).ev) (te hlook) hv) Oth M a w h.sim)));grind
  · have hg':Co ops o (qm A (Bg ops U))=some false:=by rw[Oq hlook];exact hg
    rw[dr h.sim hg'];simp only[Fap,if_false];have⟨β,sim⟩:=h.sim;refine next M _ w ⟨β,?_⟩ (Chg.refl M w)
    rw[hd,hu];exact sim.put (hf.dlt d hd) rfl
def DInv.eff(hI:qe P c.I)(hops:Fy c ops=true){K K2:Fr->Store->Prop}{fuel:Nat}(h:DInv c ops Oth M0 w0 listed Lab U A st M a w){i:Nat}(hr:i∈Region.ready .any ops listed){chk:List Nat}{r:Sched}
    (he:Ss c ops i chk Lab=true) (hv:ziq P c ops K i chk r A st)
    (ih:∀(A':Fr) (st':Store) (M':BB) (a':Act) (w':World),Af P c ops K r A' st'->DInv c ops Oth M0 w0 (listed.setIfInBounds i true) (i::Lab) U A' st' M' a' w'->wpAny P .any ops (Fi c Oth M0 w0 K2) fuel (listed.setIfInBounds i true) a' w'):
    wpOp P ops (Fi c Oth M0 w0 K2) i (wpAny P .any ops (Fi c Oth M0 w0 K2) fuel (listed.setIfInBounds i true)) a w:=by
  have⟨o,hi,hv⟩:=zt hv;have hf:=Ki hops hi;have hclear:=h.clear hops hr hi;have hlook:=h.look (i:=i) hclear;have hilt:=(Fb3.1 hi).1;simp only[Ss,hi,Fa6,Fcf,Fcc]at he;obtain⟨⟨⟨⟨hnL,_⟩,hdeps⟩,hnV⟩,hL⟩:=he;have hiL:i∉Lab:=λhm=>by grind[mem_iff]
  have hiU:i∉U:=λhm=>hiL (h.usub i hm);have hdD:∀d,o.dst=some d->d∉Bg ops U:=by intro d hd hm;have⟨k,hk,o',ho',hd'⟩:=mem_dsts.1 hm;exact hf.one d hd k o' ho' (λh=>hiU (h▸hk)) hd'
  have hdl:∀j∈ju ops i,j∈Lab/\j∉U:=λj hj=>by
    have h1:=(ready_iff.1 hr).2.2 j hj;have hlt:j<ops.size:=by have:=hf.lt j hj;omega
    exact(h.lst j hlt).1 h1
  have hkr:∀k∈U,k∉Ri ops i:=λk hk hm=>by have h1:=yhd h.cls (yrr hops) (ready_iff.1 hr).2.2 k hm;exact((h.lst k (h.lab k (h.usub k hk)).1).1 h1).2 hk
  -- what follows
  have next:∀(A':Fr) (st':Store) (M':BB) (a':Act) (w':World),Lg c ops A' st' chk->Af P c ops K r A' st'->Gj o A A'->((∃k,A'=A.put k .und/\o.dst=some k/\st'=st)\/A'=A/\st'=st\/True)->Sim c.N Oth (qm A' (Bg ops U)) st' M' a' w'->Chg M w M' w'->
      (∀k∈U,k∉chk->∀o',ops[k]?=some o'->∀t,o.dst≠some t->A'.t t=A.t t)->
      wpAny P .any ops (Fi c Oth M0 w0 K2) fuel (listed.setIfInBounds i true) a' w':=by
    intro A' st' M' a' w' hchk hvc hkept _ hsim hchg hk2;refine ih A' st' M' a' w' hvc ⟨by simp[h.lsz],λj hj=>?_,λj hj=>Fau _ (h.usub j hj),λj hj=>?_,h.uv,λk hk=>?_,hsim,h.chg.trans hchg,zjn h hops hr⟩
    · by_cases hji:i=j
      · subst hji
        have:i<listed.size:=by rw[h.lsz];exact hilt
        simp_all
      · rw[getD_set_ne false hji,h.lst j hj]
        grind
    · rcases Faw.1 hj with rfl|hj
      · grind
      · exact⟨(h.lab j hj).1,λk hk=>Fau _ ((h.lab j hj).2 k hk)⟩
    · by_cases hkc:k∈chk
      · exact yap hchk k hkc
      · have⟨o',ho',hV⟩:=h.uv k hk
        have hk3:=hk2 k hk hkc o' ho';have hki:k≠i:=λh=>hiU (h▸hk);have hkd:k∉ju ops i:=λhd=>(hdl k hd).2 hk;have h4:=hL k (h.usub k hk);have m1:mem k (Ri ops i)=false:=Kk (hkr k hk);have m2:mem k chk=false:=Kk hkc;rw[ho']at h4;simp only[m1,m2,Fey,Bool.or_eq_true,Fcf,Fa6,hV,Bool.true_eq_false,false_or]at h4;refine zcp ho' (h.std k hk) (λt ht=>hk3 t λhd=>?_) (λd hd=>hk3 d λhd2=>hf.one d hd2 k o' ho' hki hd) (.inr h4.1);rcases hf.look t hd k o' ho' hki ht with h5|⟨_,h5⟩
        · exact hiL ((h.lab k (h.usub k hk)).2 i h5)
        grind
  have hkept:∀(A':Fr),Gj o A A'->∀k∈U,k∉chk->∀o',ops[k]?=some o'->∀t,o.dst≠some t->A'.t t=A.t t:=by intro A' hK k hk hkc o' ho' t ht;have⟨o2,ho2,hV⟩:=h.uv k hk;rw[ho']at ho2;cases ho2;have hkd:k∉ju ops i:=λhd=>(hdl k hd).2 hk;have h4:=hL k (h.usub k hk);have m1:mem k (Ri ops i)=false:=Kk (hkr k hk);have m2:mem k chk=false:=Kk hkc;rw[ho']at h4;simp only[m1,m2,Fey,Bool.or_eq_true,Fcf,Fa6,hV,Bool.true_eq_false,false_or]at h4;refine hK ?_ t ht;grind
  unfold Go.wpOp;simp only[hi];rcases guardK_iff.1 hv with⟨hg,hv⟩|⟨hg,hv⟩
  · have hg':Co ops o (qm A (Bg ops U))=some true:=by rw[Oq hlook];exact hg
    rw[dr h.sim hg'];simp only[if_true];have hF:=zmp (D:=Bg ops U) hI hv (λx hx t ht=>hclear t (zgq δ)) hdD;refine .inl (Oper.wp_q (Oper.wp_mono ?_ (zkz hI hF Oth M a w h.sim)));grind
  · have hg':Co ops o (qm A (Bg ops U))=some false:=by rw[Oq hlook];exact hg
    rw[dr h.sim hg'];simp only[Fap,if_false];have⟨β,sim⟩:=h.sim;unfold xc at hv;cases hd:o.dst with
    | none=>
      rw[hd]at hv;exact next A st M _ w hv.1 hv.2 rn (.inr (.inr trivial)) ⟨β,sim⟩ (Chg.refl M w) (λ_ _ _ _ _ _ _=>rfl)
    | some d=>
      rw[hd]at hv;have⟨hlt,hv⟩:=Bh hv;refine next (A.put d .und) st M _ w hv.1 hv.2 (Mg hd) (.inr (.inr trivial)) ⟨β,?_⟩ (Chg.refl M w) (λ_ _ _ _ _ t ht=>by grind[Fr.put,y9])
      rw[<-Iv (hdD d hd)];exact sim.put hlt rfl
def DInv.move(hI:qe P c.I)(hops:Fy c ops=true){K:Fr->Store->Prop}(h:DInv c ops Oth M0 w0 listed Lab U A st M a w){j:Nat}{r:Sched}(hs:Ai c ops (.v j r) Lab true=true)(hv:Af P c ops K (.v j r) A st):
    ∃A',Ai c ops r (j::Lab) true=true/\Af P c ops K r A' st/\DInv c ops Oth M0 w0 listed (j::Lab) (j::U) A' st M a w:=by
  simp only[Ai,Fa6,Fcf,true_and]at hs;obtain⟨⟨⟨⟨hn,hlt⟩,hV⟩,hdep⟩,hs⟩:=hs;have hjL:j∉Lab:=λhm=>by rw[(mem_iff _ _).2 hm]at hn;cases hn
  have hlt:j<ops.size:=Fbt hlt;have⟨o,hi,hv⟩:=zt hv;have⟨d,hd,hv⟩:=zt hv;rw[hi]at hV;replace hV:isV c o=true:=hV;have hf:=Ki hops hi;have hdl:∀k∈ju ops j,k∈Lab:=λk hk=>(mem_iff _ _).1 (Fcc.1 hdep k hk)
  have key:∀x,Af P c ops K r (A.put d x) st->((Co ops o A=some true/\vcW c A.ev A.bx st d o.op λy=>y=x)\/(Co ops o A=some false/\x=.und))->
      ∃A',Ai c ops r (j::Lab) true=true/\Af P c ops K r A' st/\DInv c ops Oth M0 w0 listed (j::Lab) (j::U) A' st M a w:=by
    intro x hx hst;have hout:∀t,t≠d->(A.put d x).t t=A.t t:=λt ht=>by simp[Fr.put,y9 ht]
    refine⟨A.put d x,hs,hx,h.lsz,λk hk=>?_,λk hk=>?_,λk hk=>?_,λk hk=>?_,λk hk=>?_,?_,h.chg,h.cls⟩
    · rw[h.lst k hk]
      grind
    · rcases Faw.1 hk with rfl|hk
      · simp
      · exact Fau _ (h.usub k hk)
    · rcases Faw.1 hk with rfl|hk
      · grind
      · exact⟨(h.lab k hk).1,λk' hk'=>Fau _ ((h.lab k hk).2 k' hk')⟩
    · rcases Faw.1 hk with rfl|hk
      · grind
      · exact h.uv k hk
    · rcases Faw.1 hk with rfl|hk
      · have hl:∀t∈o.looksAt ops,(A.put d x).t t=A.t t:=λt ht=>hout t λhh=>hf.own d hd (hh▸ht)
        refine stands_iff.2 ⟨o,d,hi,hd,?_⟩;rw[Oq hl,show(A.put d x).t d=x by simp[Fr.put]];exact hst.imp (λh=>⟨h.1,ii (ev':=(A.put d x).ev) (te hl) h.2⟩) id
      · have⟨o',ho',hV'⟩:=h.uv k hk
        have hkj:k≠j:=λhh=>hjL (hh▸h.usub k hk);refine zcp ho' (h.std k hk) (λt ht=>hout t λhh=>?_) (λd' hd'=>hout d' λhh=>hf.one d hd k o' ho' hkj (hh▸hd')) (.inl ⟨rfl,rfl⟩);subst hh;rcases hf.look t hd k o' ho' hkj ht with h5|⟨h5,_⟩
        · exact hjL ((h.lab k (h.usub k hk)).2 j h5)
        grind
    · have⟨β,sim⟩:=h.sim
      refine⟨β,sim.weaken rfl λt=>?_⟩;grind[Bg,qm,mem_iff]
  rcases guardK_iff.1 hv with⟨hg,hv⟩|⟨hg,hv⟩
  · grind[zmn]
  grind
end
def yqz(hI:qe P c.I)(hops:Fy c ops=true){K:Fr->Store->Prop}{fuel:Nat}
    (ih:∀(S:Sched) (listed:Array Bool) (Lab U:List Nat) (A:Fr) (st:Store) (M:BB) (a:Act) (w:World),Ai c ops S Lab true=true->Af P c ops K S A st->DInv c ops Oth M0 w0 listed Lab U A st M a w->left ops listed=fuel->
      wpAny P .any ops (Fi c Oth M0 w0 K) fuel listed a w) {listed:Array Bool} {M:BB} {a:Act} {w:World} {st:Store} (hl:left ops listed=fuel+1) {i:Nat} (hr:i∈Region.ready .any ops listed):
    ∀ (S:Sched) (Lab U:List Nat) (A:Fr),Ai c ops S Lab true=true->Af P c ops K S A st->DInv c ops Oth M0 w0 listed Lab U A st M a w->
      wpOp P ops (Fi c Oth M0 w0 K) i (wpAny P .any ops (Fi c Oth M0 w0 K) fuel (listed.setIfInBounds i true)) a w:=by
  have⟨hun,hilt,hdeps⟩:=ready_iff.1 hr;intro S;induction S with
  | done=>
    intro Lab U A hs hv h;by_cases hU:i∈U
    · exact h.pend hI hops hr hU λU' M' a' w' h'=>ih .done _ _ _ _ _ _ _ _ hs hv h' ψd
    · simp only[Ai,Bool.true_and]at hs
      exact absurd ⟨(mem_iff _ _).1 (all_range.1 hs i hilt),hU⟩ ((h.listed_iff hilt).1 hun)
  |stop=>intro Lab U A hs;trivial
  | v j r ihr=>
    intro Lab U A hs hv h;by_cases hU:i∈U
    · exact h.pend hI hops hr hU λU' M' a' w' h'=>ih (.v j r) _ _ _ _ _ _ _ _ hs hv h' ψd
    · have⟨A',h1,h2,h3⟩:=h.move hI hops hs hv
      grind
  | e j chk r alt _ _=>
    intro Lab U A hs hv h;by_cases hU:i∈U
    · exact h.pend hI hops hr hU λU' M' a' w' h'=>ih (.e j chk r alt) _ _ _ _ _ _ _ _ hs hv h' ψd
    · have hiL:i∉Lab:=λhm=>(h.listed_iff hilt).1 hun ⟨hm,hU⟩
      have hin:i∈Vf (.e j chk r alt):=by
        have hs2:=hs;simp only[Ai,Fa6,Bool.not_true,Fey]at hs2;have h1:=all_range.1 hs2.2 i hilt;simp only[Bool.or_eq_true,Fcf,Kk hiL,Fap,false_or]at h1;rcases h1 with h1|h1
        · have:sub (ju ops i) Lab=true:=by
            unfold sub;rw[Fcc];intro k hk;have hlt:k<ops.size:=by have:=(Ki hops (Fbp hilt)).lt k hk;omega
            exact(mem_iff _ _).2 ((h.lst k hlt).1 (hdeps k hk)).1
          grind
        · exact(mem_iff _ _).1 h1
      have⟨chk',r',h1,h2,h3⟩:=yuj _ true hs hv hin;exact h.eff hI hops hr h1 h3 λA' st' M' a' w' h4 h5=>ih r' _ _ _ _ _ _ _ _ h2 h4 h5 ψd
def yq3(hI:qe P c.I)(hops:Fy c ops=true){K:Fr->Store->Prop}:∀(fuel:Nat) (S:Sched) (listed:Array Bool) (Lab U:List Nat) (A:Fr) (st:Store) (M:BB) (a:Act) (w:World),Ai c ops S Lab true=true->Af P c ops K S A st->DInv c ops Oth M0 w0 listed Lab U A st M a w->left ops listed=fuel->
      wpAny P .any ops (Fi c Oth M0 w0 K) fuel listed a w:=by
  intro fuel;induction fuel with
  | zero=>
    intro S listed Lab U A st M a w hs hv h hl;refine⟨?_,h.done hops hs hv hl⟩;cases hr:Region.ready .any ops listed with
    |nil=>rfl
    | cons i rs=>
      grind[List.mem_cons_self,ready_iff,zgs]
  | succ fuel ih=>
    intro S listed Lab U A st M a w hs hv h hl;refine⟨λhr=>absurd hr (h.ready_ne hops hl),λi hi=>yqz hI hops ih hl hi S Lab U A hs hv h⟩
def zlq{ops:Array Oper}(hd:∀(i:Nat) (o:Oper),ops[i]?=some o->∀cl,o.op≠.defer cl){Q:Exit->Act->World->Prop}{i:Nat}{K K':Act->World->Prop}{a:Act}{w:World}(hk:∀a w,K a w->K' a w)(h:wpOp P ops Q i K a w)(hn:∀e a w,e≠.normal->¬Q e a w):wpOpIn c.F 0 P ops Q i K' a w:=by
  unfold wpOp at h;unfold wpOpIn;split
  · grind
  · rename_i o hi
    simp only[hi]at h;split
    · rename_i hw
      simp only[hw,if_true]at h;rcases h with h|⟨_,a1,w1,h⟩
      · exact Vl hk hn (Oper.wpIn_F (hd i o hi) h)
      grind
    · rename_i hw
      simp only[hw]at h;exact⟨λ_ _=>Tv,hk _ _ h⟩
def zls{ops:Array Oper}(hd:∀(i:Nat) (o:Oper),ops[i]?=some o->∀cl,o.op≠.defer cl){Q:Exit->Act->World->Prop}(hn:∀e a w,e≠.normal->¬Q e a w){md:Region.Mode}:∀(fuel:Nat) (listed:Array Bool) (a:Act) (w:World),wpAny P md ops Q fuel listed a w->wpAnyIn c.F 0 P md ops Q fuel listed a w:=by
  intro fuel;induction fuel with
  |zero=>intro listed a w h;exact h
  |succ fuel ih=>intro listed a w h;exact⟨h.1,λi hi=>zlq hd (λa w h=>ih _ a w h) (h.2 i hi) hn⟩
def ADraw.of_sched(hI:qe P c.I)(hm:P.follows .mixedOrders=true)(hops:Fy c ops=true){K:Fr->Store->Prop}{A:Fr}{st:Store}(S:Sched)(hs:Ai c ops S [] true=true)(hv:Af P c ops K S A st):ADraw P c ops K A st:=by
  refine⟨λid=>⟨λOth M a w sim=>wpIn_region_any hm (zls (λi o hi=>(Ki hops hi).nd) ?_ _ _ _ _ ?_)⟩⟩
  · grind
  have⟨β,sim⟩:=sim;have g:=Grow.drew w
  have hinv:DInv c ops Oth M w (Array.replicate ops.size false) [] [] A st M a w.drew:=
    ⟨φ,λi hi=>by simp[hi],λi h=>ω,λi h=>ω,λi h=>ω,λi h=>ω,⟨β,sim.grow g⟩,g.chg M,λi hi hl=>θd⟩
  have hl:left ops (Array.replicate ops.size false)=ops.size:=by
    unfold left;have:(List.range ops.size).countP (λi=> !(Array.replicate ops.size false).getD i true)=(List.range ops.size).length:=by rw[List.countP_eq_length];simp_all
    grind
  exact yq3 hI hops ops.size S _ [] [] A st M a w.drew hs hv hinv hl
def Qc(hI:qe P c.I){K:Fr->Store->Prop}{A:Fr}{st:Store}(S:Sched)(hv:Af P c ops K S A st)(hm:P.follows .mixedOrders=true:=by rfl)(hops:Fy c ops=true:=by rfl)(hs:Ai c ops S [] true=true:=by rfl):ADraw P c ops K A st:=ADraw.of_sched hI hm hops S hs hv
end
section
variable {x r:AV} {st st':Store} {a v:Int}
def ret{R:Ja}(h:R x st):∃r st',AV.le x r/\st.Has st'/\R r st':=⟨x,st,Tt,Store.Has.refl _,h⟩
def zd8{R:Ja}(h:AV.le x r)(k:R r st):∃r st',AV.le x r/\st.Has st'/\R r st':=⟨r,st,h,Store.Has.refl _,k⟩
def Bu{R:Ja}(h:AV.le x r)(k:st.Has st')(q:R r st'):∃r st',AV.le x r/\st.Has st'/\R r st':=⟨r,st',h,k,q⟩
def Lt{R:Ja}(q:R r st')(k:st.Has st')(h:AV.le x r):∃r st',AV.le x r/\st.Has st'/\R r st':=⟨r,st',h,k,q⟩
def optR{α:Type}{x:α}{K:α->Prop}(h:K x):optK (some x) K:=h
def bcd{c:Prop}[Decidable c]{p q:Prop}(h:c->p)(h':¬c->q):Ds (decide c) p q:=zk (λe=>h (of_decide_eq_true e)) (λe=>h' (of_decide_eq_false e))
def zu{b:Int}{p q:Prop}(h:a=b->p)(h':a≠b->q):Ds (a==b) p q:=zk (λe=>h (eq_of_beq e)) (λe=>h' (ne_of_beq_false e))
def qi{b:Int}{p q:Prop}(h:a≠b->p)(h':a=b->q):Ds (a != b) p q:=by grind[zk]
def yj{b:Bool}{p q:Prop}(h:Ds b q p):Ds (!b) p q:=by cases b<;>exact h
def ze{K:Prop}(h:-9223372036854775808<=v/\v<=9223372036854775807)(k:K):yu v/\K:=⟨h,k⟩
def Qd{K:Prop}(k:K)(h:-9223372036854775808<=v/\v<=9223372036854775807:=by omega):yu v/\K:=⟨h,k⟩
def zak{k:Nat}{rows:List (List AV)}{b:Nat}(hb:Fresh st b)(hr:rows≠[]):App k st (.lst k rows (some b)) rows (st.sT b (some (rows.length*k))):=
  .inr (.inr ⟨hr,b,hb,rfl,rfl⟩)
end
section
variable {st st':Store} {b p k o:Nat} {v:AV} {i:TI} {A:Fr}
theorem Fresh.ne_obj{x:AObj}(h:Fresh st b)(hp:st.obj p=some x):b≠p:=λe=>by rw[<-e,h.1]at hp;cases hp
theorem zd(st:Store)(p:Nat)(x:AObj):(st.sO p x).obj p=some x:=by simp[Store.sO]
theorem zf{x:AObj}(h:b≠p):(st.sO p x).obj b=st.obj b:=by simp[Store.sO,y9 h]
theorem Kd(st:Store)(p:Nat)(x:Option Nat):(st.sT p x).tok p=x:=by simp[Store.sT]
theorem Rc{x:Option Nat}(h:b≠p):(st.sT p x).tok b=st.tok b:=by simp[Store.sT,y9 h]
theorem yw(st:Store)(p:Nat)(x y:AObj):(st.sO p x).sO p y=st.sO p y:=by unfold Store.sO;grind
def si{x:AObj}(h:Fresh st b)(hn:b≠p):Fresh (st.sO p x) b:=⟨by rw[zf hn];exact h.1,h.2⟩
theorem zdb(st:Store)(p b:Nat)(x:AObj)(y:Option Nat):(st.sT b y).sO p x=(st.sO p x).sT b y:=rfl
theorem App.sO{rows:List (List AV)}{x y:AObj}(h:App k (st.sO p x) v rows st'):App k (st.sO p y) v rows (st'.sO p y):=by
  rcases h with⟨h1,h2,rfl⟩|⟨h1,h2,rfl⟩|⟨h1,b,hb,h2,rfl⟩
  · rw[yw];exact .inl ⟨h1,h2,rfl⟩
  · rw[yw];exact .inr (.inl ⟨h1,h2,rfl⟩)
  · have hne:b≠p:=λe=>by have:=hb.1;rw[e,zd]at this;cases this
    refine .inr (.inr ⟨h1,b,?_,h2,?_⟩)
    · exact⟨by rw[zf hne];have:=hb.1;rwa [zf hne]at this,hb.2⟩
    · rw[zdb,yw]
def App.boxed{rows:List (List AV)}{x:AObj}(h:App k st v rows st')(hp:Fresh st' p):App k (st.sO p x) v rows (st'.sO p x):=by
  rcases h with⟨h1,h2,rfl⟩|⟨h1,h2,rfl⟩|⟨h1,b,hb,h2,rfl⟩
  · exact .inl ⟨h1,h2,rfl⟩
  · exact .inr (.inl ⟨h1,h2,rfl⟩)
  · have hne:b≠p:=λe=>by have:=hp.2;grind[Kd]
    exact .inr (.inr ⟨h1,b,si hb hne,h2,rfl⟩)
def App.fresh{rows:List (List AV)}(h:App k st v rows st')(hp:Fresh st' p):st.obj p=none:=by
  cases ho:st.obj p with
  |none=>rfl
  |some x=>have:=h.has.obj p x ho;rw[hp.1]at this;cases this
def Fe{x:AObj}(h:st.obj p=none):(st.sO p x).Has st:=
  ⟨λb y hb=>by grind[zf],λ_ _ h=>h⟩
def ynm{x:Option Nat}(h:st.Has st'):(st.sT b x).Has (st'.sT b x):=
  ⟨h.obj,λi y hi=>by
    by_cases e:i=b
    · grind[Kd]
    · rw[Rc e]at hi⊢;exact h.tok _ _ hi⟩
def App.dropObj{rows:List (List AV)}{x:AObj}(h:App k (st.sO p x) v rows st')(hp:st.obj p=none):∃st2,App k st v rows st2/\st'.Has st2:=by
  rcases h with⟨h1,h2,rfl⟩|⟨h1,h2,rfl⟩|⟨h1,b,hb,h2,rfl⟩
  · exact⟨st,.inl ⟨h1,h2,rfl⟩,Fe hp⟩
  · exact⟨st,.inr (.inl ⟨h1,h2,rfl⟩),Fe hp⟩
  · have hne:b≠p:=λe=>by have:=hb.1;rw[e,zd]at this;cases this
    refine⟨_,.inr (.inr ⟨h1,b,⟨?_,hb.2⟩,h2,rfl⟩),ynm (Fe hp)⟩;have:=hb.1
    rwa [zf hne]at this
theorem App.obj{rows:List (List AV)}(h:App k st v rows st')(p:Nat):st'.obj p=st.obj p:=by rcases h with⟨_,_,rfl⟩|⟨_,_,rfl⟩|⟨_,_,_,_,rfl⟩<;>rfl
def App.read{rows:List (List AV)}{x:AObj}(h:App k (st.sO p x) v rows st'):st'.obj p=some x:=by rw[h.obj,zd]
def App.src{rows:List (List AV)}(h:App k st v rows st'):kh k (.av v)=some rows:=by
  rcases h with⟨rfl,rfl,_⟩|⟨rfl,rfl,_⟩|⟨_,b,_,rfl,_⟩
  · rfl
  · rfl
  · simp[kh]
theorem App.split{rows:List (List AV)}{x:AObj}(h:App k (st.sO p x) v rows st'):∃st1:Store,st'=st1.sO p x/\st1.Has st/\∀y,App k (st.sO p y) v rows (st1.sO p y):=by
  rcases h with⟨h1,h2,rfl⟩|⟨h1,h2,rfl⟩|⟨h1,b,hb,h2,rfl⟩
  · exact⟨st,rfl,Store.Has.refl _,λy=>.inl ⟨h1,h2,rfl⟩⟩
  · exact⟨st,rfl,Store.Has.refl _,λy=>.inr (.inl ⟨h1,h2,rfl⟩)⟩
  · have hne:b≠p:=λe=>by have:=hb.1;rw[e,zd]at this;cases this
    have hf:Fresh st b:=⟨by have:=hb.1;rwa [zf hne]at this,hb.2⟩
    refine⟨st.sT b (some (rows.length*k)),(zdb _ _ _ _ _).symm,⟨λ_ _ h=>h,λi y hi=>?_⟩,λy=>.inr (.inr ⟨h1,b,si hf hne,h2,rfl⟩)⟩;have:i≠b:=λe=>by rw[e,hf.2]at hi;cases hi
    rw[Rc this];exact hi
theorem ACalls.drop{P:Program}{f:FuncId}{xs:List AV}{R:Ja}(h:st.Has st')(hc:ACalls P f xs st' R):ACalls P f xs st R:=by refine⟨λOth M w vs sto hr=>?_⟩;have h1:=hc.out Oth M w vs (sto.weaken h) hr;trivial
theorem App.cells{rows:List (List AV)}(h:App k st v rows st'):cellsOf v=some [v]:=by rcases h with⟨rfl,rfl,_⟩|⟨rfl,rfl,_⟩|⟨_,b,_,rfl,_⟩<;>rfl
theorem App.lst{rows:List (List AV)}(h:App k st v rows st')(hne:rows≠[]):∃b,v=.lst k rows (some b):=by
  rcases h with⟨_,h,_⟩|⟨_,h,_⟩|⟨_,b,_,h,_⟩
  · grind
  · grind
  grind
def App.one{rows:List (List AV)}(h:App k st v rows st'):v.one=true:=by rcases h with⟨rfl,rfl,_⟩|⟨rfl,rfl,_⟩|⟨_,b,_,rfl,_⟩<;>rfl
def Ch{l:List AV}{K:Fr->Store->Prop}(hc:cellsOf v=some [v])(h1:v.one=true)(hi:i.size=1)(ho:st.obj b=some (.cells l))(hl:o+1<=l.length)
    (hk:K A (st.sO b (.cells (zq l o [v])))):Dx i A st (.av (.s (.pointer (some ⟨b,o,none⟩)))) v K:=by
  unfold Dx;rw[hc];show(bif Nat.beq 1 i.size&&([v].all AV.one)then _ else False);rw[hi];simp only[List.all_cons,h1,List.all_nil,Fb5,Fd4,cond_true];rw[ho];exact⟨hl,Iw hk⟩
def ye{st2:Store}{l:List AV}{K:Fr->Store->Prop}(hc:cellsOf v=some [v])(h1:v.one=true)(hi:i.size=1)(ho:st.obj b=some (.cells l))(hl:o+1<=l.length)
    (he:st.sO b (.cells (zq l o [v]))=st2) (hk:K A st2):Dx i A st (.av (.s (.pointer (some ⟨b,o,none⟩)))) v K:=
  Ch hc h1 hi ho hl (he▸hk)
theorem Ic{q:Nat}{x y:AObj}(h:q≠p):(st.sO p x).sO q y=(st.sO q y).sO p x:=by
  unfold Store.sO
  congr
  funext i
  by_cases hi:i=p
  · subst hi;simp[y9 (Ne.symm h)]
  · simp[y9 hi]
end
def u8(b:UInt8):AV:=.s (.int .u8 b.toNat)
def int(n:Int):AV:=.s (.int .i64 n)
def u64(n:Int):AV:=.s (.int .u64 n)
def bool(b:Bool):AV:=.s (.bool b)
def nil:AV:=.s (.slice none 0 0)
def rws{α:Type}(f:α->List AV)(l:List α):List (List AV):=l.map f
def lst{α:Type}(k:Nat)(f:α->List AV)(l:List α):AV:=.lst k (rws f l) none
section
variable {α:Type} {f:α->List AV}
theorem zi(l:List α):(rws f l).length=l.length:=θi
def zp{l:List α}{i:Nat}(h:i<l.length):(rws f l)[i]?=some (f l[i]):=by simp[rws,h]
theorem Rf{l:List α}{i:Nat}(h:i<l.length):rws f (l.take i)++[f l[i]]=rws f (l.take (i+1)):=by grind[rws,List.take_succ_eq_append_getElem]
theorem Ke(a b:List α):rws f a++rws f b=rws f (a++b):=θi
def k9{l:List α}{i:Nat}(h:decide ((i:Int)<((rws f l).length:Int))=true):i<l.length:=by rw[zi]at h;grind
def Fg{l:List α}{i:Nat}(h:decide ((i:Int)<((rws f l).length:Int))=false)(h2:i<=l.length):i=l.length:=by rw[zi]at h;grind
def Mp{l m:List α}(h:(((rws f l).length:Int) != ((rws f m).length:Int))=false):l.length=m.length:=by grind[zi]
end
def u8C(b:UInt8):List AV:=[u8 b]
def zn(n:Int):List AV:=[int n]
abbrev rowsB(l:List UInt8):List (List AV):=rws u8C l
def qa(l:List UInt8):AV:=lst 1 u8C l
def yc(l:List Int):AV:=lst 1 zn l
def isF{R:Ja}{b:Bool}{st:Store}(h:R (bool b) st)(hb:b=false):R (bool false) st:=δ
def isT{R:Ja}{b:Bool}{st:Store}(h:R (bool b) st)(hb:b=true):R (bool true) st:=δ
structure Gnd where
 W:Int
 H:Int
 T:List UInt8
 deriving DecidableEq
structure Cmd where
 P:Int
 S:Int
 K:Int
 N:Int
 U:List Int
 T:Int
 W:Int
 H:Int
 X:Int
 Y:Int
 deriving DecidableEq
structure Frm where
 turn:Int
 C:List Cmd
 hash:Int
 deriving DecidableEq
structure Rep where
 P:Int
 G:Gnd
 F:List Frm
 deriving DecidableEq
def zw(g:Gnd):List AV:=[int g.W,int g.H,qa g.T]
def zz(c:Cmd):List AV:=[int c.P,int c.S,int c.K,int c.N,yc c.U,int c.T,int c.W,int c.H,int c.X,int c.Y]
def xx(f:Frm):List AV:=[int f.turn,lst 10 zz f.C,u64 f.hash]
def Cmd.fits(c:Cmd):Prop:=c.U.length<=1000000000000
def Frm.fits(f:Frm):Prop:=f.C.length<=1000000000000/\∀c∈f.C,c.fits
def Gnd.fits(g:Gnd):Prop:=g.T.length<=1000000000000
def Rep.fits(r:Rep):Prop:=r.G.fits/\r.F.length<=1000000000000/\∀f∈r.F,f.fits
def zv(g:Gnd):Prop:=(1<=g.W/\g.W<=128)/\(1<=g.H/\g.H<=128)/\(g.T.length:Int)=g.W*g.H/\∀t∈g.T,t.toNat<=5
def Cz(l:List Int):Prop:=(1<=l.length/\l.length<=64)/\∀j,j<l.length->(1<=l.getD j 0/\l.getD j 0<=1099511627776)/\(0<j->l.getD (j-1) 0<l.getD j 0)
def ky(t:Int):Prop:=0<=t/\t<=16383
def idP(t:Int):Prop:=1<=t/\t<=1099511627776
def jv(x y:Int):Prop:=(-1099511627776<=x/\x<=1099511627776)/\(-1099511627776<=y/\y<=1099511627776)
def Cmd.only(c:Cmd):Cmd:=
 if c.K=1 then⟨c.P,c.S,c.K,c.N,[],0,0,0,c.X,c.Y⟩else
 if c.K=2 then⟨c.P,c.S,c.K,0,c.U,c.T,0,0,0,0⟩else
 if c.K=3 then⟨c.P,c.S,c.K,0,c.U,0,0,0,0,0⟩else
 if c.K=4 then⟨c.P,c.S,c.K,0,[],c.T,c.W,c.H,0,0⟩else
 if c.K=5 then⟨c.P,c.S,c.K,c.N,[],0,0,0,0,0⟩else
 if c.K=6 then⟨c.P,c.S,c.K,c.N,c.U,0,0,0,0,0⟩else
 if c.K=7 then⟨c.P,c.S,c.K,c.N,[],c.T,0,0,0,0⟩else
 ⟨c.P,c.S,c.K,0,[],0,0,0,0,0⟩
def Cmd.okP(c:Cmd):Prop:=
 (c.K=1/\(0<=c.N/\c.N<=3)/\jv c.X c.Y)\/(c.K=2/\Cz c.U/\ky c.T)\/(c.K=3/\Cz c.U)∨
 (c.K=4/\ky c.T/\(1<=c.W/\c.W<=4)/\(1<=c.H/\c.H<=4))\/(c.K=5/\idP c.N)\/(c.K=6/\Cz c.U/\idP c.N)\/(c.K=7/\idP c.N/\ky c.T)
def vq(c:Cmd):Prop:=c.okP/\(1<=c.P/\c.P<=8)/\(0<=c.S/\c.S<=1099511627776)/\c.only=c
def Cmd.ok1{c:Cmd}(h:c.K=1):c.okP↔(0<=c.N/\c.N<=3)/\jv c.X c.Y:=θn
theorem Cmd.only1{c:Cmd}(h:c.K=1):c.only=⟨c.P,c.S,c.K,c.N,[],0,0,0,c.X,c.Y⟩:=θo
def Cmd.ok2{c:Cmd}(h:c.K=2):c.okP↔Cz c.U/\ky c.T:=θn
theorem Cmd.only2{c:Cmd}(h:c.K=2):c.only=⟨c.P,c.S,c.K,0,c.U,c.T,0,0,0,0⟩:=θo
def Cmd.ok3{c:Cmd}(h:c.K=3):c.okP↔Cz c.U:=θn
theorem Cmd.only3{c:Cmd}(h:c.K=3):c.only=⟨c.P,c.S,c.K,0,c.U,0,0,0,0,0⟩:=θo
def Cmd.ok4{c:Cmd}(h:c.K=4):c.okP↔ky c.T/\(1<=c.W/\c.W<=4)/\(1<=c.H/\c.H<=4):=θn
theorem Cmd.only4{c:Cmd}(h:c.K=4):c.only=⟨c.P,c.S,c.K,0,[],c.T,c.W,c.H,0,0⟩:=θo
def Cmd.ok5{c:Cmd}(h:c.K=5):c.okP↔idP c.N:=θn
theorem Cmd.only5{c:Cmd}(h:c.K=5):c.only=⟨c.P,c.S,c.K,c.N,[],0,0,0,0,0⟩:=θo
def Cmd.ok6{c:Cmd}(h:c.K=6):c.okP↔Cz c.U/\idP c.N:=θn
theorem Cmd.only6{c:Cmd}(h:c.K=6):c.only=⟨c.P,c.S,c.K,c.N,c.U,0,0,0,0,0⟩:=θo
def Cmd.ok7{c:Cmd}(h:c.K=7):c.okP↔idP c.N/\ky c.T:=θn
theorem Cmd.only7{c:Cmd}(h:c.K=7):c.only=⟨c.P,c.S,c.K,c.N,[],c.T,0,0,0,0⟩:=θo
def Cmd.ok0{c:Cmd}(h1:c.K≠1)(h2:c.K≠2)(h3:c.K≠3)(h4:c.K≠4)(h5:c.K≠5)(h6:c.K≠6)(h7:c.K≠7):¬c.okP:=by grind[Cmd.okP]
theorem Cmd.only0{c:Cmd}(h1:c.K≠1)(h2:c.K≠2)(h3:c.K≠3)(h4:c.K≠4)(h5:c.K≠5)(h6:c.K≠6)(h7:c.K≠7):c.only=⟨c.P,c.S,c.K,0,[],0,0,0,0,0⟩:=by grind[Cmd.only]
def leL:List AV->List AV->Prop
 |[],[]=>True
 |x::xs,y::ys=>AV.le x y/\leL xs ys
 |_,_=>False
theorem R6:∀{xs ys:List AV},leL xs ys->xs.length=ys.length/\∀(i:Nat) (x y:AV),xs[i]?=some x->ys[i]?=some y->AV.le x y:=by
 intro xs;induction xs with
 |nil=>
  intro ys h;cases ys with
  |nil=>simp
  |cons y ys=>exact h.elim
 |cons x xs ih=>
  intro ys h;cases ys with
  |nil=>exact h.elim
  |cons y ys=>
   have⟨h1,h2⟩:=ih h.2;refine⟨by simp[h1],λi u v hu hv=>?_⟩;cases i with
   |zero=>simp at hu hv;subst hu hv;exact h.1
   |succ i=>grind
def AV.le_aggL{xs ys:List AV}(h:leL xs ys):AV.le (.agg xs) (.agg ys):=AV.le_agg (R6 h).1 (R6 h).2
theorem zec{w:World}{T:BB}{xs ys:List AV}{vs:List Value}(h:leL xs ys)(hr:Reads w T xs vs):Reads w T ys vs:=by have⟨h1,h2⟩:=R6 h;refine⟨by rw[<-h1];exact hr.1,λi y v hy hv=>?_⟩;have hi:i<xs.length:=δ;exact h2 i xs[i] y (Fab hi) hy w T v (hr.2 i _ v (Fab hi) hv)
def AV.le_tupL{xs ys:List AV}(h:leL xs ys):AV.le (.tup xs) (.tup ys):=by intro w T v hv;grind[zbc,vx,zec]
def ACalls.le{P:Program}{f:FuncId}{xs ys:List AV}{st:Store}{R:Ja}(h:leL xs ys)(hc:ACalls P f ys st R):ACalls P f xs st R:=
 ⟨λOth M w vs sto hr=>hc.out Oth M w vs sto (zec h hr)⟩
def Cmd.eq_of{a b:Cmd}(h1:a.P=b.P)(h2:a.S=b.S)(h3:a.K=b.K)(h4:a.N=b.N)(h5:a.U=b.U)(h6:a.T=b.T)(h7:a.W=b.W)(h8:a.H=b.H)(h9:a.X=b.X)(h10:a.Y=b.Y):a=b:=by cases a;simp_all
def Np{a b:Int}(h1:1<=a/\a<=128)(h2:1<=b/\b<=128):1<=a*b/\a*b<=16384:=by have h3:a*b<=128*128:=Fbo h1.2 h2.2 θ θ;have h4:0<a*b:=Int.mul_pos θ θ;omega
def Ac(a b:Int):Int:=if a<b then -1 else if a>b then 1 else 0
def orZ(l:List Int):Int:=(l.find? (·≠0)).getD 0
def Bc(n:Int):UInt8:=UInt8.ofNat (n%256).toNat
theorem p6(n:Int):IntKind.u8.wrap n=(Bc n).toNat:=by grind[Bc,UInt8.toNat_ofNat',IntKind.wrap,IntKind.bits,IntKind.signed]
def zkg(op:BinOp)(a b:UInt8):vr op .u8 a.toNat b.toNat=((match op with|.and=>a &&& b|.or=>a ||| b|.xor=>a^^^b|_=>a &&& ~~~b:UInt8).toNat:Int):=by
 have h:∀a:UInt8,BitVec.ofInt IntKind.u8.bits (a.toNat:Int)=a.toBitVec:=by intro a;apply BitVec.eq_of_toNat_eq;show(BitVec.ofInt 8 (a.toNat:Int)).toNat=a.toBitVec.toNat;simp
 have hw:∀x:UInt8,IntKind.u8.wrap (x.toBitVec.toNat:Int)=(x.toNat:Int):=by intro x;have hx:=x.toNat_lt;grind[IntKind.wrap,IntKind.bits,IntKind.signed]
 unfold vr;simp only[h];cases op<;>exact hw _
def zh2(s:Int)(b:UInt8):Int:=IntKind.u64.wrap (vr .xor .u64 s (IntKind.u64.wrap b.toNat)*1099511628211)
def vd(s:Int)(l:List UInt8):Int:=l.foldl zh2 s
def Bf:Int:=14695981039346656037
theorem yo2{s:Int}{l:List UInt8}{i:Nat}(h:i<l.length):vd s (l.take (i+1))=zh2 (vd s (l.take i)) l[i]:=by grind[vd,List.take_succ_eq_append_getElem]
def wi(s:Int):List UInt8:=(List.range 8).map λi=>Bc (s/256^i)
theorem fa(s:Int):(wi s).length=8:=ζ
theorem yqu(s:Int){i:Nat}(h:i<8):(wi s).take i++[Bc (s/256^i)]=(wi s).take (i+1):=by grind[List.take_succ_eq_append_getElem,wi]
theorem ya8(s:Int)(i:Nat):(s/256^i).fdiv (2^(min (8:Int).toNat IntKind.u64.bits))=s/256^(i+1):=by have:(min (8:Int).toNat IntKind.u64.bits)=8:=ψ;grind[Int.ediv_ediv_of_nonneg]
def D5(n:Nat):List UInt8:=if h:128<=n then(Bc n ||| 128)::D5 (n/128)else [Bc n]
termination_by n
decreasing_by omega
def yi(n:Int):List UInt8:=if 128<=n then D5 n.toNat else [Bc n]
theorem yh1{n:Int}(h:128<=n):yi n=(Bc n ||| 128)::yi (n/128):=by
 obtain⟨m,rfl⟩:=Fcb (a:=n) θ;unfold yi;rw[if_pos h,Fbc];rw[D5,dif_pos θ]
 congr 1
 split
 ·congr 1
 ·rw[D5,dif_neg θ];rfl
theorem yhz{n:Int}(h:n<128):yi n=[Bc n]:=by unfold yi;grind
def yh4:∀(k n:Nat),n<128^k->(D5 n).length<=max k 1:=by
 intro k;induction k with
 |zero=>simp_all[D5]
 |succ k ih=>
  grind[D5]
theorem D4{n:Int}(h:n<=9223372036854775807):(yi n).length<=9:=by
 unfold yi;split
 ·exact yh4 9 n.toNat θ
 ·simp
def jk(l:List Int):List UInt8:=l.flatMap yi
theorem yjh{l:List Int}{i:Nat}(h:i<l.length):jk (l.take (i+1))=jk (l.take i)++yi l[i]:=by grind[jk,List.take_succ_eq_append_getElem]
def L4:∀{l:List Int},(∀n∈l,n<=9223372036854775807)->(jk l).length<=9*l.length:=by
 intro l;induction l with
 |nil=>trivial
 |cons n l ih=>
  grind[D4,jk]
def wg(n:Int):List UInt8:=if n<0 then yi (-2*n-1)else yi (2*n)
def I64(n:Int):Prop:=-9223372036854775808<=n/\n<=9223372036854775807
def I62(n:Int):Prop:=-4611686018427387904<n/\n<4611686018427387904
def Bt(g:Gnd):List UInt8:=[84,71]++yi g.W++yi g.H++g.T
def j7(g:Gnd):List UInt8:=Bt g++wi (vd Bf (Bt g))
def cy{n:Int}(h:I62 n):(wg n).length<=9:=by grind[wg,I62,D4]
def sa{g:Gnd}(h:zv g):(Bt g).length<=16404/\(j7 g).length<=16412:=by have⟨h1,h2,h3,_⟩:=h;have hm:=Np h1 h2;grind[D4,Bt,j7,fa]
theorem yi4(m:Int):vr .or .u8 (IntKind.u8.wrap m) 128=((Bc m ||| 128).toNat:Int):=by rw[p6];exact zkg .or (Bc m) 128
theorem zc8(m:Int):m.fdiv (2^(min (7:Int).toNat IntKind.i64.bits))=m/128:=by have:(min (7:Int).toNat IntKind.i64.bits)=7:=ψ;grind
end Go.V
namespace Go.V
theorem zfr(a q m:Nat)(h:a<2^m):a ||| q*2^m=a+q*2^m:=by grind[Nat.two_pow_add_eq_or_of_lt,Nat.mul_comm]
theorem zkh(a b:Nat)(ha:a<2^64)(hb:b<2^64):vr .or .i64 a b=IntKind.i64.wrap ((a ||| b:Nat):Int)/\vr .or .u64 a b=IntKind.u64.wrap ((a ||| b:Nat):Int):=by
 have h:∀a:Nat,a<2^64->(BitVec.ofInt 64 (a:Int)).toNat=a:=φ;constructor
 ·show IntKind.i64.wrap ((BitVec.ofInt 64 (a:Int) ||| BitVec.ofInt 64 (b:Int)).toNat:Int)=_;grind
 ·show IntKind.u64.wrap ((BitVec.ofInt 64 (a:Int) ||| BitVec.ofInt 64 (b:Int)).toNat:Int)=_;grind
theorem H8{v:Int}(h:0<=v)(h2:v<18446744073709551616):IntKind.u64.wrap v=v:=by grind[IntKind.wrap,IntKind.bits,IntKind.signed]
def wh:List UInt8->Nat->Int->Int×Nat×Int
 |[],_,_=>(0,0,11)
 |c::l,i,n=>
  if(128<=c.toNat/\i=8)\/(c.toNat=0/\0<i)then(0,0,1)
  else if c.toNat<128 then(n+(c.toNat%128:Nat)*128^i,i+1,0)
  else wh l (i+1) (n+(c.toNat%128:Nat)*128^i)
def xk(b:List UInt8):Int×Nat×Int:=wh b 0 0
def zig(n:Int):Int:=if n%2=0 then n/2 else -(n/2)-1
def zhv(b:List UInt8):Int×Nat×Int:=(zig (xk b).1,(xk b).2.1,(xk b).2.2)
def sd(b:List UInt8):List UInt8×Nat×Int:=
 if(xk b).2.2≠0 then([],0,(xk b).2.2)
 else if(xk b).1>1048576 then([],0,1)
 else if(xk b).1>(b.length:Int)-(xk b).2.1 then([],0,11)
 else((b.drop (xk b).2.1).take (xk b).1.toNat,(xk b).2.1+(xk b).1.toNat,0)
structure Rd where
 b:List UInt8
 e:Int
 deriving DecidableEq
def Rd.fail(s:Rd)(e:Int):Rd:=if s.e=0 then⟨s.b,e⟩else s
def Rd.must(s:Rd)(ok:Bool):Rd:=if ok then s else s.fail 1
def Rd.take(s:Rd)(n:Int)(k:Nat)(e:Int):Int×Rd:=if(s.fail e).e≠0 then(0,s.fail e)else(n,⟨s.b.drop k,0⟩)
def inB(n lo hi:Int):Bool:=decide (lo<=n/\n<=hi)
def Rd.got(s:Rd)(g:Int×Nat×Int)(lo hi:Int):Int×Rd:=
 if s.e≠0 then(0,s)else((s.take g.1 g.2.1 g.2.2).1,(s.take g.1 g.2.1 g.2.2).2.must (inB (s.take g.1 g.2.1 g.2.2).1 lo hi))
def Rd.num(s:Rd)(lo hi:Int):Int×Rd:=s.got (xk s.b) lo hi
def Rd.int(s:Rd)(lo hi:Int):Int×Rd:=s.got (zhv s.b) lo hi
def Rd.byte(s:Rd):UInt8×Rd:=
 if s.e≠0 then(0,s)else match s.b with|[]=>(0,⟨[],11⟩)|c::l=>(c,⟨l,0⟩)
def Rd.same(s:Rd)(l:List UInt8):Rd:=l.foldl (λs c=>s.byte.2.must (s.byte.1==c)) s
def Rd.raw(s:Rd):List UInt8×Rd:=if s.e≠0 then([],s)else((sd s.b).1,(s.take 0 (sd s.b).2.1 (sd s.b).2.2).2)
def Rd.fin(s:Rd):Rd:=s.must (s.b.length==0)
def Rd.idsGo:Nat->Rd->Int->List Int->List Int×Rd
 |0,s,_,l=>(l,s)
 |n+1,s,last,l=>if s.e≠0 then(l,s)else idsGo n (s.num (last+1) 1099511627776).2 (s.num (last+1) 1099511627776).1 (l++[(s.num (last+1) 1099511627776).1])
def Rd.ids(s:Rd):List Int×Rd:=idsGo (s.num 1 64).1.toNat (s.num 1 64).2 0 []
end Go.V
namespace Go.V
end Go.V
namespace Go.V
end Go.V
namespace Go.V
end Go.V
namespace Go.V
end Go.V
namespace Go.V
end Go.V
namespace Go.V
structure Ask29 where
 R:Rep
 X:List UInt8
def Cmd.sized(c:Cmd):Prop:=c.U.length<=140737488355328
def Frm.sized(f:Frm):Prop:=f.C.length<=140737488355328/\∀c∈f.C,c.sized
def Rep.sized(r:Rep):Prop:=r.G.T.length<=140737488355328/\r.F.length<=140737488355328/\∀f∈r.F,f.sized
def Ask29.sized(a:Ask29):Prop:=a.R.sized/\a.X.length<=140737488355328
end Go.V
namespace Go.V
end Go.V
namespace Go.V
def nrm(a:Int):Int:=if a< -9223372036854775807 then -9223372036854775807 else a
theorem yjk(n:Int):max2 n (Int.negSucc 9223372036854775806)=nrm n:=by simp_all[max2,nrm]
theorem F5{n:Int}(h:yu n):-9223372036854775807<=nrm n/\nrm n<=9223372036854775807:=by grind[yu,nrm]
theorem Hl{n:Int}(h:-9223372036854775807<=n):nrm n=n:=by unfold nrm;omega
def Bj(s:Int):Int:=if s>9223372036854775807 then 9223372036854775807 else if s< -9223372036854775807 then -9223372036854775807 else s
def qs(a b:Int):Int:=Bj (nrm a+nrm b)
def qf(a b:Int):Int:=qs a (-nrm b)
def fy(s:Int):-9223372036854775807<=Bj s/\Bj s<=9223372036854775807:=by grind[Bj]
def ta(a b:Int):-9223372036854775807<=qs a b/\qs a b<=9223372036854775807:=fy _
theorem sh(a b:Int):-9223372036854775807<=qf a b/\qf a b<=9223372036854775807:=fy _
def ek(a b:Int):yu (qs a b):=by have:=ta a b;unfold yu;omega
def Kt(a b:Int):yu (qf a b):=by have:=sh a b;unfold yu;omega
def asz(a:Int):Int:=if nrm a<0 then -nrm a else nrm a
def Pc{n:Int}(h:yu n):0<=asz n/\asz n<=9223372036854775807:=by have:=F5 h;unfold asz;omega
def Bm(n:Int):List AV:=[u64 (n/18446744073709551616),u64 (n%18446744073709551616)]
theorem za2(v:Int):IntKind.u64.wrap v=v%18446744073709551616:=ζ
theorem zam{a:Int}(h:0<=a):vr .and .u64 a 4294967295=a%4294967296:=by obtain⟨n,rfl⟩:=Fcb h;show IntKind.u64.wrap ((BitVec.ofInt 64 (n:Int) &&& BitVec.ofInt 64 (4294967295:Int)).toNat:Int)=_;rw[za2];have e1:BitVec.ofInt 64 (n:Int)=BitVec.ofNat 64 n:=BitVec.ofInt_natCast ..;have e2:BitVec.ofInt 64 (4294967295:Int)=BitVec.ofNat 64 4294967295:=rfl;rw[e1,e2,BitVec.toNat_and,BitVec.toNat_ofNat,BitVec.toNat_ofNat];have e3:(4294967295:Nat)%2^64=2^32-1:=ψ;rw[e3,Nat.and_two_pow_sub_one_eq_mod];omega
theorem ya9(a:Int):a.fdiv (2^(min (32:Int).toNat IntKind.u64.bits))=a/4294967296:=by have:(min (32:Int).toNat IntKind.u64.bits)=32:=ψ;grind
def zl2{n hi lo:Int}(h1:hi=n/18446744073709551616)(h2:lo=n%18446744073709551616):[AV.s (.int .u64 hi),AV.s (.int .u64 lo)]=Bm n:=by subst h1 h2;rfl
def zn0(x y:Int)(hx:0<=x)(hx2:x<18446744073709551616)(hy:0<=y)(hy2:y<18446744073709551616):
  ∃p00 p10 p01 p11:Int,p00=(x%4294967296)*(y%4294967296)/\p10=(x/4294967296)*(y%4294967296)/\p01=(x%4294967296)*(y/4294967296)/\p11=(x/4294967296)*(y/4294967296)∧
   x*y=p11*18446744073709551616+(p10+p01)*4294967296+p00/\0<=p00/\p00<=18446744065119617025/\0<=p10/\p10<=18446744065119617025/\0<=p01/\p01<=18446744065119617025/\0<=p11/\p11<=18446744065119617025:=by
 have b:∀u v:Int,0<=u->u<=4294967295->0<=v->v<=4294967295->0<=u*v/\u*v<=18446744065119617025:=by intro u v h1 h2 h3 h4;refine⟨Fa8 h1 h3,?_⟩;have h5:u*v<=4294967295*4294967295:=Fbo h2 h4 h3 ψ;exact h5
 refine⟨_,_,_,_,rfl,rfl,rfl,rfl,?_,?_⟩
 ·grind
 ·have⟨h1,h2⟩:=b (x%4294967296) (y%4294967296) θ θ θ θ;have⟨h3,h4⟩:=b (x/4294967296) (y%4294967296) θ θ θ θ;have⟨h5,h6⟩:=b (x%4294967296) (y/4294967296) θ θ θ θ;have⟨h7,h8⟩:=b (x/4294967296) (y/4294967296) θ θ θ θ;omega
abbrev Vc:=Int×Int
def yp(p:Vc):List AV:=[int p.1,int p.2]
def Vc.ok(p:Vc):Prop:=yu p.1/\yu p.2
def jd(a b:Vc):Vc:=(qf a.1 b.1,qf a.2 b.2)
def sqr(v:Vc):Int:=asz v.1*asz v.1+asz v.2*asz v.2
def near(a b:Vc)(r:Int):Bool:=decide (0<r/\sqr (jd a b)<r*r)
end Go.V
namespace Go.V
def Store.un(a g:Store):Store:=
  ⟨λb=>match g.obj b with|some x=>some x|none=>a.obj b,λb=>match g.tok b with|some x=>some x|none=>a.tok b⟩
def Store.has(g:Store)(b:Nat):Prop:=g.obj b≠none\/g.tok b≠none
def zj(a g:Store):Prop:=∀b,a.has b->¬g.has b
theorem vj{g:Store}{b:Nat}(h:¬g.has b):g.obj b=none/\g.tok b=none:=by
  constructor
  · cases h1:g.obj b with
    |none=>rfl
    |some x=>exact absurd (Or.inl δ) h
  · cases h1:g.tok b with
    |none=>rfl
    |some x=>exact absurd (Or.inr δ) h
theorem j6{g:Store}{b:Nat}{x:AObj}(h:g.obj b=some x):g.has b:=.inl δ
theorem Mm{g:Store}{b:Nat}{x:Nat}(h:g.tok b=some x):g.has b:=.inr δ
theorem fresh_iff{g:Store}{b:Nat}:Fresh g b↔¬g.has b:=
  ⟨λ⟨h1,h2⟩ h=>h.elim (λh=>h h1) (λh=>h h2),vj⟩
theorem zg{a g:Store}{b:Nat}{x:AObj}(h:g.obj b=some x):(a.un g).obj b=some x:=by simp[Store.un,h]
theorem yf{a g:Store}{b:Nat}{x:AObj}(hd:zj a g)(h:a.obj b=some x):(a.un g).obj b=some x:=by simp[Store.un,(vj (hd b (j6 h))).1,h]
def K7{a g:Store}{b:Nat}{x:Nat}(hd:zj a g)(h:a.tok b=some x):(a.un g).tok b=some x:=by simp[Store.un,(vj (hd b (Mm h))).2,h]
def Ft{a g:Store}{b:Nat}{x:Nat}(h:g.tok b=some x):(a.un g).tok b=some x:=by simp[Store.un,h]
def zbr{a g:Store}{b:Nat}{x:AObj}(h:(a.un g).obj b=some x):g.obj b=some x\/(g.obj b=none/\a.obj b=some x):=by simp only[Store.un]at h;grind
def zbq{a g:Store}{b:Nat}{x:Nat}(h:(a.un g).tok b=some x):g.tok b=some x\/(g.tok b=none/\a.tok b=some x):=by simp only[Store.un]at h;grind
theorem un_has{a g:Store}{b:Nat}:(a.un g).has b↔a.has b\/g.has b:=by grind[Store.has,Store.un]
section
variable {P:Program}
def ACalls.frame{f:FuncId}{xs:List AV}{a g:Store}{R R':Ja}(hd:zj a g)(h:ACalls P f xs a R)(hR:∀r a',R r a'->zj a' g->R' r (a'.un g)):ACalls P f xs (a.un g) R':=by
  refine⟨λOth M w vs sto hr=>?_⟩
  let gM:Nat->Nat->Prop:=λb o=>M b o/\g.has b
  let M1:Nat->Nat->Prop:=λb o=>M b o/\¬g.has b
  let O1:Nat->Nat->Prop:=λb o=>Oth b o\/gM b o
  have hT:(λ(b o:Nat)=>M1 b o\/O1 b o)=λb o=>M b o\/Oth b o:=δ
  have sto1:StoreOK a O1 M1 w:=
    { obj:=λb x hx=>by
        rw[hT];have:=sto.obj b x (yf hd hx);exact⟨this.1,λo=>⟨this.2 o,hd b (j6 hx)⟩⟩
      tok:=λb top hx=>by have⟨c,e,fr,h1,h2,h3,h4⟩:=sto.tok b top (K7 hd hx);exact⟨c,e,fr,h1,h2,h3,λo ho=>⟨h4 o ho,hd b (Mm hx)⟩⟩
      mlt:=λb o hm=>sto.mlt b o hm.1
      olt:=λb o hm=>by
        rcases hm with h|h
        · exact sto.olt b o h
        · exact sto.mlt b o h.1
      dis:=λb o hO hM=>by
        rcases hO with h|h
        · exact sto.dis b o h hM.1
        grind}
  have h1:=h.out O1 M1 w vs sto1 δ;have key:∀v w',xm a R O1 M1 w v w'->xm (a.un g) R' Oth M w v w':=by
    rintro v w' ⟨r,a',M2,hRr,hv,hsto,hchg⟩
    let M':Nat->Nat->Prop:=λb o=>M2 b o\/gM b o
    have hT2:(λ(b o:Nat)=>M2 b o\/O1 b o)=λb o=>M' b o\/Oth b o:=δ;have hglt:∀b,g.has b->b<w.heap.size:=by
      intro b hb;rcases hb with hb|hb
      · cases hx:g.obj b with
        |none=>grind
        |some x=>exact sto.mlt b 0 ((sto.obj b x (zg hx)).2 0)
      · cases hx:g.tok b with
        |none=>grind
        | some x=>
          have⟨c,e,fr,h1,_⟩:=sto.tok b x (Ft hx);grind
    have hno:∀b o,M2 b o->¬g.has b:=λb o hm hg=>(hchg.sub b o hm (hglt b hg)).2 hg;have hd':zj a' g:=by
      intro b hb;rcases hb with hb|hb
      · cases hx:a'.obj b with
        |none=>grind
        |some x=>exact hno b 0 ((hsto.obj b x hx).2 0)
      · cases hx:a'.tok b with
        |none=>grind
        | some x=>
          have⟨c,e,fr,h1,h2,h3,h4⟩:=hsto.tok b x hx;grind
    have hblk:∀b,g.has b->w'.heap[b]?=w.heap[b]?:=λb hg=>hchg.blk b (hglt b hg) λo hm=>hm.2 hg;refine⟨r,a'.un g,M',hR r a' hRr hd',δ,?_,?_⟩
    · refine{obj:=λb x hx=>?_,tok:=λb top hx=>?_,mlt:=λb o hm=>?_,olt:=λb o hm=>Nat.lt_of_lt_of_le (sto.olt b o hm) hchg.size,dis:=λb o hO hM=>?_}
      · rcases zbr hx with hx|⟨_,hx⟩
        · have h5:=sto.obj b x (zg hx)
          have hk:=hchg.keeps (Oth:=O1);grind[ObjRel.same,j6]
        · have h5:=hsto.obj b x hx
          grind
      · rcases zbq hx with hx|⟨_,hx⟩
        · have⟨c,e,fr,h1,h2,h3,h4⟩:=sto.tok b top (Ft hx)
          grind[Mm]
        · have⟨c,e,fr,h1,h2,h3,h4⟩:=hsto.tok b top hx
          grind
      · rcases hm with h|h
        · exact hsto.mlt b o h
        grind
      · rcases hM with h|h
        · exact hsto.dis b o (.inl hO) h
        · exact sto.dis b o hO h.1
    · exact
        { size:=hchg.size
          keep:=λb o hb hm=>hchg.keep b o hb λh=>hm h.1
          blk:=λb hb hm=>hchg.blk b hb λo h=>hm o h.1
          shp:=hchg.shp
          sub:=λb o hm hb=>by
            rcases hm with h|h
            · exact(hchg.sub b o h hb).1
            grind
          tape:=hchg.tape
          os:=hchg.os
          output:=hchg.output}
  generalize(callFunc f vs).run P w=res at h1;cases res with
  | ok n w'=>
    cases n with
    |enter f' args=>exact Calls.mono h1 λe w'' ⟨v,he,hv⟩=>⟨v,he,key _ _ hv⟩
    |value v=>exact key _ _ h1
    |_=>exact h1
  |_=>exact h1
def flat(r:AV):Prop:=∀w T w' T' v,VRel w T r v->VRel w' T' r v
theorem Sn(v:Value):flat (.s v):=λ_ _ _ _ _ h=>by cases h;exact .s _
def ACalls.read{f:FuncId}{xs ys:List AV}{g:Store}{Q:AV->Prop}{R:Ja}
    (hb:∀Oth M w vs,StoreOK g Oth M w->Reads w (λb o=>M b o\/Oth b o) xs vs->Reads w (λb o=>(M b o\/Oth b o)/\g.obj b=none) ys vs)
    (h:ACalls P f ys Store.empty λr _=>Q r) (hf:∀r,Q r->flat r) (hR:∀r,Q r->R r g):ACalls P f xs g R:=by
  refine⟨λOth M w vs sto hr=>?_⟩
  let O1:Nat->Nat->Prop:=λb o=>(M b o\/Oth b o)/\g.obj b=none
  have sto0:StoreOK Store.empty O1 (λ_ _=>False) w:=
    {obj:=λb x hx=>γ,tok:=λb x hx=>γ,mlt:=λ_ _ h=>h.elim,olt:=λb o h=>Or.elim h.1 (sto.mlt b o) (sto.olt b o),dis:=λ_ _ _ h=>h}
  have h1:=h.out O1 (λ_ _=>False) w vs sto0 δ;have key:∀v w',xm Store.empty (λr _=>Q r) O1 (λ_ _=>False) w v w'->xm g R Oth M w v w':=by
    rintro v w' ⟨r,a',M2,hQ,hv,hsto,hchg⟩;have hg:Grow w w':=⟨hchg.size,λb hb=>hchg.blk b hb λ_ h=>h,hchg.tape,hchg.os,hchg.output⟩
    exact⟨r,g,M,hR r hQ,hf r hQ _ _ _ _ _ hv,sto.grow hg,hg.chg M⟩
  generalize(callFunc f vs).run P w=res at h1;cases res with
  | ok n w'=>
    cases n with
    |enter f' args=>exact Calls.mono h1 λe w'' ⟨v,he,hv⟩=>⟨v,he,key _ _ hv⟩
    |value v=>exact key _ _ h1
    |_=>exact h1
  |_=>exact h1
def zkb{w:World}{T:BB}{b n cap k:Nat}{rows:List (List AV)}{pad:List AV}(ho:CellsRel w T (rows.flatten++pad) b){T':BB}(hT:∀o,¬T' b o)(hn:rows.length=n)(hcap:n<=cap)
    (hk:∀row∈rows,row.length=k) (hall:∀row∈rows,∀x∈row,∃v,x=AV.s v/\xe v=true):VRel w T' (.lst k rows none) (.slice (some ⟨b,0,none⟩) n cap):=by
  have⟨cs,e0,fr,hb0,huf,hlen,hrel⟩:=ho;subst hn;have at1:∀(i:Nat) (row:List AV) (j:Nat) (x:AV),rows[i]?=some row->row[j]?=some x->∃v,x=.s v/\xe v=true/\cs[i*k+j]?=some v:=by
    intro i row j x hi hj;obtain⟨v,rfl,hv⟩:=hall row (Fa4 hi) x (Fa4 hj);have h5:=Ku hk hi hj;have hlt:=(Fax.1 h5).1;have h6:(rows.flatten++pad)[i*k+j]?=some (.s v):=δ;have hlt2:i*k+j<cs.size:=δ;have h7:=hrel _ _ cs[i*k+j] h6 (by simp[hlt2]);have:cs[i*k+j]=v:=by generalize cs[i*k+j]=y at h7;cases h7;rfl
    grind
  refine VRel.lst rows none b 0 cap k (λp=>cs.getD p undef) hcap (λi row hi=>hk row (Fa4 hi)) (λ_ h=>ω) (λi row j x hi hj=>?_) (λi row j x hi hj=>?_) (λi row j x hi hj=>?_)
  · obtain⟨v,rfl,hv,h5⟩:=at1 i row j x hi hj
    simp_all[World.cell?]
  · obtain⟨v,rfl,hv,h5⟩:=at1 i row j x hi hj
    simp_all
  · obtain⟨v,rfl,hv,h5⟩:=at1 i row j x hi hj
    rw[Fbm,h5];exact .s _
def AObj.le(x y:AObj):Prop:=∀w T b,ObjRel w T x b->ObjRel w T y b
structure Store.Le(st st':Store):Prop where
  obj:∀b y,st'.obj b=some y->∃x,st.obj b=some x/\AObj.le x y
  tok:∀b x,st'.tok b=some x->st.tok b=some x
theorem AObj.le_refl(x:AObj):AObj.le x x:=λ_ _ _ h=>h
def Store.Le.refl(st:Store):st.Le st:=⟨λb y h=>⟨y,h,AObj.le_refl y⟩,λ_ _ h=>h⟩
def Store.Has.toLe{st st':Store}(h:st.Has st'):st.Le st':=⟨λb y hy=>⟨y,h.obj b y hy,AObj.le_refl y⟩,h.tok⟩
theorem Store.Le.trans{a b c:Store}(h:a.Le b)(h':b.Le c):a.Le c:=
  ⟨λi z hz=>by have⟨y,hy,h2⟩:=h'.obj i z hz;have⟨x,hx,h3⟩:=h.obj i y hy;exact⟨x,hx,λw T b k=>h2 w T b (h3 w T b k)⟩,λi x hx=>h.tok i x (h'.tok i x hx)⟩
def AObj.le_cells{l l':List AV}(hl:l.length=l'.length)(h:∀(i:Nat) (x y:AV),l[i]?=some x->l'[i]?=some y->AV.le x y):AObj.le (.cells l) (.cells l'):=by rintro w T b ⟨c,e,fr,h1,h2,h3,h4⟩;refine⟨c,e,fr,h1,h2,θ,λi y v hy hv=>?_⟩;have hi:i<l.length:=δ;exact h i _ y (Fab hi) hy w T v (h4 i _ v (Fab hi) hv)
def StoreOK.weakenLe{st st':Store}{Oth M:BB}{w:World}(h:StoreOK st Oth M w)(hh:st.Le st'):StoreOK st' Oth M w:=
  ⟨λb y k=>by have⟨x,hx,hle⟩:=hh.obj b y k;exact⟨hle _ _ _ (h.obj b x hx).1,(h.obj b x hx).2⟩,λb x k=>h.tok b x (hh.tok b x k),h.mlt,h.olt,h.dis⟩
def ACalls.post{f:FuncId}{xs:List AV}{st st0:Store}{R R':Ja}(h:ACalls P f xs st0 R)(h0:st.Le st0)(hR:∀r st',R r st'->∃r' st'',AV.le r r'/\st'.Le st''/\R' r' st''):ACalls P f xs st R':=by
  refine⟨λOth M w vs sto hr=>?_⟩;have h1:=h.out Oth M w vs (sto.weakenLe h0) hr;have key:∀v w',xm st0 R Oth M w v w'->xm st R' Oth M w v w':=by rintro v w' ⟨r,a',M2,hQ,hv,hsto,hchg⟩;have⟨r',st'',h2,h3,h4⟩:=hR r a' hQ;exact⟨r',st'',M2,h4,h2 _ _ _ hv,hsto.weakenLe h3,hchg⟩
  generalize(callFunc f vs).run P w=res at h1;cases res with
  | ok n w'=>
    cases n with
    |enter f' args=>exact Calls.mono h1 λe w'' ⟨v,he,hv⟩=>⟨v,he,key _ _ hv⟩
    |value v=>exact key _ _ h1
    |_=>exact h1
  |_=>exact h1
def ACalls.imp{f:FuncId}{xs:List AV}{st:Store}{R R':Ja}(h:ACalls P f xs st R)(hR:∀r st',R r st'->R' r st'):ACalls P f xs st R':=
  h.post (Store.Le.refl st) λr st' hr=>⟨r,st',AV.le_refl r,Store.Le.refl st',hR r st' hr⟩
def ACalls.of_calls {f : FuncId} {fn : Func} {code : Code} {xs : List AV} {st : Store} {R : Ja} (hf : P.funcs[f]? = some fn) (hb : fn.body = some code) (hname : (fn.name == "runtime.NumGoroutine") = false)
    (h:∀(Oth M:BB) (w:World) (vs:Array Value),StoreOK st Oth M w->Reads w (λb o=>M b o\/Oth b o) xs vs.toList->Calls P f vs w λe w'=>∃v,e=.returned v/\xm st R Oth M w v w'):ACalls P f xs st R:=by
  refine⟨λOth M w vs sto hr=>?_⟩;have hrun:(callFunc f vs).run P w=.ok (.enter f vs) w:=θ4;rw[hrun];exact h Oth M w vs sto hr
def ACalls.of_value{f:FuncId}{xs:List AV}{st:Store}{R:Ja}
    (h:∀(Oth M:BB) (w:World) (vs:Array Value),StoreOK st Oth M w->Reads w (λb o=>M b o\/Oth b o) xs vs.toList->∃v w',(callFunc f vs).run P w=.ok (.value v) w'/\xm st R Oth M w v w'):ACalls P f xs st R:=by
  refine⟨λOth M w vs sto hr=>?_⟩;have⟨v,w',h1,h2⟩:=h Oth M w vs sto hr;rw[h1];exact h2
end
def AWp.meetA{P:Program}{c:Cfg}{σ:Type}(H:Meet σ){x y:Code}{Q:Exit->Fr->Store->Prop}{A:Fr}{st:Store}(hx:AWp P c x (V4 H.at Q) A st)
    (hy:∀s st',H.inv s st'->AWp P c y Q (Ik (H.t s) (H.bx s)) st'):AWp P c (.seq x y) Q A st:=by
  refine AWp.seq (hx.mono λe A' st' h=>?_);cases e with
  | normal=>
    have⟨s,h1,h2,h3⟩:=h;exact AWp.weaken (hy s st' h1) h2 h3 (Store.Has.refl st')
  |_=>exact h
def AWp.cond{P:Program}{c:Cfg}{x:Operand}{p q:Code}{Q:Exit->Fr->Store->Prop}{A:Fr}{st:Store}(t:Bool)(ht:A.ev x=.av (.s (.bool t)))(h:Ds t (AWp P c p Q A st) (AWp P c q Q A st)):AWp P c (.cond x p q) Q A st:=by
  refine⟨λOth M a w sim=>?_⟩;have hv:a.eval x=.bool t:=ψo;refine wpIn_cond hv ?_;cases t with
  |true=>exact(AWp.out (show AWp P c p Q A st from h)) Oth M a w sim
  |false=>exact(AWp.out (show AWp P c q Q A st from h)) Oth M a w sim
section
variable {P:Program} {c:Cfg} {I:Info} {w:World} {T:BB}
def zg0:Ty->Bool
  |.int _=>true
  |_=>false
def R7(I:Info)(kt:TypeId)(k:AV):Bool:=
  match I kt with
  |none=>false
  | some i=>match i.ty,k with
    |.int _,_=>true
    |.bool,_=>true
    |.struct fs,.agg cs=>fs.all λf=>match I f.2 with|some j=>zg0 j.ty&&(Fx j (cs.drop f.1)).isSome|none=>false
    |_,_=>false
def zjv{kt:TypeId}{k:IntKind}(h:P.underlying kt=some (.int k))(v:Value)(e:Bool)(n:Nat):(Instr.checkKey e (n+1) kt v).run P w=.ok () w:=by simp_all[Instr.checkKey,yk]
theorem ysy{kt:TypeId}(h:P.underlying kt=some .bool)(v:Value)(e:Bool)(n:Nat):(Instr.checkKey e (n+1) kt v).run P w=.ok () w:=by simp_all[Instr.checkKey,yk]
def uk(hI:qe P I){kt:TypeId}{k:AV}{kv:Value}(h:R7 I kt k=true)(hv:VRel w T k kv)(e:Bool):(Instr.checkKey e 10000 kt kv).run P w=.ok () w:=by
  unfold R7 at h;cases hi:I kt with
  |none=>grind
  | some i=>
    rw[hi]at h;have ht:=hI kt i hi;simp only at h;split at h
    · rename_i k' hy;exact zjv (I5 ht hy) kv e 9999
    · grind[ysy,zbu]
    · rename_i fs cs hy
      obtain⟨cv,rfl,hr⟩:=Ha hv;have⟨a,ha1,ha2⟩:=Po ht hy;rw[show(10000:Nat)=9999+1 from rfl,Instr.checkKey];simp only[Sem.run_bind,yk ha1,Result.andThen_ok];rw[<-Array.forIn_toList];subst ha2;clear ha1 hy;generalize a.toList=L at h;induction L with
      |nil=>simp
      | cons f L ih=>
        simp only[Fci,List.all_cons,Fa6]at h;have⟨h1,h2⟩:=h;cases hj:I f.type with
        |none=>grind
        | some j=>
          simp only[hj,Fa6]at h1;have⟨h3,h4⟩:=h1;have⟨x,hx⟩:=Option.isSome_iff_exists.1 h4;have⟨v,r1,r2⟩:=Rq (hI _ _ hj) hr hx;have hk:∃k,j.ty=.int k:=by unfold zg0 at h3;grind
          have⟨k,hk⟩:=hk;have r3:=zjv (w:=w) (I5 (hI _ _ hj) hk) v e 9998;simp_all
    · cases h
def yfy{kt:TypeId}{d:TypeDesc}(hd:P.underlying kt=some d){a b:Value}{r:Bool}(h:Instr.sameNow d a b=some r)(D:Nat):(Op.equalIn (D+1) kt a b).run P w=.ok r w:=by
  unfold Instr.sameNow at h;split at h
  · simp_all[Op.equalIn,yk]
  · simp_all[Op.equalIn,yk]
  · simp_all[Op.equalIn,yk]
  · cases h
def s7(hI:qe P I){kt:TypeId}{k:AV}{kv:Value}(hv:VRel w T k kv)(q:AV×AV->Bool){es:List (AV×AV)}{ms:List MapEntry}(hl:es.length=ms.length)
    (hr:∀(i:Nat) (x:AV×AV) (y:MapEntry),es[i]?=some x->ms[i]?=some y->VRel w T x.1 y.key) (hq:∀e∈es,Gy I 5 kt k e.1=some (q e)) (hkt:(I kt).isSome):
    ∃r,(Instr.findKey kt kv ms).run P w=.ok r w/\((r=none/\es.findIdx? q=none)\/∃i e m,r=some (i,m.val)/\es.findIdx? q=some i/\es[i]?=some e/\ms[i]?=some m/\q e=true):=by
  have eqrun:∀(i:Nat) (e:AV×AV) (m:MapEntry),es[i]?=some e->ms[i]?=some m->(Op.equal kt kv m.key).run P w=.ok (q e) w:=λi e m he hm=>
    zin hI 5 kt k e.1 (q e) (hq e (Fa4 he)) 10000 θ kv m.key hv (hr i e m he hm)
  have⟨ik,hik⟩:=Option.isSome_iff_exists.1 hkt;have⟨d,hd,_⟩:=(hI kt ik hik).und;have same:∀(i:Nat) (e:AV×AV) (m:MapEntry) (b:Bool),es[i]?=some e->ms[i]?=some m->Instr.sameNow d kv m.key=some b->b=q e:=by intro i e m b he hm hs;have h1:=eqrun i e m he hm;have h2:(Op.equal kt kv m.key).run P w=.ok b w:=yfy hd hs 9999;grind
  have res:∀(es:List (AV×AV)) (ms:List MapEntry) (i0:Nat),es.length=ms.length->
      (∀(i:Nat) (e:AV×AV) (m:MapEntry),es[i]?=some e->ms[i]?=some m->(Op.equal kt kv m.key).run P w=.ok (q e) w/\∀b,Instr.sameNow d kv m.key=some b->b=q e)->
      ∃ r,((r=none/\es.findIdx? q=none)\/∃i e m,r=some (i0+i,m.val)/\es.findIdx? q=some i/\es[i]?=some e/\ms[i]?=some m/\q e=true)/\(Instr.findAsking kt kv ms i0).run P w=.ok r w∧
        ∀r',Instr.findNow d kv ms i0=some r'->r'=r:=by
    intro es;induction es with
    | nil=>
      intro ms i0 hl _;cases ms with
      |cons m ms=>simp at hl
      |nil=>simp_all[Instr.findAsking,Instr.findNow]
    | cons e es ih=>
      intro ms i0 hl hall;cases ms with
      |nil=>simp at hl
      | cons m ms=>
        have⟨h1,h2⟩:=hall 0 e m rfl rfl;cases hqe:q e with
        | true=>
          rw[hqe]at h1 h2;refine⟨some (i0,m.val),.inr ⟨0,e,m,rfl,δ,rfl,rfl,hqe⟩,?_,λr' h=>?_⟩
          · simp_all[Instr.findAsking]
          · unfold Instr.findNow at h
            grind
        | false=>
          rw[hqe]at h1 h2;have⟨r,h3,h4,h5⟩:=ih ms (i0+1) δ λi e' m' he hm=>hall (i+1) e' m' he hm;refine⟨r,?_,?_,λr' h=>?_⟩
          · rcases h3 with⟨h6,h7⟩|⟨i,e',m',h6,h7,h8,h9,h10⟩
            · grind
            · exact .inr ⟨i+1,e',m',δ,δ,h8,h9,h10⟩
          · simp_all[Instr.findAsking]
          · unfold Instr.findNow at h
            grind
  have⟨r,h1,h2,h3⟩:=res es ms 0 hl λi e m he hm=>⟨eqrun i e m he hm,λb=>same i e m b he hm⟩
  refine⟨r,?_,?_⟩
  · unfold Instr.findKey
    simp only[Sem.run_bind,yk hd,Result.andThen_ok];cases hf:Instr.findNow d kv ms 0 with
    |none=>exact h2
    |some r'=>simp_all
  grind
def Fm(i:TI):AV:=bif Da i.ty then .agg (i.zero.map AV.s)else match i.zero with|v::_=>.s v|[]=>.any
def zlg{t:TypeId}{i:TI}(h:TIok P t i)(w:World)(T:BB):∃z,(zeroValue t).run P w=.ok z w/\VRel w T (Fm i) z:=by
  have⟨inf,h1,_,_,z,h2,h3⟩:=h.info;refine⟨z,by simp[zeroValue,typeInfo,h1,h2],?_⟩;unfold Fm;rcases h.zag inf z h1 h2 with⟨h4,cs,rfl⟩|⟨h4,h5⟩
  · rw[h4]
    refine Nb ?_;have:i.zero=cs.toList:=h3.symm;rw[this];exact Reads.map_s _
  · rw[h4,h5]
    exact .s _
end
section
variable {P:Program} {c:Cfg} {w:World} {st:Store} {Oth M:BB}
theorem Oo{b:Nat}{old:Obj}(new:Obj)(hb:w.heap[b]?=some old):(w.heap.setIfInBounds b new)[b]?=some new:=δ
def ynk{b b':Nat}(new:Obj)(h:b'≠b):(w.heap.setIfInBounds b new)[b']?=w.heap[b']?:=δ
theorem D2{r:Nat}{es:Array MapEntry}{clock:Nat}(hb:w.heap[r]?=some (.map es clock)):(getObj r).run P w=.ok (.map es clock) w:=by simp[getObj,Sem.run,hb]
theorem Rg{r:Nat}{es:Array MapEntry}{clock:Nat}(o:Obj)(hb:w.heap[r]?=some (.map es clock)):(setObj r o).run P w=.ok () {w with heap:=w.heap.setIfInBounds r o}:=by simp[setObj,Sem.run,hb]
def Mx:Obj->Prop
  |.cells ..=>False
  |_=>True
theorem zj0{b:Nat}{old new:Obj}(hb:w.heap[b]?=some old)(ho:Mx old)(hn:Mx new)(a:Addr):World.cell? {w with heap:=w.heap.setIfInBounds b new} a=w.cell? a:=by grind[World.cell?,Mx]
def Mh{b:Nat}{old new:Obj}(hb:w.heap[b]?=some old)(ho:Mx old)(hn:Mx new)(T:BB):Keeps w T {w with heap:=w.heap.setIfInBounds b new} T where
  cell b' o c hc _:=by rw[zj0 hb ho hn];exact hc
  out _ _ _ _ h:=h
  shp b' c e fr h:=by
    by_cases hbb:b'=b
    · subst hbb;rw[hb]at h;cases h;trivial
    grind
def Nk(sto:StoreOK st Oth M w){b:Nat}{old new:Obj}{x y:AObj}(hx:st.obj b=some x)(hb:w.heap[b]?=some old)(ho:Mx old)(hn:Mx new)
    (hy:ObjRel {w with heap:=w.heap.setIfInBounds b new} (λb o=>M b o\/Oth b o) y b):
    StoreOK (st.sO b y) Oth M {w with heap:=w.heap.setIfInBounds b new}/\Chg M w M {w with heap:=w.heap.setIfInBounds b new}:=by
  have hk:=Mh hb ho hn (λb o=>M b o\/Oth b o);have hM:=(sto.obj b x hx).2;refine⟨{obj:=λb' z hz=>?_,tok:=λb' top ht=>?_,mlt:=λb' o hm=>?_,olt:=λb' o hm=>?_,dis:=sto.dis},?_⟩
  · by_cases hbb:b'=b
    · grind[zd]
    · rw[zf hbb]at hz
      exact⟨ObjRel.same (sto.obj b' z hz).1 hk (ynk new hbb),(sto.obj b' z hz).2⟩
  · have⟨c,e,fr,h1,h2⟩:=sto.tok b' top ht
    have hbb:b'≠b:=λe=>by rw[e,hb]at h1;cases h1;trivial
    grind
  · have:=sto.mlt b' o hm;grind
  · have:=sto.olt b' o hm;grind
  · exact { size:=φ
            keep:=λb' o hb' _=>zj0 hb ho hn _
            blk:=λb' hb' hm=>by have hbb:b'≠b:=λe=>hm 0 (e▸hM 0);grind
            shp:=λb' c e fr h=>(Mh hb ho hn (λ_ _=>False)).shp b' c e fr h
            sub:=λ_ _ h _=>h
            tape:=rfl,os:=rfl,output:=rfl}
theorem zh8{α:Type}{q:α->Bool}:∀{l:List α} {i:Nat} {e:α},l.findIdx? q=some i->l[i]?=some e->l.find? q=some e:=by
  intro l;induction l with
  |nil=>simp
  | cons a l ih=>
    intro i e h he;rw[List.findIdx?_cons]at h;cases hq:q a with
    |true=>grind
    | false=>
      rw[hq]at h;simp only[Fap,if_false,Option.map_eq_some_iff]at h;grind
theorem ypm{α:Type}{q:α->Bool}{l:List α}(h:l.findIdx? q=none):l.find? q=none:=δ
def Gt(ok:Bool)(z:AV)(r:Option (AV×AV)):AV:=
  match ok,r with
  |true,some e=>.tup [e.2,.s (.bool true)]
  |true,none=>.tup [z,.s (.bool false)]
  |false,some e=>e.2
  |false,none=>z
def zbd{T:BB}{x:AV}{v:Value}(b:Bool)(h:VRel w T x v):VRel w T (.tup [x,.s (.bool b)]) (.tuple #[v,.bool b]):=
  vx (Reads.cons h (Reads.cons (.s _) Reads.nil))
theorem N7{T:BB}{x y:AV}{vs:List Value}(h:Reads w T [x,y] vs):∃u v,vs=[u,v]/\VRel w T x u/\VRel w T y v:=by
  have⟨h1,h2⟩:=h
  match vs,h1 with
  |[u,v],_=>exact⟨u,v,rfl,h2 0 x u rfl rfl,h2 1 y v rfl rfl⟩
theorem zed{T:BB}{x y z:AV}{vs:List Value}(h:Reads w T [x,y,z] vs):∃u v t,vs=[u,v,t]/\VRel w T x u/\VRel w T y v/\VRel w T z t:=by
  have⟨h1,h2⟩:=h
  match vs,h1 with
  |[u,v,t],_=>exact⟨u,v,t,rfl,h2 0 x u rfl rfl,h2 1 y v rfl rfl,h2 2 z t rfl rfl⟩
theorem Kh{T:BB}{x:AV}{vs:List Value}(h:Reads w T [x] vs):∃u,vs=[u]/\VRel w T x u:=by
  have⟨h1,h2⟩:=h
  match vs,h1 with
  |[u],_=>exact⟨u,rfl,h2 0 x u rfl rfl⟩
def Ar{o:Oper}{t kt e:TypeId}{x ix:Operand}{ok:Bool}(ho:o.op=.lookup t x ix ok){it ie ik:TI}(hit:c.I t=some it)(hty:it.ty=.map kt e)(hie:c.I e=some ie)(hik:c.I kt=some ik)
    {m clk:Nat} {es:List (AV×AV)} {bs:List Nat} {k:AV} (hm:st.obj m=some (.map es bs clk)) (hk:R7 c.I kt k=true) (q:AV×AV->Bool) (hq:∀e∈es,Gy c.I 5 kt k e.1=some (q e))
    {R:Ja} (h:R (Gt ok (Fm ie) (es.find? q)) st):AEff P c o [.s (.map (some m)),k] st R:=by
  refine⟨λOth M w ρ hI sto hr=>?_⟩;rw[ho]at hr;have hr:Reads w (λb o=>M b o\/Oth b o) [.s (.map (some m)),k] [ρ x,ρ ix]:=θx;have⟨u,v,he,h1,h2⟩:=N7 hr;simp only[Fcm,and_true]at he;have⟨hu,hv⟩:=he;rw[<-hu]at h1;rw[<-hv]at h2;have h1:=VRel.eq_s h1;have⟨⟨ms,g1,g2,g3,g4⟩,hM⟩:=sto.obj m _ hm;have⟨r,r1,r2⟩:=s7 (kt:=kt) (k:=k) (kv:=ρ ix) hI h2 q (es:=es) (ms:=ms.toList) θ (λi x y hx hy=>(g3 i x y hx δ).1) hq δ;have⟨z,z1,z2⟩:=zlg (hI _ _ hie) w (λb o=>M b o\/Oth b o);have hck:=uk hI hk h2 ms.isEmpty;have hu:=yk (P:=P) (K8 (hI _ _ hit) hty)
  have done:∀val:Value,VRel w (λb o=>M b o\/Oth b o) (Gt ok (Fm ie) (es.find? q)) val->(execOp ρ o).run P w=.ok (.value val) w->
      match(execOp ρ o).run P w with
      |.ok (.value v) w'=>xm st R Oth M w v w'
      |.ok .skip w'=>o.dst=none/\xm st R Oth M w (.tuple #[]) w'
      |_=>False:=by
    intro val hval hrun;rw[hrun];exact⟨_,st,M,h,hval,sto,Chg.refl _ _⟩
  rcases r2 with⟨rfl,r3⟩|⟨i,en,me,rfl,r3,r4,r5,r6⟩
  · rw[ypm r3]at done
    cases ok with
    |true=>exact done _ (zbd false z2) (by simp[execOp,ho,Instr.lookup,hu,h1,D2 g1,hck,r1,z1])
    |false=>exact done _ z2 (by simp[execOp,ho,Instr.lookup,hu,h1,D2 g1,hck,r1,z1])
  · have hval:=(g3 i en me r4 δ).2
    rw[zh8 r3 r4]at done;cases ok with
    |true=>exact done _ (zbd true hval) (by simp[execOp,ho,Instr.lookup,hu,h1,D2 g1,hck,r1])
    |false=>exact done _ hval (by simp[execOp,ho,Instr.lookup,hu,h1,D2 g1,hck,r1])
def rl:AV->Bool
  |.s (.int _ _)=>true
  |.s (.bool _)=>true
  |.agg cs=>cs.all λ|.s (.int _ _)=>true|_=>false
  |_=>false
theorem zgv{T T':BB}{w':World}{k:AV}{u v:Value}(hk:rl k=true)(hu:VRel w T k u)(hv:VRel w' T' k v):u=v/\∀n,Instr.sameBits (n+1) u u=true:=by
  unfold rl at hk;split at hk
  · rw[VRel.eq_s hu,VRel.eq_s hv];simp_all[Instr.sameBits]
  · rw[VRel.eq_s hu,VRel.eq_s hv];simp_all[Instr.sameBits]
  · rename_i cs
    obtain⟨c1,rfl,h1⟩:=Ha hu;obtain⟨c2,rfl,h2⟩:=Ha hv;have hint:∀(i:Nat) (y:AV),cs[i]?=some y->∃k n,y=.s (.int k n):=by intro i y hy;have:=Fcc.1 hk y (Fa4 hy);grind
    have heq:c1=c2:=by
      apply Array.ext_getElem?;intro i;have e1:=h1.1;have e2:=h2.1;simp only[Fcp]at e1 e2;by_cases hi:i<cs.length
      · have⟨k,n,hy⟩:=hint i cs[i] (Fab hi)
        have h3:=h1.2 i cs[i] c1[i] (Fab hi) φ;have h4:=h2.2 i cs[i] c2[i] (Fab hi) φ;grind[VRel.eq_s]
      grind
    refine⟨by rw[heq],λn=>?_⟩;have hall:∀y∈c1.toList,∃k n,y=.int k n:=by
      intro y hy;obtain⟨i,hi,rfl⟩:=Faf hy;have hi':i<cs.length:=by rw[h1.1];exact hi
      have⟨k,n,hx⟩:=hint i cs[i] (Fab hi');have h3:=h1.2 i cs[i] _ (Fab hi') (Fab hi);grind[VRel.eq_s]
    rw[Instr.sameBits];simp only[beq_self_eq_true,Bool.true_and];generalize c1.toList=L at hall;clear heq h1 h2 hu hv;induction L with
    |nil=>simp
    | cons a L ih=>
      obtain⟨k,m,rfl⟩:=hall a φ;simp_all[Instr.sameBits]
  grind
def wd(es:List (AV×AV))(bs:List Nat)(clk:Nat)(q:AV×AV->Bool)(k v:AV):AObj:=
  match es.findIdx? q with
  |some i=>.map (es.set i (k,v)) bs clk
  |none=>.map (es++[(k,v)]) (bs++[clk]) (clk+1)
def Gi{o:Oper}{t kt e:TypeId}{x ix y:Operand}(ho:o.op=.mapUpdate t x ix y\/o.op=.insert t x ix y)(hd:o.dst=none){it ik:TI}(hit:c.I t=some it)(hty:it.ty=.map kt e)(hik:c.I kt=some ik)
    {m clk:Nat} {es:List (AV×AV)} {bs:List Nat} {k v:AV} (hm:st.obj m=some (.map es bs clk)) (hk:R7 c.I kt k=true) (hdet:rl k=true) (q:AV×AV->Bool) (hq:∀e∈es,Gy c.I 5 kt k e.1=some (q e))
    (hsame:∀e∈es,q e=true->e.1=k) {R:Ja} (h:R (.tup []) (st.sO m (wd es bs clk q k v))):AEff P c o [.s (.map (some m)),k,v] st R:=by
  refine⟨λOth M w ρ hI sto hr=>?_⟩;have hops:o.op.operands=#[x,ix,y]:=by rcases ho with ho|ho<;>rw[ho]<;>rfl
  rw[hops]at hr;have hr:Reads w (λb o=>M b o\/Oth b o) [.s (.map (some m)),k,v] [ρ x,ρ ix,ρ y]:=δ;have⟨u,v',t',he,h1,h2,h3⟩:=zed hr;simp only[Fcm,and_true]at he;have⟨hu,hv,ht'⟩:=he;rw[<-hu]at h1;rw[<-hv]at h2;rw[<-ht']at h3;have h1:=VRel.eq_s h1;have⟨⟨ms,g1,g2,g3,g4,g5,g6⟩,hM⟩:=sto.obj m _ hm;have⟨r,r1,r2⟩:=s7 (kt:=kt) (k:=k) (kv:=ρ ix) hI h2 q (es:=es) (ms:=ms.toList) θ (λi x y hx hy=>(g3 i x y hx δ).1) hq δ;have hck:=uk hI hk h2 false;have hund:=yk (P:=P) (K8 (hI _ _ hit) hty)
  have done:∀w',(execOp ρ o).run P w=.ok .skip w'->(StoreOK (st.sO m (wd es bs clk q k v)) Oth M w'/\Chg M w M w')->
      match(execOp ρ o).run P w with
      |.ok (.value v) w'=>xm st R Oth M w v w'
      |.ok .skip w'=>o.dst=none/\xm st R Oth M w (.tuple #[]) w'
      |_=>False:=by
    intro w' hrun hok;rw[hrun];exact⟨hd,_,_,M,h,vx Reads.nil,hok.1,hok.2⟩
  have hexec:(execOp ρ o).run P w=((Instr.mapUpdate t (ρ x) (ρ ix) (ρ y)).run P w).andThen λ_ w'=>.ok .skip w':=by rcases ho with ho|ho<;>simp[execOp,ho]
  rcases r2 with⟨rfl,r3⟩|⟨i,en,me,rfl,r3,r4,r5,r6⟩
  · refine done {w with heap:=w.heap.setIfInBounds m (.map (ms.push {key:=ρ ix,val:=ρ y,born:=clk}) (clk+1))} ?_ ?_
    · rw[hexec]
      simp[Instr.mapUpdate,hund,h1,D2 g1,hck,r1,Rg _ g1]
    · refine Nk sto hm g1 trivial trivial ?_
      unfold wd;rw[r3];have hkp:=Mh (new:=.map (ms.push {key:=ρ ix,val:=ρ y,born:=clk}) (clk+1)) g1 trivial trivial (λb o=>M b o\/Oth b o);refine⟨_,Oo _ g1,by simp[g2],λi x' y' hx hy=>?_,by simp[g4],λt ht=>?_,?_⟩
      · by_cases hi:i<es.length
        · rw[Fa5 hi]at hx
          rw[Array.getElem?_push_lt θ]at hy;have hy:ms[i]?=some y':=δ;exact⟨(g3 i x' y' hx hy).1.keep hkp,(g3 i x' y' hx hy).2.keep hkp⟩
        · rw[Fa7 θ]at hx
          have hi2:i=es.length:=δ;subst hi2;rw[g2,Array.getElem?_push_size]at hy;simp at hx hy;subst hx hy;exact⟨h2.keep hkp,h3.keep hkp⟩
      · grind
      grind
  · have hme:ms[i]?=some me:=by grind
    have hkey:me.key=ρ ix:=by grind[zgv]
    have hsb:=(zgv hdet h2 h2).2 9999;have hstay:(Instr.keyThatStays (((ms[i]?).map (·.key)).getD (ρ ix)) (ρ ix)).run P w=.ok (ρ ix) w:=by simp_all[Instr.keyThatStays]
    refine done {w with heap:=w.heap.setIfInBounds m (.map (ms.modify i λe=>{e with key:=ρ ix,val:=ρ y}) clk)} ?_ ?_
    · rw[hexec]
      simp only[Instr.mapUpdate,Sem.run_bind,hund,Result.andThen_ok,h1,D2 g1,hck,r1,hstay,Rg _ g1]
    · refine Nk sto hm g1 trivial trivial ?_
      unfold wd;rw[r3];have hkp:=Mh (new:=.map (ms.modify i λe=>{e with key:=ρ ix,val:=ρ y}) clk) g1 trivial trivial (λb o=>M b o\/Oth b o);refine⟨_,Oo _ g1,by simp[g2],λj x' y' hx hy=>?_,?_,g5,g6⟩
      · rw[Fc8]at hy
        by_cases hij:i=j
        · subst hij
          rw[if_pos rfl,hme]at hy;simp at hy;rw[Fdj (Fax.1 r4).1]at hx;simp at hx;subst hx hy;exact⟨h2.keep hkp,h3.keep hkp⟩
        · rw[if_neg hij]at hy
          rw[Fc2 hij]at hx;exact⟨(g3 j x' y' hx hy).1.keep hkp,(g3 j x' y' hx hy).2.keep hkp⟩
      · rw[g4]
        apply Fb4;grind
end
section
variable {P:Program} {c:Cfg} {w:World} {st:Store} {Oth M:BB}
def o7(sto:StoreOK st Oth M w)(new:Obj){y:AObj}(hy:ObjRel (w.alloc new) (λb o=>vg M w.heap.size b o\/Oth b o) y w.heap.size):
    Fresh st w.heap.size/\StoreOK (st.sO w.heap.size y) Oth (vg M w.heap.size) (w.alloc new)/\Chg M w (vg M w.heap.size) (w.alloc new):=by
  refine⟨sto.fresh (Fah _),?_,Kx w new M⟩;have h:=sto.alloc new;refine{obj:=λb z hz=>?_,tok:=h.tok,mlt:=h.mlt,olt:=h.olt,dis:=h.dis};by_cases hb:b=w.heap.size
  · subst hb
    rw[zd]at hz;cases hz;exact⟨hy,λo=>.inr rfl⟩
  · rw[zf hb]at hz
    exact h.obj b z hz
def I0{o:Oper}{t:TypeId}(ho:o.op=.makeMap t none){R:Ja}
    (h:∀b,Fresh st b->R (.s (.map (some b))) (st.sO b (.map [] [] 0))):AEff P c o [] st R:=by
  refine⟨λOth M w ρ hI sto hr=>?_⟩;have hrun:(execOp ρ o).run P w=.ok (.value (.map (some w.heap.size))) (w.alloc (.map #[] 0)):=by simp[execOp,ho,Instr.makeMap]
  rw[hrun];have⟨h1,h2,h3⟩:=o7 sto (.map #[] 0) (y:=.map [] [] 0) ⟨#[],Kq w _,rfl,λi x y hx=>φ,rfl,φ,List.Pairwise.nil⟩;exact⟨_,_,_,h _ h1,.s _,h2,h3⟩
def Ga(es:List (AV×AV))(bs:List Nat)(clk:Nat)(q:AV×AV->Bool):AObj:=
  match es.findIdx? q with
  |some i=>.map (es.eraseIdx i) (bs.eraseIdx i) clk
  |none=>.map es bs clk
theorem getElem?_eraseIdx'{α:Type}(l:List α)(i j:Nat):(l.eraseIdx i)[j]?=if j<i then l[j]? else l[j+1]?:=List.getElem?_eraseIdx
theorem ew{α β:Type}(f:α->β):∀(l:List α) (i:Nat),(l.map f).eraseIdx i=(l.eraseIdx i).map f
  |[],_=>rfl
  |_::_,0=>rfl
  |a::l,i+1=>by simp[ew f l i]
def gn{o:Oper}{cl:Call}{t kt e:TypeId}{x ix:Operand}(ho:o.op=.call cl)(hcl:cl.callee=.builtin .delete)(hargs:cl.args=#[x,ix])(hat:cl.argTypes[0]?=some t)
    {it ik:TI} (hit:c.I t=some it) (hty:it.ty=.map kt e) (hik:c.I kt=some ik)
    {m clk:Nat} {es:List (AV×AV)} {bs:List Nat} {k:AV} (hm:st.obj m=some (.map es bs clk)) (hk:R7 c.I kt k=true) (q:AV×AV->Bool) (hq:∀e∈es,Gy c.I 5 kt k e.1=some (q e))
    {R:Ja} (h:R (.tup []) (st.sO m (Ga es bs clk q))):AEff P c o [.s (.map (some m)),k] st R:=by
  refine⟨λOth M w ρ hI sto hr=>?_⟩;have hops:o.op.operands=#[x,ix]:=ψp;rw[hops]at hr;have hr:Reads w (λb o=>M b o\/Oth b o) [.s (.map (some m)),k] [ρ x,ρ ix]:=δ;have⟨u,v',he,h1,h2⟩:=N7 hr;simp only[Fcm,and_true]at he;have⟨hu,hv⟩:=he;rw[<-hu]at h1;rw[<-hv]at h2;have h1:=VRel.eq_s h1;have⟨⟨ms,g1,g2,g3,g4,g5,g6⟩,hM⟩:=sto.obj m _ hm;have⟨r,r1,r2⟩:=s7 (kt:=kt) (k:=k) (kv:=ρ ix) hI h2 q (es:=es) (ms:=ms.toList) θ (λi x y hx hy=>(g3 i x y hx δ).1) hq δ;have hck:=uk hI hk h2 ms.isEmpty;have hund:=yk (P:=P) (K8 (hI _ _ hit) hty);have hexec:(execOp ρ o).run P w=((Builtin.delete_ cl.argTypes o.type #[ρ x,ρ ix]).run P w).andThen λv w'=>.ok (.value v) w':=by simp_all[execOp,resolve,invoke,builtin]
  have done:∀w',(execOp ρ o).run P w=.ok (.value (.tuple #[])) w'->(StoreOK (st.sO m (Ga es bs clk q)) Oth M w'/\Chg M w M w')->
      match(execOp ρ o).run P w with
      |.ok (.value v) w'=>xm st R Oth M w v w'
      |.ok .skip w'=>o.dst=none/\xm st R Oth M w (.tuple #[]) w'
      |_=>False:=by
    intro w' hrun hok;rw[hrun];exact⟨_,_,M,h,vx Reads.nil,hok.1,hok.2⟩
  rcases r2 with⟨rfl,r3⟩|⟨i,en,me,rfl,r3,r4,r5,r6⟩
  · refine done {w with heap:=w.heap.setIfInBounds m (.map ms clk)} ?_ ?_
    · rw[hexec]
      simp[Builtin.delete_,hat,hund,h1,D2 g1,hck,r1,Rg _ g1]
    · refine Nk sto hm g1 trivial trivial ?_
      unfold Ga;rw[r3];have hkp:=Mh (new:=.map ms clk) g1 trivial trivial (λb o=>M b o\/Oth b o);exact⟨_,Oo _ g1,g2,λi x' y' hx hy=>⟨(g3 i x' y' hx hy).1.keep hkp,(g3 i x' y' hx hy).2.keep hkp⟩,g4,g5,g6⟩
  · refine done {w with heap:=w.heap.setIfInBounds m (.map (ms.eraseIdxIfInBounds i) clk)} ?_ ?_
    · rw[hexec]
      simp[Builtin.delete_,hat,hund,h1,D2 g1,hck,r1,Rg _ g1]
    · refine Nk sto hm g1 trivial trivial ?_
      unfold Ga;rw[r3];have hkp:=Mh (new:=.map (ms.eraseIdxIfInBounds i) clk) g1 trivial trivial (λb o=>M b o\/Oth b o);have hi:i<ms.size:=δ;have htl:(ms.eraseIdxIfInBounds i).toList=ms.toList.eraseIdx i:=φ;have hsub:(bs.eraseIdx i).Sublist bs:=List.eraseIdx_sublist ..;refine⟨_,Oo _ g1,?_,λj x' y' hx hy=>?_,?_,λt ht=>g5 t (hsub.subset ht),g6.sublist hsub⟩
      · grind
      · have hy:(ms.toList.eraseIdx i)[j]?=some y':=by grind
        rw[getElem?_eraseIdx']at hx hy;by_cases hj:j<i
        · rw[if_pos hj]at hx hy
          have:=g3 j x' y' hx δ;exact⟨this.1.keep hkp,this.2.keep hkp⟩
        · rw[if_neg hj]at hx hy
          have:=g3 (j+1) x' y' hx δ;exact⟨this.1.keep hkp,this.2.keep hkp⟩
      · rw[htl,g4,ew]
def yut{o:Oper}{t kt e:TypeId}{x:Operand}(ho:o.op=.range t x){it:TI}(hit:c.I t=some it)(hty:it.ty=.map kt e)
    {m clk:Nat} {es:List (AV×AV)} {bs:List Nat} (hm:st.obj m=some (.map es bs clk)) {R:Ja}
    (h:∀b,Fresh st b->R (.s (.pointer (some ⟨b,0,none⟩))) (st.sO b (.iter m clk [] clk))):AEff P c o [.s (.map (some m))] st R:=by
  refine⟨λOth M w ρ hI sto hr=>?_⟩;rw[ho]at hr;have hr:Reads w (λb o=>M b o\/Oth b o) [.s (.map (some m))] [ρ x]:=θx;have⟨u,he,h1⟩:=Kh hr;simp only[Fcm,and_true]at he;rw[<-he]at h1;have h1:=VRel.eq_s h1;have⟨⟨ms,g1,g2⟩,hM⟩:=sto.obj m _ hm;have hund:=yk (P:=P) (K8 (hI _ _ hit) hty);have hrun:(execOp ρ o).run P w=.ok (.value (.pointer (some ⟨w.heap.size,0,none⟩))) (w.alloc (.mapIter (some m) clk #[] clk)):=by simp[execOp,ho,Instr.range,hund,h1,D2 g1]
  rw[hrun];have⟨h2,h3,h4⟩:=o7 sto (.mapIter (some m) clk #[] clk) (y:=.iter m clk [] clk) (Kq w _);exact⟨_,_,_,h _ h2,.s _,h3,h4⟩
def yf8(n:Nat)(hn:0<n)(w:World):∃i w',i<n/\Grow w w'/\w'.heap=w.heap/\(choose (.mapNext n)).run P w=.ok i w':=by
  by_cases h1:n<=1
  · refine⟨0,w,hn,Grow.refl w,rfl,?_⟩
    simp_all[Question.forced]
  · refine⟨w.tape w.drawn (.mapNext n)%n,w.drew,Nat.mod_lt _ hn,Grow.drew w,rfl,?_⟩
    simp only[choose,Sem.run];rw[if_neg (by simpa [Question.forced]using h1)];rfl
def yuu{o:Oper}{x:Operand}(ho:o.op=.next x false)
    {b m clk:Nat} {es:List (AV×AV)} {bs seen:List Nat} (hb:st.obj b=some (.iter m clk seen clk)) (hm:st.obj m=some (.map es bs clk)) {R:Ja}
    (h1:(∀t∈bs,t∈seen)->R (.tup [.s (.bool false)]) st)
    (h2:∀(i:Nat) (e:AV×AV) (t:Nat),es[i]?=some e->bs[i]?=some t->t∉seen->R (.tup [.s (.bool true),e.1,e.2]) (st.sO b (.iter m clk (seen++[t]) clk))):AEff P c o [.s (.pointer (some ⟨b,0,none⟩))] st R:=by
  refine⟨λOth M w ρ hI sto hr=>?_⟩;rw[ho]at hr;have hr:Reads w (λb o=>M b o\/Oth b o) [.s (.pointer (some ⟨b,0,none⟩))] [ρ x]:=θx;have⟨u,he,hx⟩:=Kh hr;simp only[Fcm,and_true]at he;rw[<-he]at hx;have hx:=VRel.eq_s hx;have⟨⟨ms,g1,g2,g3,g4,g5,g6⟩,hM⟩:=sto.obj m _ hm;have⟨hit,hMb⟩:=sto.obj b _ hb;have hit:w.heap[b]?=some (.mapIter (some m) clk seen.toArray clk):=hit;have born:∀y∈ms,y.born<clk:=λy hy=>g5 _ δ;have hall:(!seen.toArray.isEmpty&& !ms.isEmpty&&ms.all (λe=>decide (e.born>=clk)))=false:=by
    cases hms:ms.isEmpty with
    |true=>simp
    | false=>
      have hne:0<ms.size:=δ;grind
  have hnew:(Array.filter (λe=> !seen.toArray.contains e.born) ms).filter (λe=>decide (e.born>=clk))=#[]:=by grind[Array.filter_eq_empty_iff]
  have hold:(Array.filter (λe=> !seen.toArray.contains e.born) ms).filter (λe=>decide (e.born<clk))=Array.filter (λe=> !seen.toArray.contains e.born) ms:=by grind[Array.filter_eq_self]
  have hgo:(getObj b).run P w=.ok (.mapIter (some m) clk seen.toArray clk) w:=by simp[getObj,Sem.run,hit]
  generalize hleft:Array.filter (λe=> !seen.toArray.contains e.born) ms=left at hnew hold;have hlm:∀y∈left,y∈ms/\y.born∉seen:=δ
  let cands:Array (Option MapEntry):=(if left.isEmpty then #[none]else #[])++(left++#[]).map some
  have hcs:0<cands.size:=δ;have⟨i,w1,hi,hg,hheap,hch⟩:=yf8 (P:=P) cands.size hcs w;have hexec:(execOp ρ o).run P w=((Instr.next (ρ x) false o.type).run P w).andThen λv w'=>.ok (.value v) w':=by simp[execOp,ho]
  cases hl:left.isEmpty with
  | true=>
    have hc0:cands=#[none]:=by
      have:left=#[]:=by simpa using hl
      simp[cands,this]
    have hi0:i=0:=by rw[hc0]at hi;simpa using hi
    have hrun:(execOp ρ o).run P w=.ok (.value (.tuple #[.bool false])) w1:=by rw[hexec];simp only[Instr.next,hx,Sem.run_bind,hgo,Result.andThen_ok,D2 g1,hall,Fap,if_false,hleft,hold,hnew,Sem.run_pure];show((((choose (.mapNext cands.size)).run P w).andThen _).andThen _)=_;rw[hch];simp only[Result.andThen_ok];rw[show((if left.isEmpty=true then #[none]else #[])++Array.map some (left++#[]):Array (Option MapEntry))=cands from rfl,hc0,hi0];simp
    rw[hrun];refine⟨_,st,M,h1 λt ht=>?_,vx (Reads.cons (.s _) Reads.nil),sto.grow hg,hg.chg M⟩;rw[g4]at ht;obtain⟨y,hy,rfl⟩:=Fag.1 ht;have hle:left=#[]:=by simpa using hl
    rw[<-hleft,Array.filter_eq_empty_iff]at hle;have:=hle _ (Array.mem_toList_iff.1 hy);simpa using this
  | false=>
    have hce:cands=left.map some:=by simp[cands,hl]
    have hil:i<left.size:=by rw[hce]at hi;simpa using hi
    have hcg:cands[i]?=some (some left[i]):=by rw[hce];simp[hil]
    have hgo1:w1.heap[b]?=some (.mapIter (some m) clk seen.toArray clk):=by rw[hheap];exact hit
    have hset:∀ob:Obj,(setObj b ob).run P w1=.ok () {w1 with heap:=w1.heap.setIfInBounds b ob}:=λob=>by simp[setObj,Sem.run,hgo1]
    have hrun:(execOp ρ o).run P w=.ok (.value (.tuple #[.bool true,left[i].key,left[i].val])) {w1 with heap:=w1.heap.setIfInBounds b (.mapIter (some m) clk (seen.toArray.push left[i].born) clk)}:=by rw[hexec];simp only[Instr.next,hx,Sem.run_bind,hgo,Result.andThen_ok,D2 g1,hall,Fap,if_false,hleft,hold,hnew,Sem.run_pure];show((((choose (.mapNext cands.size)).run P w).andThen _).andThen _)=_;rw[hch];simp only[Result.andThen_ok];rw[show((if left.isEmpty=true then #[none]else #[])++Array.map some (left++#[]):Array (Option MapEntry))=cands from rfl,hcg];simp only[Sem.run_bind,hset,Result.andThen_ok,Sem.run_pure]
    rw[hrun];have⟨hlm1,hlm2⟩:=hlm left[i] φ;have⟨j,hj,hje⟩:=Array.mem_iff_getElem.1 hlm1;have hjs:j<es.length:=θ;have hms:ms[j]?=some left[i]:=by rw[Fbp hj,hje]
    have hrel:=g3 j es[j] left[i] (Fab hjs) hms;have hbs:bs[j]?=some left[i].born:=by rw[g4,Far,Fdp,hms];rfl
    have sto1:=sto.grow hg;have hk1:=hg.keeps (λb o=>M b o\/Oth b o);have hk2:=Mh (new:=.mapIter (some m) clk (seen.toArray.push left[i].born) clk) hgo1 trivial trivial (λb o=>M b o\/Oth b o);have⟨s1,s2⟩:=Nk (y:=.iter m clk (seen++[left[i].born]) clk) sto1 hb hgo1 trivial trivial (new:=.mapIter (some m) clk (seen.toArray.push left[i].born) clk) (by show _=_;rw[Oo _ hgo1];simp)
    exact⟨_,_,M,h2 j es[j] left[i].born (Fab hjs) hbs hlm2,
      vx (Reads.cons (.s _) (Reads.cons ((hrel.1.keep hk1).keep hk2) (Reads.cons ((hrel.2.keep hk1).keep hk2) Reads.nil))),s1,(hg.chg M).trans s2⟩
end
end Go.V
