/- Lemmas of thronglaw29; no conditions. -/
import Derived.MapKept
import Derived.Test.YtphhbmaalpdnoaaGreatKB
set_option linter.unusedSimpArgs false
set_option linter.unusedVariables false
set_option linter.defProp false
open List renaming length→Γ
open Option renaming some→Δ,none→Θ
namespace Go.V
section
variable {P:Program} {c:Cfg} {ops:Array Oper}
def Ch(ops:Array Oper)(o:Oper)(A:Fr):Option Bool:=
  match o.guard with
  |none=>Δ true
  | some (j,want)=>match(ops[j]?).bind (·.dst)with
    |none=>Θ
    | some t=>match A.t t with
      |.av (.s (.bool b))=>Δ (b==want)
      |.und=>Δ false
      |_=>Θ
theorem guardK_iff{o:Oper}{A:Fr}{e a:Fr->Prop}:Kq ops o A e a↔(Ch ops o A=Δ true/\e A)\/(Ch ops o A=Δ false/\a A):=by
  unfold Kq Ch;cases g:o.guard with
  |none=>simp
  | some jw=>
    obtain⟨j,d⟩:=jw;simp only;cases h:(ops[j]?).bind (·.dst)with
    |none=>simp[optK]
    | some t=>
      simp only[optK];generalize f:A.t t=y;split
      . rename_i b
        cases b with
        |true=>grind[Fr.put_self,k8,Ds]
        |false=>grind[Fr.put_self,k8,Ds]
      . simp
      simp
theorem bj{o:Oper}{B:Fr}{l:Store}{n:SN}{i M:BB}{a:Act}{w:World}(e:Sim n i B l M a w){b:Bool}(h:Ch ops o B=Δ b):Region.wanted o (yielded ops a.tmps)=b:=by
  obtain⟨β,s⟩:=e;unfold Ch at h;unfold Region.wanted;cases p:o.guard with
  |none=>grind
  | some jw=>
    obtain⟨j,k⟩:=jw;rw[p]at h;simp only at h⊢;cases f:(ops[j]?).bind (·.dst)with
    |none=>grind
    | some t=>
      rw[f]at h;simp only at h;have d:=s.tm t;split at h
      . rename_i u g
        simp at h;rw[g]at d;rw[ze0 f (VRel.eq_s d),<-h];simp
      . rename_i g
        simp at h;rw[g]at d;rw[zez f d,h];rfl
      . cases h
def pd{b:Bool}{p:Prop}(h:bif b then p else False):b=true/\p:=by grind
def zgv{b:Bool}{p:Prop}(hb:b=true)(h:p):bif b then p else False:=by grind
def qw(A:Fr)(D:List Nat):Fr:=⟨λt=>bif mem t D then .any else A.t t,A.bx⟩
theorem Ki{t:Nat}{D:List Nat}(h:t∉D):mem t D=false:=by grind[mem_iff]
theorem bp{A:Fr}{D:List Nat}{t:Nat}(h:t∉D):(qw A D).t t=A.t t:=by simp[qw,Ki h]
def yp0{A:Fr}{D:List Nat}{x:Operand}(h:∀t,x=.tmp t->t∉D):(qw A D).ev x=A.ev x:=by
  cases x with
  |tmp t=>exact bp (h t rfl)
  |_=>rfl
theorem Io{A:Fr}{D:List Nat}{d:Nat}(h:d∉D)(x:LV):(qw A D).put d x=qw (A.put d x) D:=by unfold qw Fr.put;grind[Ki,qp]
def zfg{A:Fr}{D:List Nat}{d:Nat}(h:d∉D)(l:List AV):(qw A D).newBx d l=qw (A.newBx d l) D:=by
  unfold qw Fr.newBx
  congr
  funext i
  by_cases a:i=d
  . subst a;simp[Ki h]
  . simp only[qp a,cond_false]
    cases mem i D<;>rfl
def F7(o:Oper)(A a:Fr):Prop:=(match o.op with|.alloc _=>False|.box _ _=>False|_=>True)->∀t,o.dst≠Δ t->a.t t=A.t t
theorem Ma{o:Oper}{A:Fr}{d:Nat}{x:LV}(b:o.dst=Δ d):F7 o A (A.put d x):=λ_ t a=>by grind[Fr.put,qp]
def m7{o:Oper}{A:Fr}:F7 o A A:=λ_ _ _=>rfl
def zju(hI:qf P c.I){o:Oper}{K:Fr->Store->Prop}{A:Fr}{U:Store}{D:List Nat}(h:Ff P c o K A U)(υ:∀x∈o.op.operands,∀t,x=.tmp t->t∉D)(hd:∀d,o.dst=Δ d->d∉D):
    Ff P c o (λW a=>∃u,K u a/\W=qw u D/\F7 o A u) (qw A D) U:=by
  have L:∀x∈o.op.operands,(qw A D).ev x=A.ev x:=λx C=>yp0 (υ x C);have hputO:∀(x:LV) (a:Store),(xz A c.n o.dst x λu=>K u a)->xz (qw A D) c.n o.dst x λW=>∃u,K u a/\W=qw u D/\F7 o A u:=by
    intro x a C;unfold xz at C⊢;cases j:o.dst with
    |none=>rw[j]at C;exact⟨A,C,rfl,m7⟩
    | some d=>
      rw[j]at C;obtain⟨R,C⟩:=Bu C;simp only[show Nat.blt d c.n=true from Fca R,cond_true];grind[Io,Ma]
  have hval:∀ε,ε=o.op->(optK o.dst λd=>bif Nat.blt d c.n then vcV c A.ev A.bx U d ε (λx=>K (A.put d x) U)else False)->
      optK o.dst λd=>bif Nat.blt d c.n then vcV c (qw A D).ev (qw A D).bx U d ε (λx=>∃u,K u U/\(qw A D).put d x=qw u D/\F7 o A u)else False:=by
    rintro ε rfl C;obtain⟨d,j,C⟩:=zv C;obtain⟨R,C⟩:=Bu C;refine J d j ?_;simp only[show Nat.blt d c.n=true from Fca R,cond_true];exact si hI (λx C=>⟨_,C,Io (hd d j) x,Ma j⟩) (sj L C)
  unfold Ff at h⊢;have hX:vcX P c o K A U->vcX P c o (λW a=>∃u,K u a/\W=qw u D/\F7 o A u) (qw A D) U:=by
    intro h;obtain⟨vs,η,h⟩:=zv h
    have e:(o.op.operands.toList.mapM λx=>((qw A D).ev x).toAV)=o.op.operands.toList.mapM λx=>(A.ev x).toAV:=
      Wy λx C=>L x δ
    refine J vs δ ⟨λB M w ρ hI' sto hr=>?_⟩;have:=h.out B M w ρ hI' sto hr
    have hpost:∀v Q,xg U (λr a=>xz A c.n o.dst (.av r) λu=>K u a) B M w v Q->xg U (λr a=>xz (qw A D) c.n o.dst (.av r) λW=>∃u,K u a/\W=qw u D/\F7 o A u) B M w v Q:=
      λv Q ⟨r,a,M',h1,h2⟩=>⟨r,a,M',hputO _ a h1,h2⟩
    grind
  cases C:isX o.op with
  |true=>grind
  |false=>
  rw[C]at h;replace h:G9 P c o K A U:=h;change G9 P c o (λW a=>∃u,K u a/\W=qw u D/\F7 o A u) (qw A D) U;unfold G9 at h⊢;cases H:o.op with
  | alloc t=>
    simp only[H,Hr]at h⊢;obtain⟨i,X,h⟩:=zv h;obtain⟨d,j,h⟩:=zv h;obtain⟨R,h⟩:=Bu h;refine J i X (J d j ?_);simp only[show Nat.blt d c.n=true from Fca R,cond_true];cases hg:c.G.contains d with
    |true=>rw[hg]at h;exact λb hb=>⟨_,h b hb,Io (hd d j) _,λhh=>δ⟩
    |false=>rw[hg]at h;exact⟨_,h,zfg (hd d j) _,λhh=>δ⟩
  | box t x=>
    simp only[H]at h⊢;rw[H]at L;obtain⟨d,j,h⟩:=zv h;obtain⟨R,h⟩:=Bu h;refine J d j ?_;simp only[show Nat.blt d c.n=true from Fca R,cond_true];rw[L x θ0];split at h
    . obtain⟨l,hl,h⟩:=zv h
      refine J l hl ?_;cases hg:c.G.contains d with
      |true=>rw[hg]at h;exact λb hb=>⟨_,h b hb,Io (hd d j) _,λhh=>δ⟩
      |false=>rw[hg]at h;exact⟨_,h,zfg (hd d j) _,λhh=>δ⟩
    omega
  | buildSlice t n parts=>
    simp only[H]at h⊢;rw[H]at L;have e:(parts.toList.map λp=>(p.1,(qw A D).ev p.2))=(parts.toList.map λp=>(p.1,A.ev p.2)):=Fbw λp hp=>by grind[Op.operands]
    rw[e];obtain⟨i,X,h⟩:=zv h;obtain⟨d,j,h⟩:=zv h;obtain⟨R,h⟩:=Bu h;refine J i X (J d j ?_);simp only[show Nat.blt d c.n=true from Fca R,cond_true];split at h
    . obtain⟨ie,V,h⟩:=zv h
      obtain⟨rows,z,h⟩:=zv h;refine J ie V (J rows z ?_);cases hone:rows.flatten.all AV.one with
      |false=>grind
      | true=>
        rw[hone]at h;simp only[cond_true]at h⊢;refine⟨h.1,?_⟩;replace h:=h.2;cases rows with
        |nil=>grind[Io,Ma]
        | cons r rs=>
          cases hg:c.G.contains d with
          | true=>
            cases ο:c.G.contains (d+1000000)with
            |true=>simp only[hg,ο,cond_true]at h⊢;grind[Io,Ma]
            |false=>simp only[hg,ο,cond_true,cond_false]at h⊢;grind[Io,Ma]
          |false=>simp only[hg,cond_false]at h⊢;grind[Io,Ma]
    omega
  | store t p x=>
    simp only[H]at h⊢;rw[H]at L;cases j:o.dst with
    |some d=>grind
    | none=>
      rw[j]at h;simp only[Option.isNone_none,cond_true]at h⊢;obtain⟨i,X,h⟩:=zv h;refine J i X ?_;rw[L x θ0];split at h
      . unfold Dz at h⊢
        rw[L p θ0];obtain⟨xs,π,h⟩:=zv h;refine J xs π ?_;cases hb:(Nat.beq (Γ xs) i.size&&xs.all AV.one)with
        |false=>grind
        | true=>
          rw[hb]at h;simp only[cond_true]at h⊢;split at h
          . rename_i k off hp
            obtain⟨l,hl,h⟩:=zv h;refine J l hl ?_;cases hb2:Nat.ble (off+Γ xs) (Γ l) with
            |false=>grind
            |true=>rw[hb2]at h;simp only[cond_true,Hr]at h⊢;exact⟨_,h,rfl,λ_ _ _=>rfl⟩
          . obtain⟨y,hy,h⟩:=zv h
            refine J y hy ?_;cases y with
            |cells l=>simp only[Hr]at h⊢;exact⟨h.1,_,h.2,rfl,m7⟩
            |map es bs clock=>omega
            |iter m since seen last=>omega
            |ghost o gh=>omega
          omega
      omega
  | binOp op t x y yt=>
    simp only[H]at h⊢;have hev':=L;rw[H]at hev';unfold dl at h⊢;rw[hev' x θ0,hev' y θ0];split at h
    . obtain⟨i,X,h⟩:=zv h
      refine J i X ?_;cases ς:i.ty with
      | slice e=>
        rw[ς]at h;cases op with
        |eql=>simp_all
        |neq=>simp_all
        |_=>omega
      |_=>grind
    grind
  | convert s t x=>
    simp only[H]at h⊢;have hev':=L;rw[H]at hev';unfold cw at h⊢;rw[hev' x θ0];split at h
    . obtain⟨hb,h⟩:=pd h
      refine zgv hb ?_;obtain⟨i,X,h⟩:=zv h;refine J i X ?_;split at h
      . obtain⟨ie,V,h⟩:=zv h
        obtain⟨hu,h⟩:=pd h;obtain⟨top,htop,h⟩:=zv h;simp_all
      omega
    . exact hX h
    . exact hX h
    grind
  | call cl=>
    simp only[H]at h⊢;have hev':=L;rw[H]at hev';cases S:cl.callee with
    | value f=>
      simp only[S]at h⊢;rw[hev' f (by simp[Op.operands,Call.operands,S])];split at h
      . obtain⟨vs,η,h⟩:=zv h
        have e:(cl.args.toList.mapM λx=>((qw A D).ev x).toAV)=cl.args.toList.mapM λx=>(A.ev x).toAV:=
          Wy λx C=>hev' x ψu
        rw[e];refine J vs η ⟨λB M w us sto hr=>?_⟩;have:=h.out B M w us sto hr
        have hpost:∀v Q,xg U (λr a=>xz A c.n o.dst (.av r) λu=>K u a) B M w v Q->xg U (λr a=>xz (qw A D) c.n o.dst (.av r) λW=>∃u,K u a/\W=qw u D/\F7 o A u) B M w v Q:=
          λv Q ⟨r,a,M',h1,h2⟩=>⟨r,a,M',hputO _ a h1,h2⟩
        generalize(callFunc _ us).run P w=res at*;cases res with
        |halt x Q=>trivial
        | ok nx Q=>
          cases nx with
          |enter f as=>exact Calls.mono this λe ι ⟨v,he,hp⟩=>⟨v,he,hpost v ι hp⟩
          |value v=>exact hpost v Q this
          |_=>trivial
      omega
    | invoke y m=>
      simp only[S]at h⊢;unfold W5 at h⊢;rw[hev' y (by simp[Op.operands,Call.operands,S])];split at h
      . obtain⟨vs,η,g,x,hm,h⟩:=zv h
        have e:(cl.args.toList.mapM λx=>((qw A D).ev x).toAV)=cl.args.toList.mapM λx=>(A.ev x).toAV:=
          Wy λx C=>hev' x ψu
        rw[e];refine J vs η ⟨g,x,hm,⟨λB M w us sto hr=>?_⟩⟩;have:=h.out B M w us sto hr
        have hpost:∀v Q,xg U (λr a=>xz A c.n o.dst (.av r) λu=>K u a) B M w v Q->xg U (λr a=>xz (qw A D) c.n o.dst (.av r) λW=>∃u,K u a/\W=qw u D/\F7 o A u) B M w v Q:=
          λv Q ⟨r,a,M',h1,h2⟩=>⟨r,a,M',hputO _ a h1,h2⟩
        generalize(callFunc _ us).run P w=res at*;cases res with
        |halt x Q=>trivial
        | ok nx Q=>
          cases nx with
          |enter f as=>exact Calls.mono this λe ι ⟨v,he,hp⟩=>⟨v,he,hpost v ι hp⟩
          |value v=>exact hpost v Q this
          |_=>trivial
      omega
    | builtin b=>
      cases b with
      | append=>
        simp only[S]at h⊢;obtain⟨t,ht,h⟩:=zv h;obtain⟨i,X,h⟩:=zv h;obtain⟨s,hs,h⟩:=zv h;obtain⟨x,C,h⟩:=zv h;refine J t ht (J i X (J s hs (J x C ?_)));rw[hev' s (by simp[Op.operands,Call.operands,S];exact Fd4 hs),hev' x (by simp[Op.operands,Call.operands,S];exact Fd4 C)];split at h
        . cases hb:(cl.argTypes[1]?.bind c.I).any Pk with
          |false=>rw[hb]at h;exact hX h
          |true=>
          rw[hb]at h;replace h:=h.out;rcases h with h|⟨s',x',hes,hex,h⟩;rotate_left
          . refine⟨.inr ⟨s',x',hes,hex,h.has,λie V B M w sv xv at' ty T t sto h1 h2 h3 h4 h5 h6 h7 h8=>?_⟩⟩
            obtain⟨v,Q,hr,r,a,M',hK,hp⟩:=h.out ie V B M w sv xv at' ty T t sto h1 h2 h3 h4 h5 h6 h7 h8;exact⟨v,Q,hr,r,a,M',hputO _ a hK,hp⟩
          refine⟨.inl ?_⟩;unfold du at h⊢;obtain⟨ie,V,h⟩:=zv h;refine J ie V ?_;split at h
          . obtain⟨rows,z,E,h⟩:=zv h
            exact J rows z ⟨E,λv a H=>hputO _ a (h v a H)⟩
          . obtain⟨rows,z,E,h⟩:=zv h
            exact J rows z ⟨E,λv a H=>hputO _ a (h v a H)⟩
          . obtain⟨hk,h⟩:=pd h
            obtain⟨ν,z,τ,E,h⟩:=zv h;exact zgv hk (J ν z ⟨τ,E,λv a H=>hputO _ a (h v a H)⟩)
          . exact h.elim
        . exact h.elim
      |_=>simp only[S]at h⊢;have:=hval o.op rfl (by rw[H];exact h);rw[H]at this;exact this
  |_=>simp only[H]at h⊢;exact hval _ H.symm h
end
section
variable {P:Program} {c:Cfg} {ops:Array Oper}
def all_range{n:Nat}{p:Nat->Bool}:(List.range n).all p=true↔∀i,i<n->p i=true:=φ
structure OpFacts(c:Cfg)(ops:Array Oper)(i:Nat)(o:Oper):Prop where
  lt:∀j∈j8 ops i,j<i
  sel:∀cs b,o.op≠.select cs b
  nd:∀cl,o.op≠.defer cl
  dst:isV c o=true->∃d,o.dst=Δ d
  dlt:∀d,o.dst=Δ d->d<c.n
  own:∀d,o.dst=Δ d->d∉o.looksAt ops
  one:∀d,o.dst=Δ d->∀k o',ops[k]?=Δ o'->k≠i->o'.dst≠Δ d
  look:∀d,o.dst=Δ d->∀k o',ops[k]?=Δ o'->k≠i->d∈o'.looksAt ops->i∈j8 ops k\/(isV c o=false/\k∈j8 ops i)
def Kg(h:Fl c ops=true){i:Nat}{o:Oper}(p:ops[i]?=Δ o):OpFacts c ops i o:=by
  have g:i<ops.size:=(Fbt.1 p).1;have u:=all_range.1 h i g;simp only[p,Fay,Fcm]at u;obtain⟨⟨A,G⟩,l⟩:=u;refine⟨λj y=>Fbp (A j y),λI b f=>δ,λK f=>δ,λE=>?_,λd a=>?_,λd a=>?_,λd a k v n e=>?_,λd a k v n e H=>?_⟩
  . grind
  all_goals
    rw[a]at l;simp only[Fay,Fce]at l;obtain⟨⟨D,t⟩,C⟩:=l
  . exact Fbp D
  . intro w
    rw[(mem_iff _ _).2 w]at t;cases t
  all_goals
    have hklt:k<ops.size:=(Fbt.1 n).1;have B:=all_range.1 C k hklt;simp only[Bool.or_eq_true,qp e,Fan,false_or,Fay,Fce]at B
  . intro z
    simp_all
  grind[mem_iff]
def yss{p q:Nat->Bool}{i:Nat}:∀(l:List Nat),l.Nodup->i∈l->p i=true->q i=false->(∀j,j≠i->p j=q j)->l.countP p=l.countP q+1:=by
  intro l;induction l with
  |nil=>simp
  | cons a l ih=>
    grind[List.countP_congr]
def left(ops:Array Oper)(a:Array Bool):Nat:=(List.range ops.size).countP λi=> !a.getD i true
def Wz{a:Array Bool}(f:a.size=ops.size){i:Nat}(e:i<ops.size)(b:a.getD i true=false):left ops a=left ops (a.setIfInBounds i true)+1:=by
  refine yss _ List.nodup_range (Fbe.2 e) (by simp[b]) ?_ λj d=>?_
  . simp
  . rw[getD_set_ne true (Ne.symm d)]
theorem zd6{a:Array Bool}(h:left ops a=0){i:Nat}(b:i<ops.size):a.getD i true=true:=by grind[left,List.countP_eq_zero]
def least{p:Nat->Prop}:∀n,(∃i,i<n/\p i)->∃i,i<n/\p i/\∀j,j<i->¬p j:=by
  intro n;induction n with
  |zero=>simp
  | succ n ih=>
    by_cases hx:∃j,j<n/\p j
    . grind
    grind
def zdl{i j:Nat}{o:Oper}(a:ops[i]?=Δ o):j∈j8 ops i↔∃e∈o.after,Region.binds .any e=true/\e.on=j:=by grind[j8]
theorem ready_iff{i:Nat}{listed:Array Bool}:i∈Region.ready .any ops listed↔listed.getD i true=false/\i<ops.size/\∀j∈j8 ops i,listed.getD j false=true:=by
  rw[mem_ready];constructor
  . rintro⟨h1,o,ho,h2⟩
    refine⟨h1,(Fbt.1 ho).1,λj hj=>?_⟩;obtain⟨e,he,hb,rfl⟩:=(zdl ho).1 hj;grind
  . rintro⟨h1,hlt,h2⟩
    refine⟨h1,ops[i],Fby hlt,λe he hb=>h2 _ ((zdl (Fby hlt)).2 ⟨e,he,hb,rfl⟩)⟩
def Ck(ops:Array Oper)(U:List Nat):List Nat:=U.filterMap λi=>(ops[i]?).bind (·.dst)
def mem_dsts{U:List Nat}{t:Nat}:t∈Ck ops U↔∃k∈U,∃o,ops[k]?=Δ o/\o.dst=Δ t:=by grind[Ck]
def SimB.weaken{n:SN}{b M:BB}{β:Nat->Nat}{A B:Fr}{f:Store}{a:Act}{w:World}(h:SimB n b β A f M a w)(d:B.bx=A.bx)(g:∀t,A.t t=B.t t\/B.t t=.any):SimB n b β B f M a w where
  tsz:=h.tsz
  dfr:=h.dfr
  tm i:=by
    rcases g i with e|e
    . rw[<-e];exact h.tm i
    . rw[e];trivial
  bx:=by rw[d];exact h.bx
  inj:=by rw[d];exact h.inj
  sep:=by rw[d];exact h.sep
  sto:=h.sto
def Oper.wp_q{o:Oper}{a:Act}{w:World}{K:Act->World->Prop}{Q:Exit->Act->World->Prop}(h:o.wp P a w K λ_ _ _=>False):o.wp P a w K Q:=by
  unfold Oper.wp at*;generalize(execOp a.eval o).run P w=r at*;cases r with
  | ok n f=>
    cases n<;>simp only[Oper.upon]at h⊢<;>
      first
        |exact h
        |exact Calls.mono h (λe d b=>by cases e<;>first|exact b|exact b.elim|(obtain⟨_,_,b⟩:=b;exact b.elim))
        |exact Rows.mono h (λ_ _ b=>b)
  |halt x f=>cases x<;>trivial<;>exact h.elim
def yut(u:qf P c.I){o:Oper}{d:Nat}{x:LV}{B:Fr}{f:Store}(A:o.dst=Δ d)(j:d<c.n)(h:vcW c B.ev B.bx f d o.op (λy=>y=x)):AOp P c.N o (λv a=>v=B.put d x/\a=f) B f:=by
  have key:(∀t n C,o.op≠.buildSlice t n C)->AOp P c.N o (λv a=>v=B.put d x/\a=f) B f:=by
    intro H;refine Sl u (J d A ?_);simp only[show Nat.blt d c.n=true from Fca j,cond_true];unfold vcW at h;split at h
    . grind
    . exact si u (λy w=>⟨by rw[w],O⟩) h
  cases g:o.op with
  | buildSlice t n parts=>
    rw[g]at h;obtain⟨i,D,e,rows,y,K,k,p,b,z,l,w,E,_⟩:=zhl (show bsK c B.ev t n parts (λy=>y=x)from h);refine zic (c:={c with G:=[]}) g u (J i K (J d A ?_));simp only[show Nat.blt d c.n=true from Fca j,cond_true,k];refine J D p (J rows b ?_);grind
  |_=>grind
theorem Od{o:Oper}{A B:Fr}(h:∀t∈o.looksAt ops,B.t t=A.t t):Ch ops o B=Ch ops o A:=by grind[Ch,Oper.looksAt]
def zd3{o:Oper}{t:Nat}(h:Operand.tmp t∈o.op.operands):t∈o.looksAt ops:=
  Fdl _ (List.mem_filterMap.2 ⟨.tmp t,δ,rfl⟩)
def oq{o:Oper}{A B:Fr}(h:∀t∈o.looksAt ops,B.t t=A.t t):∀x∈o.op.operands,B.ev x=A.ev x:=by
  intro x a;cases x with
  |tmp t=>exact h t (zd3 a)
  |_=>rfl
def stands_iff{A:Fr}{a:Store}{i:Nat}:stands c ops A a i↔∃o d,ops[i]?=Δ o/\o.dst=Δ d∧
    ((Ch ops o A=Δ true/\vcW c A.ev A.bx a d o.op λx=>x=A.t d)\/(Ch ops o A=Δ false/\A.t d=.und)):=by
  unfold stands;constructor
  . intro h
    obtain⟨o,b,h⟩:=zv h;simp_all[zv,guardK_iff]
  grind[J,guardK_iff]
def ul{A B:Fr}{e b:Store}{i:Nat}{o:Oper}(j:ops[i]?=Δ o)(h:stands c ops A e i)(g:∀t∈o.looksAt ops,B.t t=A.t t)(k:∀d,o.dst=Δ d->B.t d=A.t d)
    (n:(B.bx=A.bx/\b=e)\/Nv o.op=true):stands c ops B b i:=by
  obtain⟨l,d,f,a,h⟩:=stands_iff.1 h;rw[j]at f;cases f;refine stands_iff.2 ⟨o,d,j,a,?_⟩;rw[Od g,k d a];refine h.imp (λh=>⟨h.1,?_⟩) id;have p:=ez (oq g) h.2;grind[zjt]
def zz3{A:Fr}{st:Store}:∀{l:List Nat},Ll c ops A st l->∀i∈l,stands c ops A st i:=by
  intro l;induction l with
  |nil=>simp
  | cons a l ih=>
    intro h i hi;rcases Fa7.1 hi with rfl|h'
    . exact h.1
    . exact ih h.2 i h'
def zgb(P:Program)(c:Cfg)(ops:Array Oper)(K:Fr->Store->Prop)(i:Nat)(b:List Nat)(r:Sched)(A:Fr)(e:Store):Prop:=
  optK ops[i]? λo=>
      Kq ops o A (λA=>Ff P c o (λd a=>Ll c ops d a b/\Aw P c ops K r d a) A e)
        (λA=>xz A c.n o.dst .und λd=>Ll c ops d e b/\Aw P c ops K r d e)
def yu5{K:Fr->Store->Prop}{A:Fr}{st:Store}{i:Nat}{L:List Nat}:∀(S:Sched) (first:Bool),Bm c ops S L first=true->Aw P c ops K S A st->i∈Sm S->
    ∃chk r,R9 c ops i chk L=true/\Bm c ops r (i::L) true=true/\zgb P c ops K i chk r A st:=by
  intro S;induction S with
  |done=>intro _ _ _ h;cases h
  |stop=>intro _ _ _ h;cases h
  |v j r _=>intro _ _ _ h;cases h
  | e j chk r alt _ ih=>
    intro first hs hv hi
    simp only[Bm,Fay]at hs;simp only[Sm,Fa7]at hi;rcases hi with rfl|hi
    . exact⟨chk,r,hs.1.1.1,hs.1.1.2,hv.1⟩
    . exact ih false hs.1.2 hv.2 hi
structure DInv(c:Cfg)(ops:Array Oper)(Oth M0:BB)(w0:World)(listed:Array Bool)(Lab U:List Nat)(A:Fr)(st:Store)(M:BB)(a:Act)(w:World):Prop where
  lsz:listed.size=ops.size
  lst:∀i,i<ops.size->(listed.getD i false=true↔i∈Lab/\i∉U)
  usub:∀i∈U,i∈Lab
  lab:∀i∈Lab,i<ops.size/\∀j∈j8 ops i,j∈Lab
  uv:∀i∈U,∃o,ops[i]?=Δ o/\isV c o=true
  std:∀i∈U,stands c ops A st i
  sim:Sim c.N Oth (qw A (Ck ops U)) st M a w
  chg:Chg M0 w0 M w
  cls:∀i,i<ops.size->listed.getD i false=true->∀j∈j8 ops i,listed.getD j false=true
theorem ze8{a:Array Bool}{i:Nat}(h:i<a.size):a.getD i true=a.getD i false:=by simp[h]
def yiw{ops:Array Oper}{a:Array Bool}(n:∀i,i<ops.size->a.getD i false=true->∀j∈j8 ops i,a.getD j false=true)(e:∀i j,j∈j8 ops i->j<ops.size){i:Nat}(g:∀j∈j8 ops i,a.getD j false=true):
    ∀k∈Py ops i,a.getD k false=true:=by
  have key:∀(l b:List Nat),(∀k∈b,k<ops.size/\a.getD k false=true)->∀k∈l.foldl (λb j=>bif mem j b then j8 ops j++b else b) b,k<ops.size/\a.getD k false=true:=by
    intro l;induction l with
    |nil=>simp
    | cons j l o=>
      intro b h;by_cases f:mem j b=false
      . grind
      . have f:mem j b=true:=by grind
        have p:=h j ((mem_iff _ _).1 f);grind
  exact λk d=>(key _ _ (λk d=>⟨e i k d,g k d⟩) k d).2
end
section
variable {P:Program} {c:Cfg} {ops:Array Oper} {Oth M0:BB} {w0:World}
def D9(c:Cfg)(Oth M0:BB)(w0:World)(K:Fr->Store->Prop):Exit->Act->World->Prop:=
  λe g d=>∃f b M',(match e with|.normal=>K f b|_=>False)/\Sim c.N Oth f b M' g d/\Chg M0 w0 M' d
theorem zjs(i:qf P c.I){ev:Operand->LV}{f:Nat->Option (List AV)}{st:Store}{d:Nat}{e:Op}{K:LV->Prop}(h:vcW c ev f st d e K):∃x,K x/\vcW c ev f st d e λy=>y=x:=by
  unfold vcW at h⊢;split at h
  . obtain⟨_,_,_,_,x,_,_,_,_,_,_,_,g,b⟩:=zhl h
    grind
  . obtain⟨x,g,b,_⟩:=fa i _ h
    grind
section
variable {listed:Array Bool} {Lab U:List Nat} {A:Fr} {st:Store} {M:BB} {a:Act} {w:World}
def DInv.listed_iff(h:DInv c ops Oth M0 w0 listed Lab U A st M a w){i:Nat}(b:i<ops.size):listed.getD i true=false↔¬(i∈Lab/\i∉U):=by rw[ze8 (by rw[h.lsz];exact b),<-h.lst i b];simp
def DInv.done(f:Fl c ops=true){K:Fr->Store->Prop}{S:Sched}(h:DInv c ops Oth M0 w0 listed Lab U A st M a w)(d:Bm c ops S Lab true=true)(g:Aw P c ops K S A st)
    (j:left ops listed=0):D9 c Oth M0 w0 K .normal a w:=by
  have hall:∀i,i<ops.size->i∈Lab/\i∉U:=λi b=>by have:=zd6 j b;rw[ze8 (by rw[h.lsz];exact b)]at this;exact(h.lst i b).1 this
  have k:U=[]:=by
    cases U with
    |nil=>rfl
    |cons u U=>exact absurd (Fbn) (hall u (h.lab u (h.usub u Fbn)).1).2
  subst k;cases S with
  |done=>exact⟨A,st,M,g,h.sim,h.chg⟩
  |stop=>trivial
  | v i r=>
    simp only[Bm,Fay,Fce]at d;grind[mem_iff]
  | e i chk r alt=>
    simp only[Bm,R9,Fay,Fce]at d;grind[mem_iff]
def DInv.ready_ne(b:Fl c ops=true)(h:DInv c ops Oth M0 w0 listed Lab U A st M a w){n:Nat}(k:left ops listed=n+1):Region.ready .any ops listed≠[]:=by
  have d:∃i,i<ops.size/\listed.getD i true=false:=by grind[left,List.countP_pos_iff]
  obtain⟨i,f,g,e⟩:=least ops.size d;have:i∈Region.ready .any ops listed:=by rw[ready_iff];refine⟨g,f,λj hj=>?_⟩;have hlt:=(Kg b (Fby f)).lt j hj;grind
  grind
def DInv.clear(d:Fl c ops=true)(h:DInv c ops Oth M0 w0 listed Lab U A st M a w){i:Nat}(p:i∈Region.ready .any ops listed){o:Oper}(l:ops[i]?=Δ o):∀t∈o.looksAt ops,t∉Ck ops U:=by
  intro t j v;obtain⟨k,g,z,b,f⟩:=mem_dsts.1 v;have n:=Kg d b;by_cases e:i=k
  . subst e
    rw[l]at b;cases b;exact n.own t f j
  . obtain⟨y,u,B⟩:=h.uv k g
    rcases n.look t f i o l e j with h1|⟨h1,_⟩
    . have:=(ready_iff.1 p).2.2 k h1
      exact((h.lst k (h.lab k (h.usub k g)).1).1 this).2 g
    grind
theorem DInv.look(h:DInv c ops Oth M0 w0 listed Lab U A st M a w){i:Nat}{o:Oper}(d:∀t∈o.looksAt ops,t∉Ck ops U):∀t∈o.looksAt ops,(qw A (Ck ops U)).t t=A.t t:=
  λt b=>bp (d t b)
def ysc(b:Fl c ops=true):∀i j,j∈j8 ops i->j<ops.size:=by
  intro i j d;cases e:ops[i]? with
  |none=>grind[j8]
  | some o=>
    have:=(Kg b e).lt j d;grind
def zg0(h:DInv c ops Oth M0 w0 listed Lab U A st M a w)(d:Fl c ops=true){i:Nat}(l:i∈Region.ready .any ops listed):
    ∀k,k<ops.size->(listed.setIfInBounds i true).getD k false=true->∀j∈j8 ops k,(listed.setIfInBounds i true).getD j false=true:=by
  have mono:∀j,listed.getD j false=true->(listed.setIfInBounds i true).getD j false=true:=by
    intro j hj;by_cases g:i=j
    . grind[ready_iff]
    simp_all
  intro k f e j hj;by_cases b:i=k
  . grind[ready_iff]
  . rw[getD_set_ne false b]at e
    exact mono j (h.cls k f e j hj)
def DInv.pend(hI:qf P c.I)(e:Fl c ops=true){K:Fr->Store->Prop}{f:Nat}(h:DInv c ops Oth M0 w0 listed Lab U A st M a w){i:Nat}(R:i∈Region.ready .any ops listed)(T:i∈U)
    (V:∀(U':List Nat) (M':BB) (y:Act) (g:World),DInv c ops Oth M0 w0 (listed.setIfInBounds i true) Lab U' A st M' y g->wpAny P .any ops (D9 c Oth M0 w0 K) f (listed.setIfInBounds i true) y g):
    wpOp P ops (D9 c Oth M0 w0 K) i (wpAny P .any ops (D9 c Oth M0 w0 K) f (listed.setIfInBounds i true)) a w:=by
  obtain⟨o,d,E,B,H⟩:=stands_iff.1 (h.std i T);have Q:=Kg e E;have hclear:=h.clear e R E;have hlook:=h.look (i:=i) hclear;have hilt:=(Fbt.1 E).1
  -- the frame behind it
  have next:∀(M':BB) (y:Act) (g:World),Sim c.N Oth ((qw A (Ck ops U)).put d (A.t d)) st M' y g->Chg M w M' g->
      wpAny P .any ops (D9 c Oth M0 w0 K) f (listed.setIfInBounds i true) y g:=by
    rintro M' y g ⟨β,b⟩ C;refine V (U.filter λk=> !Nat.beq k i) M' y g ⟨by simp[h.lsz],λj p=>?_,λj p=>h.usub j (Fcc.1 p).1,h.lab,λj p=>h.uv j (Fcc.1 p).1,λj p=>h.std j (Fcc.1 p).1,⟨β,b.weaken rfl λt=>?_⟩,h.chg.trans C,zg0 h e R⟩
    . by_cases z:i=j
      . subst z
        have:i<listed.size:=by rw[h.lsz];exact hilt
        simp[this,h.usub i T]
      . rw[getD_set_ne false z,h.lst j p]
        simp_all[Ne.symm]
    . by_cases ht:t=d
      . subst ht
        rw[bp]
        . simp[Fr.put]
        . intro D
          obtain⟨k,S,G,l,v⟩:=mem_dsts.1 D;have n:k≠i:=by intro h;simp_all
          exact Q.one t B k G l n v
      . by_cases D:t∈Ck ops (U.filter λk=> !Nat.beq k i)
        . simp[qw,(mem_iff _ _).2 D]
        . have ε:t∉Ck ops U:=by
            intro h2;obtain⟨k,S,G,l,v⟩:=mem_dsts.1 h2;refine D (mem_dsts.2 ⟨k,Fcc.2 ⟨S,?_⟩,G,l,v⟩);by_cases n:k=i
            . grind
            . simp[qp n]
          simp_all[Fr.put,qp,bp]
  unfold Go.wpOp;simp only[E];rcases H with⟨L,W⟩|⟨L,X⟩
  . have u:Ch ops o (qw A (Ck ops U))=Δ true:=by rw[Od hlook];exact L
    rw[bj h.sim u];refine .inl (Oper.wp_q (Oper.wp_mono ?_ (yut hI B (Q.dlt d B) (ez (oq hlook) W) Oth M a w h.sim)));grind
  . have u:Ch ops o (qw A (Ck ops U))=Δ false:=by rw[Od hlook];exact L
    rw[bj h.sim u];obtain⟨β,b⟩:=h.sim;refine next M _ w ⟨β,?_⟩ (Chg.refl M w)
    rw[B,X];exact b.put (Q.dlt d B) rfl
def DInv.eff(hI:qf P c.I)(p:Fl c ops=true){K K2:Fr->Store->Prop}{z:Nat}(h:DInv c ops Oth M0 w0 listed Lab U A st M a w){i:Nat}(hr:i∈Region.ready .any ops listed){g:List Nat}{r:Sched}
    (he:R9 c ops i g Lab=true) (n:zgb P c ops K i g r A st)
    (ih:∀(l:Fr) (b:Store) (M':BB) (G:Act) (C:World),Aw P c ops K r l b->DInv c ops Oth M0 w0 (listed.setIfInBounds i true) (i::Lab) U l b M' G C->wpAny P .any ops (D9 c Oth M0 w0 K2) z (listed.setIfInBounds i true) G C):
    wpOp P ops (D9 c Oth M0 w0 K2) i (wpAny P .any ops (D9 c Oth M0 w0 K2) z (listed.setIfInBounds i true)) a w:=by
  obtain⟨o,hi,n⟩:=zv n;have hf:=Kg p hi;have hclear:=h.clear p hr hi;have hlook:=h.look (i:=i) hclear;have hilt:=(Fbt.1 hi).1;simp only[R9,hi,Fay,Fce,Fcm]at he;obtain⟨⟨⟨⟨hnL,_⟩,ς⟩,hnV⟩,hL⟩:=he;have X:i∉Lab:=λH=>by grind[mem_iff]
  have W:i∉U:=λH=>X (h.usub i H);have ε:∀d,o.dst=Δ d->d∉Ck ops U:=by intro d v H;obtain⟨k,f,B,e,hd'⟩:=mem_dsts.1 H;exact hf.one d v k B e (λh=>W (h▸f)) hd'
  have π:∀j∈j8 ops i,j∈Lab/\j∉U:=λj hj=>by
    have h1:=(ready_iff.1 hr).2.2 j hj;have hlt:j<ops.size:=by have:=hf.lt j hj;omega
    exact(h.lst j hlt).1 h1
  have R:∀k∈U,k∉Py ops i:=λk f H=>by have h1:=yiw h.cls (ysc p) (ready_iff.1 hr).2.2 k H;exact((h.lst k (h.lab k (h.usub k f)).1).1 h1).2 f
  -- what follows
  have next:∀(l:Fr) (b:Store) (M':BB) (G:Act) (C:World),Ll c ops l b g->Aw P c ops K r l b->F7 o A l->((∃k,l=A.put k .und/\o.dst=Δ k/\b=st)\/l=A/\b=st\/True)->Sim c.N Oth (qw l (Ck ops U)) b M' G C->Chg M w M' C->
      (∀k∈U,k∉g->∀B,ops[k]?=Δ B->∀t,o.dst≠Δ t->l.t t=A.t t)->
      wpAny P .any ops (D9 c Oth M0 w0 K2) z (listed.setIfInBounds i true) G C:=by
    intro l b M' G C η ν D _ Q ι ο;refine ih l b M' G C ν ⟨by simp[h.lsz],λj hj=>?_,λj hj=>Fba _ (h.usub j hj),λj hj=>?_,h.uv,λk f=>?_,Q,h.chg.trans ι,zg0 h p hr⟩
    . by_cases V:i=j
      . subst V
        have:i<listed.size:=by rw[h.lsz];exact hilt
        simp_all
      . rw[getD_set_ne false V,h.lst j hj]
        grind
    . rcases Fa7.1 hj with rfl|hj
      . grind
      . exact⟨(h.lab j hj).1,λk f=>Fba _ ((h.lab j hj).2 k f)⟩
    . by_cases y:k∈g
      . exact zz3 η k y
      . obtain⟨B,e,hV⟩:=h.uv k f
        have T:=ο k f y B e;have S:k≠i:=λh=>W (h▸f);have hkd:k∉j8 ops i:=λv=>(π k v).2 f;have h4:=hL k (h.usub k f);have m1:mem k (Py ops i)=false:=Ki (R k f);have m2:mem k g=false:=Ki y;rw[e]at h4;simp only[m1,m2,Fd7,Bool.or_eq_true,Fce,Fay,hV,Bool.true_eq_false,false_or]at h4;refine ul e (h.std k f) (λt L=>T t λv=>?_) (λd v=>T d λυ=>hf.one d υ k B e S v) (.inr h4.1);rcases hf.look t v k B e S L with h5|⟨_,h5⟩
        . exact X ((h.lab k (h.usub k f)).2 i h5)
        grind
  have D:∀(l:Fr),F7 o A l->∀k∈U,k∉g->∀B,ops[k]?=Δ B->∀t,o.dst≠Δ t->l.t t=A.t t:=by intro l hK k f y B e t L;obtain⟨o2,τ,hV⟩:=h.uv k f;rw[e]at τ;have h4:=hL k (h.usub k f);have m1:mem k (Py ops i)=false:=Ki (R k f);have m2:mem k g=false:=Ki y;refine hK ?_ t L;grind
  unfold Go.wpOp;simp only[hi];rcases guardK_iff.1 n with⟨hg,n⟩|⟨hg,n⟩
  . have E:Ch ops o (qw A (Ck ops U))=Δ true:=by rw[Od hlook];exact hg
    rw[bj h.sim E];have hF:=zju hI n (λx hx t L=>hclear t (zd3 δ)) ε;refine .inl (Oper.wp_q (Oper.wp_mono ?_ (zib hI hF Oth M a w h.sim)));grind
  . have E:Ch ops o (qw A (Ck ops U))=Δ false:=by rw[Od hlook];exact hg
    rw[bj h.sim E];obtain⟨β,u⟩:=h.sim;cases v:o.dst with
    | none=>
      rw[v]at n;exact next A st M _ w n.1 n.2 m7 (.inr (.inr trivial)) ⟨β,u⟩ (Chg.refl M w) (λ_ _ _ _ _ _ _=>rfl)
    | some d=>
      rw[v]at n;obtain⟨hlt,n⟩:=Bu n;refine next (A.put d .und) st M _ w n.1 n.2 (Ma v) (.inr (.inr trivial)) ⟨β,?_⟩ (Chg.refl M w) (λ_ _ _ _ _ t L=>by grind[Fr.put,qp])
      rw[<-Io (ε d v)];exact u.put hlt rfl
def DInv.move(hI:qf P c.I)(n:Fl c ops=true){K:Fr->Store->Prop}(h:DInv c ops Oth M0 w0 listed Lab U A st M a w){j:Nat}{r:Sched}(C:Bm c ops (.v j r) Lab true=true)(e:Aw P c ops K (.v j r) A st):
    ∃B,Bm c ops r (j::Lab) true=true/\Aw P c ops K r B st/\DInv c ops Oth M0 w0 listed (j::Lab) (j::U) B st M a w:=by
  simp only[Bm,Fay,Fce,true_and]at C;obtain⟨⟨⟨⟨R,ε⟩,hV⟩,z⟩,C⟩:=C;have u:j∉Lab:=λhm=>by rw[(mem_iff _ _).2 hm]at R;cases R
  obtain⟨o,T,e⟩:=zv e;obtain⟨d,D,e⟩:=zv e;have H:=Kg n T;have η:∀k∈j8 ops j,k∈Lab:=λk b=>(mem_iff _ _).1 (Fcm.1 z k b)
  have key:∀x,Aw P c ops K r (A.put d x) st->((Ch ops o A=Δ true/\vcW c A.ev A.bx st d o.op λy=>y=x)\/(Ch ops o A=Δ false/\x=.und))->
      ∃B,Bm c ops r (j::Lab) true=true/\Aw P c ops K r B st/\DInv c ops Oth M0 w0 listed (j::Lab) (j::U) B st M a w:=by
    intro x X E;have hout:∀t,t≠d->(A.put d x).t t=A.t t:=λt l=>by simp[Fr.put,qp l]
    refine⟨A.put d x,C,X,h.lsz,λk b=>?_,λk b=>?_,λk b=>?_,λk b=>?_,λk b=>?_,?_,h.chg,h.cls⟩
    . rw[h.lst k b]
      grind
    . rcases Fa7.1 b with rfl|b
      . simp
      . exact Fba _ (h.usub k b)
    . rcases Fa7.1 b with rfl|b
      . grind
      . exact⟨(h.lab k b).1,λW G=>Fba _ ((h.lab k b).2 W G)⟩
    . rcases Fa7.1 b with rfl|b
      . grind
      . exact h.uv k b
    . rcases Fa7.1 b with rfl|b
      . have S:∀t∈o.looksAt ops,(A.put d x).t t=A.t t:=λt l=>hout t λg=>H.own d D (g▸l)
        refine stands_iff.2 ⟨o,d,T,D,?_⟩;rw[Od S,show(A.put d x).t d=x by simp[Fr.put]];exact E.imp (λh=>⟨h.1,ez (oq S) h.2⟩) id
      . obtain⟨Q,f,ι⟩:=h.uv k b
        have p:k≠j:=λg=>u (g▸h.usub k b);refine ul f (h.std k b) (λt l=>hout t λg=>?_) (λd' L=>hout d' λg=>H.one d D k Q f p (g▸L)) (.inl ⟨rfl,rfl⟩);subst g;rcases H.look t D k Q f p l with V|⟨V,_⟩
        . exact u ((h.lab k (h.usub k b)).2 j V)
        grind
    . obtain⟨β,i⟩:=h.sim
      refine⟨β,i.weaken rfl λt=>?_⟩;grind[Ck,qw,mem_iff]
  rcases guardK_iff.1 e with⟨hg,e⟩|⟨hg,e⟩
  . grind[zjs]
  grind
end
def yrl(o:qf P c.I)(b:Fl c ops=true){K:Fr->Store->Prop}{d:Nat}
    (ih:∀(S:Sched) (listed:Array Bool) (Lab U:List Nat) (A:Fr) (st:Store) (M:BB) (a:Act) (w:World),Bm c ops S Lab true=true->Aw P c ops K S A st->DInv c ops Oth M0 w0 listed Lab U A st M a w->left ops listed=d->
      wpAny P .any ops (D9 c Oth M0 w0 K) d listed a w) {listed:Array Bool} {M:BB} {a:Act} {w:World} {st:Store} (W:left ops listed=d+1) {i:Nat} (n:i∈Region.ready .any ops listed):
    ∀ (S:Sched) (Lab U:List Nat) (A:Fr),Bm c ops S Lab true=true->Aw P c ops K S A st->DInv c ops Oth M0 w0 listed Lab U A st M a w->
      wpOp P ops (D9 c Oth M0 w0 K) i (wpAny P .any ops (D9 c Oth M0 w0 K) d (listed.setIfInBounds i true)) a w:=by
  obtain⟨hun,hilt,f⟩:=ready_iff.1 n;intro S;induction S with
  | done=>
    intro Lab U A hs hv h;by_cases g:i∈U
    . exact h.pend o b n g λG B z t p=>ih .done _ _ _ _ _ _ _ _ hs hv p ψf
    . exact absurd ⟨(mem_iff _ _).1 (all_range.1 hs i hilt),g⟩ ((h.listed_iff hilt).1 hun)
  |stop=>intro Lab U A hs;trivial
  | v j r ihr=>
    intro Lab U A hs hv h;by_cases g:i∈U
    . exact h.pend o b n g λG B z t p=>ih (.v j r) _ _ _ _ _ _ _ _ hs hv p ψf
    . obtain⟨V,h1,h2,D⟩:=h.move o b hs hv
      grind
  | e j chk r alt _ _=>
    intro Lab U A hs hv h;by_cases g:i∈U
    . exact h.pend o b n g λG B z t p=>ih (.e j chk r alt) _ _ _ _ _ _ _ _ hs hv p ψf
    . have y:i∉Lab:=λQ=>(h.listed_iff hilt).1 hun ⟨Q,g⟩
      have u:i∈Sm (.e j chk r alt):=by
        have l:=hs;simp only[Bm,Fay,Bool.not_true,Fd7]at l;have h1:=all_range.1 l.2 i hilt;simp only[Bool.or_eq_true,Fce,Ki y,Fan,false_or]at h1;rcases h1 with h1|h1
        . have:sub (j8 ops i) Lab=true:=by
            unfold sub;rw[Fcm];intro k C;have hlt:k<ops.size:=by have:=(Kg b (Fby hilt)).lt k C;omega
            exact(mem_iff _ _).2 ((h.lst k hlt).1 (f k C)).1
          grind
        . exact(mem_iff _ _).1 h1
      obtain⟨E,L,h1,h2,D⟩:=yu5 _ true hs hv u;exact h.eff o b n h1 D λV H B z t T R=>ih L _ _ _ _ _ _ _ _ h2 T R ψf
def yrm(hI:qf P c.I)(hops:Fl c ops=true){K:Fr->Store->Prop}:∀(fuel:Nat) (S:Sched) (listed:Array Bool) (Lab U:List Nat) (A:Fr) (st:Store) (M:BB) (a:Act) (w:World),Bm c ops S Lab true=true->Aw P c ops K S A st->DInv c ops Oth M0 w0 listed Lab U A st M a w->left ops listed=fuel->
      wpAny P .any ops (D9 c Oth M0 w0 K) fuel listed a w:=by
  intro fuel;induction fuel with
  | zero=>
    intro S listed Lab U A st M a w hs hv h hl;refine⟨?_,h.done hops hs hv hl⟩;cases hr:Region.ready .any ops listed with
    |nil=>rfl
    | cons i rs=>
      grind[List.mem_cons_self,ready_iff,zd6]
  | succ fuel ih=>
    intro S listed Lab U A st M a w hs hv h hl;refine⟨λhr=>absurd hr (h.ready_ne hops hl),λi hi=>yrl hI hops ih hl hi S Lab U A hs hv h⟩
def ziy{ops:Array Oper}(k:∀(i:Nat) (o:Oper),ops[i]?=Δ o->∀l,o.op≠.defer l){Q:Exit->Act->World->Prop}{i:Nat}{K g:Act->World->Prop}{a:Act}{w:World}(d:∀a w,K a w->g a w)(h:wpOp P ops Q i K a w)(j:∀e a w,e≠.normal->¬Q e a w):wpOpIn c.F 0 P ops Q i g a w:=by
  unfold wpOp at h;unfold wpOpIn;split
  . grind
  . rename_i o f
    simp only[f]at h;split
    . rename_i b
      simp only[b,if_true]at h;rcases h with h|⟨_,a1,n,h⟩
      . exact Ss d j (Oper.wpIn_F (k i o f) h)
      grind
    . rename_i b
      simp only[b]at h;exact⟨λ_ _=>O,d _ _ h⟩
def zi1{ops:Array Oper}(hd:∀(i:Nat) (o:Oper),ops[i]?=Δ o->∀cl,o.op≠.defer cl){Q:Exit->Act->World->Prop}(hn:∀e a w,e≠.normal->¬Q e a w){md:Region.Mode}:∀(fuel:Nat) (listed:Array Bool) (a:Act) (w:World),wpAny P md ops Q fuel listed a w->wpAnyIn c.F 0 P md ops Q fuel listed a w:=by
  intro fuel;induction fuel with
  |zero=>intro listed a w h;exact h
  |succ fuel ih=>intro listed a w h;exact⟨h.1,λi hi=>ziy hd (λa w h=>ih _ a w h) (h.2 i hi) hn⟩
def ADraw.of_sched(hI:qf P c.I)(d:P.follows .mixedOrders=true)(hops:Fl c ops=true){K:Fr->Store->Prop}{A:Fr}{st:Store}(S:Sched)(hs:Bm c ops S [] true=true)(hv:Aw P c ops K S A st):ADraw P c ops K A st:=by
  refine⟨λid=>⟨λOth M a w b=>wpIn_region_any d (zi1 (λi o hi=>(Kg hops hi).nd) ?_ _ _ _ _ ?_)⟩⟩
  . grind
  obtain⟨β,b⟩:=b;have g:=Grow.drew w
  have hinv:DInv c ops Oth M w (Array.replicate ops.size false) [] [] A st M a w.drew:=
    ⟨φ,λi hi=>by simp[hi],λi h=>ω,λi h=>ω,λi h=>ω,λi h=>ω,⟨β,b.grow g⟩,g.chg M,λi hi hl=>θh⟩
  have hl:left ops (Array.replicate ops.size false)=ops.size:=by
    unfold left;have:(List.range ops.size).countP (λi=> !(Array.replicate ops.size false).getD i true)=(List.range ops.size).length:=by rw[List.countP_eq_length];simp_all
    grind
  exact yrm hI hops ops.size S _ [] [] A st M a w.drew hs hv hinv hl
def Qc(hI:qf P c.I){K:Fr->Store->Prop}{A:Fr}{st:Store}(S:Sched)(hv:Aw P c ops K S A st)(hm:P.follows .mixedOrders=true:=by rfl)(hops:Fl c ops=true:=by rfl)(hs:Bm c ops S [] true=true:=by rfl):ADraw P c ops K A st:=ADraw.of_sched hI hm hops S hs hv
end
section
variable {x r:AV} {st st':Store} {a v:Int}
def ret{R:Ja}(h:R x st):∃r st',AV.le x r/\st.Has st'/\R r st':=⟨x,st,Tt,Store.Has.refl _,h⟩
def zbq{R:Ja}(h:AV.le x r)(k:R r st):∃r st',AV.le x r/\st.Has st'/\R r st':=⟨r,st,h,Store.Has.refl _,k⟩
def Dg{R:Ja}(h:AV.le x r)(k:st.Has st')(q:R r st'):∃r st',AV.le x r/\st.Has st'/\R r st':=⟨r,st',h,k,q⟩
def Az{R:Ja}(q:R r st')(k:st.Has st')(h:AV.le x r):∃r st',AV.le x r/\st.Has st'/\R r st':=⟨r,st',h,k,q⟩
def optR{α:Type}{x:α}{K:α->Prop}(h:K x):optK (Δ x) K:=h
def bcd{c:Prop}[Decidable c]{p q:Prop}(h:c->p)(b:¬c->q):Ds (decide c) p q:=zg (λe=>h (of_decide_eq_true e)) (λe=>b (of_decide_eq_false e))
def zp{b:Int}{p q:Prop}(h:a=b->p)(c:a≠b->q):Ds (a==b) p q:=zg (λe=>h (eq_of_beq e)) (λe=>c (ne_of_beq_false e))
def qd{b:Int}{p q:Prop}(h:a≠b->p)(c:a=b->q):Ds (a != b) p q:=by grind[zg]
def ya{b:Bool}{p q:Prop}(h:Ds b q p):Ds (!b) p q:=by cases b<;>exact h
def zir{P:Prop}{Q:Bool->Prop}(h:P->Q true)(c:¬P->Q false):∀b:Bool,(b=true↔P)->Q b:=δ
def ze{K:Prop}(h:-9223372036854775808<=v/\v<=9223372036854775807)(k:K):yr v/\K:=⟨h,k⟩
def Qd{K:Prop}(k:K)(h:-9223372036854775808<=v/\v<=9223372036854775807:=by omega):yr v/\K:=⟨h,k⟩
def O2{k:Nat}{rows:List (List AV)}{b:Nat}(d:Fresh st b)(c:rows≠[]):App k st (.lst k rows (Δ b)) rows (st.sT b (Δ (Γ rows*k))):=
  .inr (.inr ⟨c,b,d,rfl,rfl⟩)
end
section
variable {st st':Store} {b p k o:Nat} {v:AV} {i:TI} {A:Fr}
theorem Fresh.ne_obj{x:AObj}(h:Fresh st b)(a:st.obj p=Δ x):b≠p:=λe=>by rw[<-e,h.1]at a;cases a
theorem zd(st:Store)(p:Nat)(x:AObj):(st.sO p x).obj p=Δ x:=by simp[Store.sO]
theorem zi{x:AObj}(h:b≠p):(st.sO p x).obj b=st.obj b:=by simp[Store.sO,qp h]
theorem Ka(st:Store)(p:Nat)(x:Option Nat):(st.sT p x).tok p=x:=by simp[Store.sT]
theorem gq{x:Option Nat}(h:b≠p):(st.sT p x).tok b=st.tok b:=by simp[Store.sT,qp h]
theorem ym(st:Store)(p:Nat)(x y:AObj):(st.sO p x).sO p y=st.sO p y:=by unfold Store.sO;grind
def zfa{x:AObj}(h:Fresh st b)(a:b≠p):Fresh (st.sO p x) b:=⟨by rw[zi a];exact h.1,h.2⟩
theorem zai(st:Store)(p b:Nat)(x:AObj)(y:Option Nat):(st.sT b y).sO p x=(st.sO p x).sT b y:=rfl
theorem App.sO{rows:List (List AV)}{x y:AObj}(h:App k (st.sO p x) v rows st'):App k (st.sO p y) v rows (st'.sO p y):=by
  rcases h with⟨d,c,rfl⟩|⟨d,c,rfl⟩|⟨d,b,f,c,rfl⟩
  . rw[ym];exact .inl ⟨d,c,rfl⟩
  . rw[ym];exact .inr (.inl ⟨d,c,rfl⟩)
  . have a:b≠p:=λe=>by have:=f.1;rw[e,zd]at this;cases this
    refine .inr (.inr ⟨d,b,?_,c,?_⟩)
    . exact⟨by rw[zi a];have:=f.1;rwa [zi a]at this,f.2⟩
    . rw[zai,ym]
def App.boxed{rows:List (List AV)}{x:AObj}(h:App k st v rows st')(f:Fresh st' p):App k (st.sO p x) v rows (st'.sO p x):=by
  rcases h with⟨c,a,rfl⟩|⟨c,a,rfl⟩|⟨c,b,g,a,rfl⟩
  . exact .inl ⟨c,a,rfl⟩
  . exact .inr (.inl ⟨c,a,rfl⟩)
  . have d:b≠p:=λe=>by have:=f.2;grind[Ka]
    exact .inr (.inr ⟨c,b,zfa g d,a,rfl⟩)
def App.fresh{rows:List (List AV)}(h:App k st v rows st')(a:Fresh st' p):st.obj p=Θ:=by
  cases c:st.obj p with
  |none=>rfl
  |some x=>have:=h.has.obj p x c;rw[a.1]at this;cases this
def Cw{x:AObj}(h:st.obj p=Θ):(st.sO p x).Has st:=
  ⟨λb y a=>by grind[zi],λ_ _ h=>h⟩
def yoh{x:Option Nat}(h:st.Has st'):(st.sT b x).Has (st'.sT b x):=
  ⟨h.obj,λi y a=>by
    by_cases e:i=b
    . grind[Ka]
    . rw[gq e]at a⊢;exact h.tok _ _ a⟩
def App.dropObj{rows:List (List AV)}{x:AObj}(h:App k (st.sO p x) v rows st')(f:st.obj p=Θ):∃a,App k st v rows a/\st'.Has a:=by
  rcases h with⟨d,c,rfl⟩|⟨d,c,rfl⟩|⟨d,b,j,c,rfl⟩
  . exact⟨st,.inl ⟨d,c,rfl⟩,Cw f⟩
  . exact⟨st,.inr (.inl ⟨d,c,rfl⟩),Cw f⟩
  . have g:b≠p:=λe=>by have:=j.1;rw[e,zd]at this;cases this
    refine⟨_,.inr (.inr ⟨d,b,⟨?_,j.2⟩,c,rfl⟩),yoh (Cw f)⟩;have:=j.1
    rwa [zi g]at this
theorem App.obj{rows:List (List AV)}(h:App k st v rows st')(p:Nat):st'.obj p=st.obj p:=by rcases h with⟨_,_,rfl⟩|⟨_,_,rfl⟩|⟨_,_,_,_,rfl⟩<;>rfl
def App.read{rows:List (List AV)}{x:AObj}(h:App k (st.sO p x) v rows st'):st'.obj p=Δ x:=by rw[h.obj,zd]
def nr{x:AObj}(h:st.Has st'):(st.sO p x).Has (st'.sO p x):=
  ⟨λi y a=>by
    by_cases e:i=p
    . grind[zd]
    . rw[zi e]at a⊢;exact h.obj _ _ a,h.tok⟩
def App.split{rows:List (List AV)}{x:AObj}(h:App k (st.sO p x) v rows st'):∃a:Store,st'=a.sO p x/\a.Has st/\∀y,App k (st.sO p y) v rows (a.sO p y):=by
  rcases h with⟨f,d,rfl⟩|⟨f,d,rfl⟩|⟨f,b,j,d,rfl⟩
  . exact⟨st,rfl,Store.Has.refl _,λy=>.inl ⟨f,d,rfl⟩⟩
  . exact⟨st,rfl,Store.Has.refl _,λy=>.inr (.inl ⟨f,d,rfl⟩)⟩
  . have c:b≠p:=λe=>by have:=j.1;rw[e,zd]at this;cases this
    have l:Fresh st b:=⟨by have:=j.1;rwa [zi c]at this,j.2⟩
    refine⟨st.sT b (Δ (Γ rows*k)),(zai _ _ _ _ _).symm,⟨λ_ _ h=>h,λi y g=>?_⟩,λy=>.inr (.inr ⟨f,b,zfa l c,d,rfl⟩)⟩;have:i≠b:=λe=>by rw[e,l.2]at g;cases g
    rw[gq this];exact g
def zeu{x:Option Nat}(h:st.tok b=Θ):(st.sT b x).Has st:=
  ⟨λ_ _ h=>h,λi y a=>by grind[gq]⟩
theorem ACalls.drop{P:Program}{f:FuncId}{xs:List AV}{R:Ja}(h:st.Has st')(e:ACalls P f xs st' R):ACalls P f xs st R:=by refine⟨λa M w c sto d=>?_⟩;have g:=e.out a M w c (sto.weaken h) d;trivial
theorem App.cells{rows:List (List AV)}(h:App k st v rows st'):cellsOf v=Δ [v]:=by rcases h with⟨rfl,rfl,_⟩|⟨rfl,rfl,_⟩|⟨_,b,_,rfl,_⟩<;>rfl
theorem App.one{rows:List (List AV)}(h:App k st v rows st'):v.one=true:=by rcases h with⟨rfl,rfl,_⟩|⟨rfl,rfl,_⟩|⟨_,b,_,rfl,_⟩<;>rfl
def xh{l:List AV}{K:Fr->Store->Prop}(f:cellsOf v=Δ [v])(g:v.one=true)(e:i.size=1)(a:st.obj b=Δ (.cells l))(c:o+1<=Γ l)
    (d:K A (st.sO b (.cells (zu l o [v])))):Dz i A st (.av (.s (.pointer (Δ ⟨b,o,Θ⟩)))) v K:=by
  unfold Dz;rw[f];show(bif Nat.beq 1 i.size&&([v].all AV.one)then _ else False);rw[e];simp only[List.all_cons,g,List.all_nil,Fbu,Fdr,cond_true];rw[a];exact⟨c,Cz d⟩
def zzx{l:List AV}{K:Fr->Store->Prop}(f:cellsOf v=Δ [v])(g:v.one=true)(e:i.size=1)(a:A.bx b=Δ l)(c:o+1<=Γ l)
    (d:K (A.setBx b (zu l o [v])) st):Dz i A st (.bx b o) v K:=by
  unfold Dz;rw[f];show(bif Nat.beq 1 i.size&&([v].all AV.one)then _ else False);rw[e];simp only[List.all_cons,g,List.all_nil,Fbu,Fdr,cond_true];rw[a];have:Nat.ble (o+[v].length) (Γ l)=true:=Fca c;show(bif Nat.ble (o+[v].length) (Γ l) then _ else False);rw[this];exact Cz d
def zzw{xs l:List AV}{K:Fr->Store->Prop}(f:cellsOf v=Δ xs)(g:xs.all AV.one=true)(e:i.size=Γ xs)(a:A.bx b=Δ l)(c:o+Γ xs<=Γ l)
    (d:K (A.setBx b (zu l o xs)) st):Dz i A st (.bx b o) v K:=by
  unfold Dz;rw[f];show(bif Nat.beq (Γ xs) i.size&&(xs.all AV.one)then _ else False);rw[e];simp only[g,Fbu,Fdr,cond_true];rw[a];have:Nat.ble (o+Γ xs) (Γ l)=true:=Fca c;show(bif Nat.ble (o+Γ xs) (Γ l) then _ else False);rw[this];exact Cz d
def yu{st2:Store}{l:List AV}{K:Fr->Store->Prop}(g:cellsOf v=Δ [v])(h:v.one=true)(e:i.size=1)(a:st.obj b=Δ (.cells l))(c:o+1<=Γ l)
    (f:st.sO b (.cells (zu l o [v]))=st2) (d:K A st2):Dz i A st (.av (.s (.pointer (Δ ⟨b,o,Θ⟩)))) v K:=
  xh g h e a c (f▸d)
theorem Fj{q:Nat}{x y:AObj}(h:q≠p):(st.sO p x).sO q y=(st.sO q y).sO p x:=by
  unfold Store.sO
  congr
  funext i
  by_cases a:i=p
  . subst a;simp[qp (Ne.symm h)]
  . simp[qp a]
end
def u8(b:UInt8):AV:=.s (.int .u8 b.toNat)
def int(n:Int):AV:=.s (.int .i64 n)
def u64(n:Int):AV:=.s (.int .u64 n)
def bool(b:Bool):AV:=.s (.bool b)
def nil:AV:=.s (.slice Θ 0 0)
def rws{α:Type}(f:α->List AV)(l:List α):List (List AV):=l.map f
def lst{α:Type}(k:Nat)(f:α->List AV)(l:List α):AV:=.lst k (rws f l) Θ
section
variable {α:Type} {f:α->List AV}
theorem zj(l:List α):(rws f l).length=Γ l:=by simp[rws]
theorem zm{l:List α}{i:Nat}(h:i<Γ l):(rws f l)[i]?=Δ (f l[i]):=by simp[rws,h]
theorem Vw{l:List α}{i:Nat}(h:i<Γ l):rws f (l.take i)++[f l[i]]=rws f (l.take (i+1)):=by grind[rws,List.take_succ_eq_append_getElem]
theorem Ni(a b:List α):rws f a++rws f b=rws f (a++b):=by simp[rws]
theorem g9(l:List α)(n:Nat):(rws f l).take n=rws f (l.take n):=by simp[rws,List.map_take]
theorem zaz(l:List α)(n:Nat):(rws f l).drop n=rws f (l.drop n):=by simp[rws,List.map_drop]
def ql{l:List α}{i:Nat}(h:decide ((i:Int)<((rws f l).length:Int))=true):i<Γ l:=by rw[zj]at h;grind
def qr{l:List α}{i:Nat}(h:decide ((i:Int)<((rws f l).length:Int))=false)(a:i<=Γ l):i=Γ l:=by rw[zj]at h;grind
def zdc{l m:List α}(h:(((rws f l).length:Int) != ((rws f m).length:Int))=true):Γ l≠Γ m:=by grind[zj]
def cj{l m:List α}(h:(((rws f l).length:Int) != ((rws f m).length:Int))=false):Γ l=Γ m:=by grind[zj]
end
def u8C(b:UInt8):List AV:=[u8 b]
def zx(n:Int):List AV:=[int n]
abbrev rowsB(l:List UInt8):List (List AV):=rws u8C l
def yn(l:List UInt8):AV:=lst 1 u8C l
def yq(l:List Int):AV:=lst 1 zx l
def isF{R:Ja}{b:Bool}{a:Store}(h:R (bool b) a)(c:b=false):R (bool false) a:=δ
def isT{R:Ja}{b:Bool}{a:Store}(h:R (bool b) a)(c:b=true):R (bool true) a:=δ
structure Gnd where
 W:Int
 H:Int
 T:List UInt8
 deriving DecidableEq
structure Cmd where
 P:Int
 S:Int
 K:Int
 N:Int
 U:List Int
 T:Int
 W:Int
 H:Int
 X:Int
 Y:Int
 deriving DecidableEq
structure Frm where
 turn:Int
 C:List Cmd
 hash:Int
 deriving DecidableEq
structure Rep where
 P:Int
 G:Gnd
 F:List Frm
 deriving DecidableEq
def zq(g:Gnd):List AV:=[int g.W,int g.H,yn g.T]
def yg(c:Cmd):List AV:=[int c.P,int c.S,int c.K,int c.N,yq c.U,int c.T,int c.W,int c.H,int c.X,int c.Y]
def xc(f:Frm):List AV:=[int f.turn,lst 10 yg f.C,u64 f.hash]
def xy(r:Rep):List AV:=[int r.P,int r.G.W,int r.G.H,yn r.G.T,lst 3 xc r.F]
def Cmd.fits(c:Cmd):Prop:=Γ c.U<=1000000000000
def Frm.fits(f:Frm):Prop:=Γ f.C<=1000000000000/\∀c∈f.C,c.fits
def Gnd.fits(g:Gnd):Prop:=Γ g.T<=1000000000000
def Rep.fits(r:Rep):Prop:=r.G.fits/\Γ r.F<=1000000000000/\∀f∈r.F,f.fits
def zt(g:Gnd):Prop:=(1<=g.W/\g.W<=128)/\(1<=g.H/\g.H<=128)/\(Γ g.T:Int)=g.W*g.H/\∀t∈g.T,t.toNat<=5
def Cr(l:List Int):Prop:=(1<=Γ l/\Γ l<=64)/\∀j,j<Γ l->(1<=l.getD j 0/\l.getD j 0<=1099511627776)/\(0<j->l.getD (j-1) 0<l.getD j 0)
def vh(t:Int):Prop:=0<=t/\t<=16383
def idP(t:Int):Prop:=1<=t/\t<=1099511627776
def qv(x y:Int):Prop:=(-1099511627776<=x/\x<=1099511627776)/\(-1099511627776<=y/\y<=1099511627776)
def Cmd.only(c:Cmd):Cmd:=
 if c.K=1 then⟨c.P,c.S,c.K,c.N,[],0,0,0,c.X,c.Y⟩else
 if c.K=2 then⟨c.P,c.S,c.K,0,c.U,c.T,0,0,0,0⟩else
 if c.K=3 then⟨c.P,c.S,c.K,0,c.U,0,0,0,0,0⟩else
 if c.K=4 then⟨c.P,c.S,c.K,0,[],c.T,c.W,c.H,0,0⟩else
 if c.K=5 then⟨c.P,c.S,c.K,c.N,[],0,0,0,0,0⟩else
 if c.K=6 then⟨c.P,c.S,c.K,c.N,c.U,0,0,0,0,0⟩else
 if c.K=7 then⟨c.P,c.S,c.K,c.N,[],c.T,0,0,0,0⟩else
 ⟨c.P,c.S,c.K,0,[],0,0,0,0,0⟩
def Cmd.okP(c:Cmd):Prop:=
 (c.K=1/\(0<=c.N/\c.N<=3)/\qv c.X c.Y)\/(c.K=2/\Cr c.U/\vh c.T)\/(c.K=3/\Cr c.U)∨
 (c.K=4/\vh c.T/\(1<=c.W/\c.W<=4)/\(1<=c.H/\c.H<=4))\/(c.K=5/\idP c.N)\/(c.K=6/\Cr c.U/\idP c.N)\/(c.K=7/\idP c.N/\vh c.T)
def jh(c:Cmd):Prop:=c.okP/\(1<=c.P/\c.P<=8)/\(0<=c.S/\c.S<=1099511627776)/\c.only=c
def Cmd.ok1{c:Cmd}(h:c.K=1):c.okP↔(0<=c.N/\c.N<=3)/\qv c.X c.Y:=θq
theorem Cmd.only1{c:Cmd}(h:c.K=1):c.only=⟨c.P,c.S,c.K,c.N,[],0,0,0,c.X,c.Y⟩:=θr
def Cmd.ok2{c:Cmd}(h:c.K=2):c.okP↔Cr c.U/\vh c.T:=θq
theorem Cmd.only2{c:Cmd}(h:c.K=2):c.only=⟨c.P,c.S,c.K,0,c.U,c.T,0,0,0,0⟩:=θr
def Cmd.ok3{c:Cmd}(h:c.K=3):c.okP↔Cr c.U:=θq
theorem Cmd.only3{c:Cmd}(h:c.K=3):c.only=⟨c.P,c.S,c.K,0,c.U,0,0,0,0,0⟩:=θr
def Cmd.ok4{c:Cmd}(h:c.K=4):c.okP↔vh c.T/\(1<=c.W/\c.W<=4)/\(1<=c.H/\c.H<=4):=θq
theorem Cmd.only4{c:Cmd}(h:c.K=4):c.only=⟨c.P,c.S,c.K,0,[],c.T,c.W,c.H,0,0⟩:=θr
def Cmd.ok5{c:Cmd}(h:c.K=5):c.okP↔idP c.N:=θq
theorem Cmd.only5{c:Cmd}(h:c.K=5):c.only=⟨c.P,c.S,c.K,c.N,[],0,0,0,0,0⟩:=θr
def Cmd.ok6{c:Cmd}(h:c.K=6):c.okP↔Cr c.U/\idP c.N:=θq
theorem Cmd.only6{c:Cmd}(h:c.K=6):c.only=⟨c.P,c.S,c.K,c.N,c.U,0,0,0,0,0⟩:=θr
def Cmd.ok7{c:Cmd}(h:c.K=7):c.okP↔idP c.N/\vh c.T:=θq
theorem Cmd.only7{c:Cmd}(h:c.K=7):c.only=⟨c.P,c.S,c.K,c.N,[],c.T,0,0,0,0⟩:=θr
def Cmd.ok0{c:Cmd}(i:c.K≠1)(h:c.K≠2)(g:c.K≠3)(e:c.K≠4)(d:c.K≠5)(b:c.K≠6)(a:c.K≠7):¬c.okP:=by grind[Cmd.okP]
theorem Cmd.only0{c:Cmd}(i:c.K≠1)(h:c.K≠2)(g:c.K≠3)(e:c.K≠4)(d:c.K≠5)(b:c.K≠6)(a:c.K≠7):c.only=⟨c.P,c.S,c.K,0,[],0,0,0,0,0⟩:=by grind[Cmd.only]
def leL:List AV->List AV->Prop
 |[],[]=>True
 |x::xs,y::a=>AV.le x y/\leL xs a
 |_,_=>False
def mw:∀{xs ys:List AV},leL xs ys->Γ xs=Γ ys/\∀(i:Nat) (x y:AV),xs[i]?=Δ x->ys[i]?=Δ y->AV.le x y:=by
 intro xs;induction xs with
 |nil=>
  intro ys h;cases ys with
  |nil=>simp
  |cons y ys=>exact h.elim
 |cons x xs ih=>
  intro ys h;cases ys with
  |nil=>exact h.elim
  |cons y ys=>
   obtain⟨h1,h2⟩:=ih h.2;refine⟨by simp[h1],λi u v hu hv=>?_⟩;cases i with
   |zero=>simp at hu hv;subst hu hv;exact h.1
   |succ i=>grind
def AV.le_aggL{xs ys:List AV}(h:leL xs ys):AV.le (.agg xs) (.agg ys):=AV.le_agg (mw h).1 (mw h).2
theorem zbx{w:World}{T:BB}{xs ys:List AV}{a:List Value}(h:leL xs ys)(b:Reads w T xs a):Reads w T ys a:=by obtain⟨h1,h2⟩:=mw h;refine⟨by rw[<-h1];exact b.1,λi y v d hv=>?_⟩;have c:i<Γ xs:=δ;exact h2 i xs[i] y (Fac c) d w T v (b.2 i _ v (Fac c) hv)
def AV.le_tupL{xs ys:List AV}(h:leL xs ys):AV.le (.tup xs) (.tup ys):=by intro w T v a;grind[sc,Ah,zbx]
def ACalls.le{P:Program}{f:FuncId}{xs ys:List AV}{b:Store}{R:Ja}(h:leL xs ys)(e:ACalls P f ys b R):ACalls P f xs b R:=
 ⟨λa M w c sto d=>e.out a M w c sto (zbx h d)⟩
def ACalls.lessen{P:Program}{f:FuncId}{xs:List AV}{i:Store}{R:Ja}(u:ACalls P f xs i λx b=>∃r a,AV.le x r/\b.Has a/\R r a):ACalls P f xs i R:=by
 refine⟨λc M w j sto p=>?_⟩;have h:=u.out c M w j sto p;have k:∀v d,xg i (λx b=>∃r a,AV.le x r/\b.Has a/\R r a) c M w v d->xg i R c M w v d:=by rintro v d ⟨x,b,E,⟨r,a,D,C,B⟩,A,z,y⟩;exact⟨r,a,E,B,D _ _ _ A,z.weaken C,y⟩
 generalize(callFunc f j).run P w=res at h;cases res with
 |ok n d=>
  cases n with
  |enter g args=>exact Calls.mono h λe l ⟨v,t,o⟩=>⟨v,t,k _ _ o⟩
  |value v=>exact k _ _ h
  |_=>exact h
 |_=>exact h
def Cmd.eq_of{a b:Cmd}(o:a.P=b.P)(n:a.S=b.S)(l:a.K=b.K)(k:a.N=b.N)(j:a.U=b.U)(i:a.T=b.T)(h:a.W=b.W)(g:a.H=b.H)(e:a.X=b.X)(d:a.Y=b.Y):a=b:=by cases a;simp_all
def F5(a b:Cmd):Prop:=a.P<b.P\/(b.P=a.P/\a.S<b.S)
def Mf(a:Int)(l:List Cmd):Prop:=Γ l<=512/\∀j,(h:j<Γ l)->(jh l[j]/\l[j].P<=a)/\(0<j->F5 (l[j-1]'Z) l[j])
def Dh(r:Rep):Prop:=(1<=r.P/\r.P<=8)/\zt r.G/\Γ r.F<=4096/\∀j,(h:j<Γ r.F)->r.F[j].turn=j/\Mf r.P r.F[j].C
def Nb{a b:Int}(d:1<=a/\a<=128)(c:1<=b/\b<=128):1<=a*b/\a*b<=16384:=by have g:a*b<=128*128:=Fa9 d.2 c.2 Z Z;have e:0<a*b:=Int.mul_pos Z Z;omega
def vf(a b:Int):Int:=if a<b then -1 else if a>b then 1 else 0
def orZ(l:List Int):Int:=(l.find? (·≠0)).getD 0
def Br(n:Int):UInt8:=UInt8.ofNat (n%256).toNat
theorem Rq(n:Int):IntKind.u8.wrap n=(Br n).toNat:=by grind[Br,UInt8.toNat_ofNat',IntKind.wrap,IntKind.bits,IntKind.signed]
def zhs(c:BinOp)(a b:UInt8):xf c .u8 a.toNat b.toNat=((match c with|.and=>a &&& b|.or=>a ||| b|.xor=>a^^^b|_=>a &&& ~~~b:UInt8).toNat:Int):=by
 have h:∀a:UInt8,BitVec.ofInt IntKind.u8.bits (a.toNat:Int)=a.toBitVec:=by intro a;apply BitVec.eq_of_toNat_eq;show(BitVec.ofInt 8 (a.toNat:Int)).toNat=a.toBitVec.toNat;simp
 have d:∀x:UInt8,IntKind.u8.wrap (x.toBitVec.toNat:Int)=(x.toNat:Int):=by intro x;have e:=x.toNat_lt;grind[IntKind.wrap,IntKind.bits,IntKind.signed]
 unfold xf;simp only[h];cases c<;>exact d _
def oe(s:Int)(b:UInt8):Int:=IntKind.u64.wrap (xf .xor .u64 s (IntKind.u64.wrap b.toNat)*1099511628211)
def vo(s:Int)(l:List UInt8):Int:=l.foldl oe s
def C0:Int:=14695981039346656037
theorem zfi{s:Int}{l:List UInt8}{i:Nat}(h:i<Γ l):vo s (l.take (i+1))=oe (vo s (l.take i)) l[i]:=by grind[vo,List.take_succ_eq_append_getElem]
def Bt(s:Int):List UInt8:=(List.range 8).map λi=>Br (s/256^i)
theorem R8(s:Int):(Bt s).length=8:=ξ
theorem zga(s:Int){i:Nat}(h:i<8):(Bt s).take i++[Br (s/256^i)]=(Bt s).take (i+1):=by grind[List.take_succ_eq_append_getElem,Bt]
theorem yau(s:Int)(i:Nat):(s/256^i).fdiv (2^(min (8:Int).toNat IntKind.u64.bits))=s/256^(i+1):=by have:(min (8:Int).toNat IntKind.u64.bits)=8:=ψ;grind[Int.ediv_ediv_of_nonneg]
def Lr(n:Nat):List UInt8:=if h:128<=n then(Br n ||| 128)::Lr (n/128)else [Br n]
termination_by n
decreasing_by omega
def yl(n:Int):List UInt8:=if 128<=n then Lr n.toNat else [Br n]
theorem zb9{n:Int}(h:128<=n):yl n=(Br n ||| 128)::yl (n/128):=by
 obtain⟨m,rfl⟩:=Fbk (a:=n) Z;unfold yl;rw[if_pos h,Faz];rw[Lr,dif_pos Z]
 congr 1
 split
 .congr 1
 .rw[Lr,dif_neg Z];rfl
theorem zb8{n:Int}(h:n<128):yl n=[Br n]:=by unfold yl;grind
def ykc:∀(k n:Nat),n<128^k->(Lr n).length<=max k 1:=by
 intro k;induction k with
 |zero=>simp_all[Lr]
 |succ k ih=>
  grind[Lr]
theorem wz{n:Int}(h:n<=9223372036854775807):(yl n).length<=9:=by
 unfold yl;split
 .exact ykc 9 n.toNat Z
 .simp
def jb(l:List Int):List UInt8:=l.flatMap yl
theorem zc6{l:List Int}{i:Nat}(h:i<Γ l):jb (l.take (i+1))=jb (l.take i)++yl l[i]:=by grind[jb,List.take_succ_eq_append_getElem]
def Hk:∀{l:List Int},(∀n∈l,n<=9223372036854775807)->(jb l).length<=9*Γ l:=by
 intro l;induction l with
 |nil=>trivial
 |cons n l ih=>
  grind[wz,jb]
def nj(l:List Int):List UInt8:=yl (Γ l)++jb l
def Ab(n:Int):List UInt8:=if n<0 then yl (-2*n-1)else yl (2*n)
def zzt(c:Cmd):List UInt8:=
 if c.K=1 then yl c.N++Ab c.X++Ab c.Y else
 if c.K=2 then nj c.U++yl c.T else
 if c.K=3 then nj c.U else
 if c.K=4 then yl c.T++yl c.W++yl c.H else
 if c.K=5 then yl c.N else
 if c.K=6 then nj c.U++yl c.N else
 if c.K=7 then yl c.N++yl c.T else []
def yta(c:Cmd):List UInt8:=yl c.K++yl c.P++yl c.S++zzt c
def I64(n:Int):Prop:=-9223372036854775808<=n/\n<=9223372036854775807
def I62(n:Int):Prop:=-4611686018427387904<n/\n<4611686018427387904
def I9(g:Gnd):List UInt8:=[84,71]++yl g.W++yl g.H++g.T
def jv(g:Gnd):List UInt8:=I9 g++Bt (vo C0 (I9 g))
def N9{n:Int}(h:I62 n):(Ab n).length<=9:=by grind[Ab,I62,wz]
def zff(f:Frm):List UInt8:=yl (Γ f.C)++f.C.flatMap yta++Bt f.hash
def ypx(b:List UInt8)(f:Frm):List UInt8:=(b++zff f)++Bt (vo C0 (b++zff f))
def yof(r:Rep):List UInt8:=[84,82]++yl r.P++(yl (jv r.G).length++jv r.G)
def Nm(r:Rep):List UInt8:=r.F.foldl ypx (yof r)
def Og{g:Gnd}(h:zt g):(I9 g).length<=16404/\(jv g).length<=16412:=by obtain⟨b,a,d,_⟩:=h;have c:=Nb b a;grind[wz,I9,jv,R8]
theorem yat(s:Int)(i:Nat)(h:i<8):s.fdiv (2^(min ((8:Int)*(i:Int)).toNat IntKind.u64.bits))=s/256^i:=by
 have:(min ((8:Int)*(i:Int)).toNat IntKind.u64.bits)=8*i:=by show min ((8:Int)*(i:Int)).toNat 64=8*i;omega
 grind[Int.pow_mul]
theorem yms(n:Int)(h:0<=n):Br (n.tmod 128) ||| 128=Br n ||| 128:=by
 rw[Fcn h];have e:∀m:Nat,m<256->(UInt8.ofNat (m%128)) ||| 128=(UInt8.ofNat m) ||| 128:=by decide+kernel
 grind[Br]
theorem zcs(m:Int):xf .or .u8 (IntKind.u8.wrap m) 128=((Br m ||| 128).toNat:Int):=by rw[Rq];exact zhs .or (Br m) 128
theorem zae(m:Int):m.fdiv (2^(min (7:Int).toNat IntKind.i64.bits))=m/128:=by have:(min (7:Int).toNat IntKind.i64.bits)=7:=ψ;grind
end Go.V
namespace Go.V
theorem ly(a q m:Nat)(h:a<2^m):a ||| q*2^m=a+q*2^m:=by grind[Nat.two_pow_add_eq_or_of_lt,Nat.mul_comm]
theorem pz(a b:Nat)(d:a<2^64)(c:b<2^64):xf .or .i64 a b=IntKind.i64.wrap ((a ||| b:Nat):Int)/\xf .or .u64 a b=IntKind.u64.wrap ((a ||| b:Nat):Int):=by
 have h:∀a:Nat,a<2^64->(BitVec.ofInt 64 (a:Int)).toNat=a:=φ;constructor
 .show IntKind.i64.wrap ((BitVec.ofInt 64 (a:Int) ||| BitVec.ofInt 64 (b:Int)).toNat:Int)=_;grind
 .show IntKind.u64.wrap ((BitVec.ofInt 64 (a:Int) ||| BitVec.ofInt 64 (b:Int)).toNat:Int)=_;grind
theorem kx{v:Int}(h:0<=v)(a:v<18446744073709551616):IntKind.u64.wrap v=v:=by grind[IntKind.wrap,IntKind.bits,IntKind.signed]
theorem yk1{n:Int}{q m:Nat}(d:0<=n)(g:n<2^m)(c:n+q*2^m<9223372036854775808):xf .or .i64 n (q*2^m)=n+q*2^m:=by obtain⟨a,rfl⟩:=Fbk d;have e:((q:Int)*2^m)=((q*2^m:Nat):Int):=φ;have b:a<2^m:=δ;rw[e]at c⊢;have f:a+q*2^m<9223372036854775808:=Z;rw[(pz a (q*2^m) Z Z).1,ly a q m b,O5 ⟨Z,Z⟩];simp
def ykz{n:Int}{q m:Nat}(d:0<=n)(g:n<2^m)(c:n+q*2^m<18446744073709551616):xf .or .u64 n (q*2^m)=n+q*2^m:=by obtain⟨a,rfl⟩:=Fbk d;have e:((q:Int)*2^m)=((q*2^m:Nat):Int):=φ;have b:a<2^m:=δ;rw[e]at c⊢;have f:a+q*2^m<18446744073709551616:=Z;rw[(pz a (q*2^m) Z Z).2,ly a q m b,kx Z Z];simp
def Ci:List UInt8->Nat->Int->Int×Nat×Int
 |[],_,_=>(0,0,11)
 |c::l,i,n=>
  if(128<=c.toNat/\i=8)\/(c.toNat=0/\0<i)then(0,0,1)
  else if c.toNat<128 then(n+(c.toNat%128:Nat)*128^i,i+1,0)
  else Ci l (i+1) (n+(c.toNat%128:Nat)*128^i)
def xl(b:List UInt8):Int×Nat×Int:=Ci b 0 0
theorem zcg(i:Nat):(128:Int)^i=2^(7*i):=by rw[Int.pow_mul];rfl
def Vo{n:Int}{x i:Nat}(c:0<=n)(h:n<128^i)(a:x<128):0<=n+x*128^i/\n+x*128^i<128^(i+1):=by have b:(0:Int)<128^i:=Fdw ψ;rw[Int.pow_succ];have:(x:Int)*128^i<=127*128^i:=Fd1 Z Z;grind
def Wi{i:Nat}(h:i<=9):(128:Int)^i<=9223372036854775808:=by have:i=0\/i=1\/i=2\/i=3\/i=4\/i=5\/i=6\/i=7\/i=8\/i=9:=Z;grind
def ypl:∀(b:List UInt8) (i:Nat) (n:Int),i<=8->0<=n->n<128^i->
  ((Ci b i n).2.2=0/\(Ci b i n).2.1<=i+Γ b/\1<=(Ci b i n).2.1/\(Ci b i n).2.1<=9/\0<=(Ci b i n).1/\(Ci b i n).1<9223372036854775808)∨
  ((Ci b i n).1=0/\(Ci b i n).2.1=0/\((Ci b i n).2.2=1\/(Ci b i n).2.2=11)):=by
 intro b;induction b with
 |nil=>intro i n _ _ _;right;simp[Ci]
 |cons c l e=>
  intro i n h d a;have f:=Vo (x:=c.toNat%128) d a (Nat.mod_lt _ Z);have g:=Wi (i:=i+1) Z;unfold Ci;grind
def nw(b:List UInt8):
  ((xl b).2.2=0/\(xl b).2.1<=Γ b/\1<=(xl b).2.1/\(xl b).2.1<=9/\0<=(xl b).1/\(xl b).1<9223372036854775808)∨
  ((xl b).1=0/\(xl b).2.1=0/\((xl b).2.2=1\/(xl b).2.2=11)):=by
 have:=ypl b 0 0 Z Z ψ;rw[Fbd]at this;exact this
theorem yaw{x i:Nat}(a:x<128)(c:i<=8):IntKind.i64.wrap ((x:Int)*2^(min ((7:Int)*(i:Int)).toNat IntKind.i64.bits))=x*2^(7*i):=by
 have:(min ((7:Int)*(i:Int)).toNat IntKind.i64.bits)=7*i:=by show min ((7:Int)*(i:Int)).toNat 64=7*i;omega
 rw[this];refine O5 ?_;have h:=Vo (n:=0) (x:=x) (i:=i) Z (Fdw ψ) a;have b:=Wi (i:=i+1) Z;rw[zcg]at h;unfold yr;omega
def or7{n:Int}{x i:Nat}(d:0<=n)(c:n<128^i)(a:x<128)(b:i<=8):xf .or .i64 n (IntKind.i64.wrap ((x:Int)*2^(min ((7:Int)*(i:Int)).toNat IntKind.i64.bits)))=n+x*128^i:=by rw[yaw a b];have e:=Vo d c a;have f:=Wi (i:=i+1) Z;grind[zcg,yk1]
theorem zid(c:UInt8):xf .and .u8 c.toNat 127=((c.toNat%128:Nat):Int):=by
 have h:=zhs .and c 127;have e:(c &&& 127).toNat=c.toNat%128:=by rw[UInt8.toNat_and];exact Nat.and_two_pow_sub_one_eq_mod c.toNat 7
 grind
def D7(b:List UInt8):List UInt8×Nat×Int:=
 if(xl b).2.2≠0 then([],0,(xl b).2.2)
 else if(xl b).1>1048576 then([],0,1)
 else if(xl b).1>(Γ b:Int)-(xl b).2.1 then([],0,11)
 else((b.drop (xl b).2.1).take (xl b).1.toNat,(xl b).2.1+(xl b).1.toNat,0)
structure Rd where
 b:List UInt8
 e:Int
 deriving DecidableEq
def Rd.fail(s:Rd)(e:Int):Rd:=if s.e=0 then⟨s.b,e⟩else s
def Rd.must(s:Rd)(ok:Bool):Rd:=if ok then s else s.fail 1
def Rd.take(s:Rd)(n:Int)(k:Nat)(e:Int):Int×Rd:=if(s.fail e).e≠0 then(0,s.fail e)else(n,⟨s.b.drop k,0⟩)
def inB(n a b:Int):Bool:=decide (a<=n/\n<=b)
def Rd.got(s:Rd)(g:Int×Nat×Int)(a b:Int):Int×Rd:=
 if s.e≠0 then(0,s)else((s.take g.1 g.2.1 g.2.2).1,(s.take g.1 g.2.1 g.2.2).2.must (inB (s.take g.1 g.2.1 g.2.2).1 a b))
def Rd.num(s:Rd)(a c:Int):Int×Rd:=s.got (xl s.b) a c
def Rd.byte(s:Rd):UInt8×Rd:=
 if s.e≠0 then(0,s)else match s.b with|[]=>(0,⟨[],11⟩)|c::l=>(c,⟨l,0⟩)
def Rd.same(s:Rd)(l:List UInt8):Rd:=l.foldl (λs c=>s.byte.2.must (s.byte.1==c)) s
def Rd.raw(s:Rd):List UInt8×Rd:=if s.e≠0 then([],s)else((D7 s.b).1,(s.take 0 (D7 s.b).2.1 (D7 s.b).2.2).2)
def Rd.fin(s:Rd):Rd:=s.must (Γ s.b==0)
end Go.V
namespace Go.V
def yly{s:Rd}{ok:Bool}(h:(s.must ok).e=0):s.e=0/\ok=true/\s.must ok=s:=by unfold Rd.must Rd.fail at*;grind
def ze3{s:Rd}{g:Int×Nat×Int}{a c:Int}(h:(s.got g a c).2.e=0):s.e=0/\g.2.2=0/\(s.got g a c).1=g.1/\(s.got g a c).2=⟨s.b.drop g.2.1,0⟩/\a<=g.1/\g.1<=c:=by
 unfold Rd.got at*;by_cases j:s.e=0
 .rw[if_neg Z]at h⊢;simp only at h⊢;obtain⟨d,i,f⟩:=yly h;unfold Rd.take at*;split at d
  .grind
  simp_all[Rd.fail,inB]
 grind
theorem mc(s:Rd)(ok:Bool):(s.must ok).b=s.b:=by grind[Rd.must,Rd.fail]
theorem zzs(s:Rd)(n:Int)(k:Nat)(e:Int):(s.take n k e).2.b.length<=Γ s.b:=by grind[Rd.take,Rd.fail]
def yow(s:Rd)(g:Int×Nat×Int)(a c:Int):(s.got g a c).2.b.length<=Γ s.b:=by
 unfold Rd.got;split
 .simp
 grind[mc,zzs]
theorem zhi(s:Rd):Γ s.byte.2.b<=Γ s.b:=by obtain⟨b,e⟩:=s;unfold Rd.byte;grind
def g8(s:Rd)(l:List UInt8):(s.same l).b.length<=Γ s.b:=by
 induction l generalizing s with
 |nil=>exact Fai _
 |cons c l a=>
  have h:=a (s.byte.2.must (s.byte.1==c));rw[mc]at h;exact Fb7 h (zhi s)
def ls(s:Rd)(a c:Int):(s.num a c).2.b.length<=Γ s.b:=yow _ _ _ _
end Go.V
namespace Go.V
def ypj{b:List UInt8}(h:(D7 b).2.2=0):(D7 b).2.1<=Γ b:=by
 have a:=nw b;by_cases e:(xl b).2.2≠0
 .simp_all[D7]
 .by_cases d:(xl b).1>1048576
  .simp_all[D7]
  .by_cases c:(xl b).1>(Γ b:Int)-(xl b).2.1
   .simp_all[D7]
   .unfold D7;grind
end Go.V
namespace Go.V
end Go.V
namespace Go.V
def Rd.tilesGo:Nat->Rd->List UInt8->List UInt8×Rd
 |0,s,l=>(l,s)
 |n+1,s,l=>if s.e≠0 then(l,s)else tilesGo n (s.byte.2.must (decide (s.byte.1.toNat<=5))) (l++[s.byte.1])
theorem tq{n:Nat}{s:Rd}{l:List UInt8}(h:s.e=0):Rd.tilesGo (n+1) s l=Rd.tilesGo n (s.byte.2.must (decide (s.byte.1.toNat<=5))) (l++[s.byte.1]):=by simp_all[Rd.tilesGo]
theorem Vh{n:Nat}{s:Rd}{l:List UInt8}(h:s.e≠0):Rd.tilesGo n s l=(l,s):=by
 cases n with
 |zero=>rfl
 |succ n=>rw[Rd.tilesGo,if_pos h]
def zkx:∀(n:Nat) (s:Rd) (l:List UInt8),(Rd.tilesGo n s l).2.b.length<=Γ s.b:=by
 intro n;induction n with
 |zero=>intro s l;exact Fai _
 |succ n ih=>
  intro s l;by_cases h:s.e=0
  .grind[tq,mc,zhi]
  simp_all[Vh]
def Dl(b:List UInt8):Int×Rd:=(Rd.same ⟨b,0⟩ [84,71]).num 1 128
def Dk(b:List UInt8):Int×Rd:=(Dl b).2.num 1 128
def L7(b:List UInt8):List UInt8×Rd:=Rd.tilesGo ((Dl b).1*(Dk b).1).toNat (Dk b).2 []
def Ww(b:List UInt8):Rd:=((L7 b).2.same (Bt (vo C0 (b.take (Γ b-(L7 b).2.b.length))))).fin
def Wx(b:List UInt8):Gnd×Int:=if(Ww b).e≠0 then(⟨0,0,[]⟩,(Ww b).e)else(⟨(Dl b).1,(Dk b).1,(L7 b).1⟩,0)
def zdy{b:List UInt8}(h:(Dk b).2.e=0):1<=(Dl b).1*(Dk b).1/\(Dl b).1*(Dk b).1<=16384:=by have a:=ze3 h;have c:=ze3 a.1;have e:(Dk b).1=(xl (Dl b).2.b).1:=a.2.2.1;have d:(Dl b).1=(xl (Rd.same ⟨b,0⟩ [84,71]).b).1:=c.2.2.1;exact Nb Z Z
def ymo(b:List UInt8):(L7 b).2.b.length<=Γ b:=by have e:=zkx ((Dl b).1*(Dk b).1).toNat (Dk b).2 [];have d:=ls (Dl b).2 1 128;have c:=ls (Rd.same ⟨b,0⟩ [84,71]) 1 128;have a:=g8 ⟨b,0⟩ [84,71];exact Fb7 e (Fb7 d (Fb7 c a))
end Go.V
namespace Go.V
instance(a b:Cmd):Decidable (F5 a b):=by unfold F5;infer_instance
end Go.V
namespace Go.V
structure Ask29 where
 R:Rep
 X:List UInt8
def K3(a:Ask29):List AV:=xy a.R++[yn a.X]
def Cmd.sized(c:Cmd):Prop:=Γ c.U<=140737488355328
def Frm.sized(f:Frm):Prop:=Γ f.C<=140737488355328/\∀c∈f.C,c.sized
def Rep.sized(r:Rep):Prop:=Γ r.G.T<=140737488355328/\Γ r.F<=140737488355328/\∀f∈r.F,f.sized
def Ask29.sized(a:Ask29):Prop:=a.R.sized/\Γ a.X<=140737488355328
def F8(l:List Frm):Nat:=(l.map λf=>1+Γ f.C).sum
def Rep.light(r:Rep):Prop:=F8 r.F<=400/\(∀f∈r.F,∀c∈f.C,Γ c.U<=400)/\Γ r.G.T<=700
def zjc(l:List Frm):Γ l<=F8 l/\∀f∈l,Γ f.C<=F8 l:=by
 induction l with
 |nil=>simp
 |cons f l a=>
  have e:F8 (f::l)=1+Γ f.C+F8 l:=by simp[F8]
  grind
theorem zjb{l:List Frm}{i:Nat}(h:i<Γ l):F8 (l.take (i+1))=F8 (l.take i)+(1+l[i].C.length):=by grind[F8,List.take_succ_eq_append_getElem]
def ym0{r:Rep}(h:r.light):r.fits:=by
 obtain⟨i,g,e⟩:=h;have d:=zjc r.F;refine⟨by unfold Gnd.fits;omega,Z,λf a=>⟨?_,λc b=>?_⟩⟩
 .grind
 grind[Cmd.fits]
end Go.V
namespace Go.V
def rep1:Rep:=⟨1,⟨1,1,[0]⟩,[]⟩
def rep1_ok:Dh rep1:=by refine⟨ψ,⟨ψ,ψ,ψ,ψ⟩,ψ,λj h=>by trivial⟩
def rep1_fits:rep1.fits:=⟨by unfold Gnd.fits;decide,ψ,λf a=>by trivial⟩
end Go.V
namespace Go.V
section
variable {j n i k:Nat}
def qlt(a b:Int×Int):Prop:=a.1<b.1\/a.1=b.1/\a.2<b.2
instance(a b:Int×Int):Decidable (qlt a b):=by unfold qlt;exact inferInstance
def i9(a:Int×Int):¬qlt a a:=by unfold qlt;omega
theorem V8{a b c:Int×Int}(h:¬qlt b a)(k:¬qlt c b):¬qlt c a:=by unfold qlt at*;omega
theorem V9{a b:Int×Int}(h:qlt a b):¬qlt b a:=by unfold qlt at*;omega
def zb5{a b:Int×Int}(h:¬qlt b a):a.1<=b.1:=by unfold qlt at*;omega
def par(j:Nat):Nat:=(j-1)/2
def I4(f:Nat->Int×Int)(i k:Nat):Nat->Int×Int:=λj=>if j=k then f i else if j=i then f k else f j
def Mp(f:Nat->Int×Int)(n:Nat):Prop:=∀j,0<j->j<n->¬qlt (f j) (f (par j))
def UpF(f:Nat->Int×Int)(n i:Nat):Prop:=(∀j,0<j->j<n->j≠i->¬qlt (f j) (f (par j)))/\∀j,0<j->j<n->par j=i->0<i->¬qlt (f j) (f (par i))
def Iz(f:Nat->Int×Int)(n i:Nat):Prop:=(∀j,0<j->j<n->par j≠i->¬qlt (f j) (f (par j)))/\∀j,0<j->j<n->par j=i->0<i->¬qlt (f j) (f (par i))
theorem D3(h:0<j):par j<j:=by unfold par;omega
def zjz{f:Nat->Int×Int}(h:UpF f n i)(c:i=0\/¬qlt (f i) (f (par i))):Mp f n:=by
 intro j b a;by_cases e:j=i
 .grind
 .exact h.1 j b a e
def zjy{f:Nat->Int×Int}(h:Mp f n):UpF f (n+1) n:=
 ⟨λj a b d=>h j a Z,λj a b c e=>by have:=D3 a;omega⟩
def zjx{f:Nat->Int×Int}(h:UpF f n i)(o:0<i)(y:i<n)(w:qlt (f i) (f (par i))):UpF (I4 f i (par i)) n (par i):=by
 have v:=D3 o;refine⟨λj b a l=>?_,λj b a l g=>?_⟩
 .unfold I4;rw[if_neg l];by_cases e:j=i
  .simp_all[V9]
  .rw[if_neg e];by_cases p:par j=par i
   .rw[if_pos p];have u:=h.1 j b a e;grind[V8,V9]
   .rw[if_neg p];by_cases d:par j=i
    .rw[if_pos d];exact h.2 j b a d o
    .rw[if_neg d];exact h.1 j b a e
 .have t:=D3 g;unfold I4;rw[if_neg (show¬par (par i)=par i by omega),if_neg (show¬par (par i)=i by omega)];have u:=h.1 (par i) g Z Z;by_cases e:j=i
  .grind
  .have c:j≠par i:=by grind
   rw[if_neg c,if_neg e];have z:=h.1 j b a e;grind[V8]
def zgh{f:Nat->Int×Int}(h:Iz f n i)(c:∀j,0<j->j<n->par j=i->¬qlt (f j) (f i)):Mp f n:=by
 intro j b a;by_cases e:par j=i
 .grind
 .exact h.1 j b a e
def yro{f:Nat->Int×Int}(h:Iz f n i)(c:0<k)(u:k<n)(a:par k=i)(o:∀j,0<j->j<n->par j=i->¬qlt (f j) (f k))(y:qlt (f k) (f i)):Iz (I4 f i k) n k:=by
 have w:i<k:=a▸D3 c;refine⟨λj b g d=>?_,λj b g d _=>?_⟩
 .unfold I4;rw[if_neg d];by_cases e:j=k
  .simp_all[V9]
  .rw[if_neg e];by_cases t:j=i
   .subst t;have l:par j≠j:=by have:=D3 b;omega
    rw[if_pos rfl,if_neg l];exact h.2 k c u a b
   .rw[if_neg t];by_cases p:par j=i
    .grind
    .rw[if_neg p];exact h.1 j b g p
 .have v:k<j:=d▸D3 b;unfold I4;rw[if_neg (show¬j=k by omega),if_neg (show¬j=i by omega),a,if_neg (show¬i=k by omega),if_pos rfl];have z:=h.1 j b g Z;grind
def yod{f:Nat->Int×Int}(h:Mp f n):∀j,j<n->¬qlt (f j) (f 0):=by
 intro j;induction j using Nat.strongRecOn with
 |_ j a=>
  intro c;by_cases e:j=0
  .subst e;exact i9 _
  .have b:=D3 (Nat.pos_of_ne_zero e);exact V8 (a _ b Z) (h j Z c)
def Rf(h:0<j):par j=i↔j=2*i+1\/j=2*i+2:=by unfold par;omega
def qat(l:List (Int×Int))(j:Nat):Int×Int:=l.getD j (0,0)
def Au(l:List (Int×Int)):Prop:=Mp (qat l) (Γ l)
def Al(l:List (Int×Int))(i k:Nat):List (Int×Int):=(l.set i (qat l k)).set k (qat l i)
theorem M5(l:List (Int×Int))(i k:Nat):(Al l i k).length=Γ l:=by simp[Al]
theorem Wa{l:List (Int×Int)}(h:j<Γ l):qat l j=l[j]:=by grind[qat]
theorem yj7{l:List (Int×Int)}(h:i<Γ l)(x:Int×Int)(j:Nat):qat (l.set i x) j=if j=i then x else qat l j:=by unfold qat;grind
theorem zb6{l:List (Int×Int)}(b:i<Γ l)(a:k<Γ l):qat (Al l i k)=I4 (qat l) i k:=by grind[Al,I4,yj7]
def ud{l:List (Int×Int)}(b:i<Γ l)(a:k<Γ l):(Al l i k).Perm l:=by grind[Al,Wa]
theorem zb7(l:List (Int×Int))(x:Int×Int)(j:Nat)(h:j<Γ l):qat (l++[x]) j=qat l j:=by grind[qat]
end
structure FarOK(E:Nat->Nat->Int->Prop)(goal:Nat)(d:Nat->Int):Prop where
 lab:∀u,d u=-1\/0<=d u
 gl:d goal=0
 pre:∀u,u≠goal->0<=d u->∃t c,0<=d t/\E t u c/\d t+c<=d u
 rel:∀t u c,0<=d t->E t u c->0<=d u/\d u<=d t+c
section
variable {goal u n t:Nat} {cur c:Int}
def cf{E:Nat->Nat->Int->Prop}(l:∀t u c,E t u c->0<c){d e:Nat->Int}(h:FarOK E goal d)(k:FarOK E goal e):∀(n:Nat) (u:Nat),0<=e u->(e u).toNat=n->0<=d u/\d u<=e u:=by
 intro n;induction n using Nat.strongRecOn with
 |_ n g=>
  intro u i p;by_cases b:u=goal
  .subst b;have f:=h.gl;omega
  .obtain⟨t,c,j,a,v⟩:=k.pre u b i;have o:=l _ _ _ a;obtain⟨f,z⟩:=g (e t).toNat Z t j rfl;obtain⟨y,w⟩:=h.rel t u c f a;omega
def yqy{E:Nat->Nat->Int->Prop}(b:∀t u c,E t u c->0<c){d e:Nat->Int}(h:FarOK E goal d)(k:FarOK E goal e):d=e:=by
 funext u
 rcases h.lab u with f|f
 .rcases k.lab u with a|a
  .omega
  .have:=cf b h k _ u a rfl;omega
 .rcases k.lab u with a|a
  .have:=cf b k h _ u f rfl;omega
  .have i:=cf b h k _ u a rfl;have g:=cf b k h _ u f rfl;omega
def zz{α:Type}(d:Nat->α)(u:Nat)(x:α):Nat->α:=λj=>if j=u then x else d j
theorem wg{α:Type}(d:Nat->α)(u:Nat)(x:α):zz d u x u=x:=by simp[zz]
theorem js{α:Type}{d:Nat->α}{j:Nat}{x:α}(h:j≠u):zz d u x j=d j:=by simp[zz,h]
structure DJ(E:Nat->Nat->Int->Prop)(n goal:Nat)(d:Nat->Int)(dn:Nat->Bool)(q:List (Int×Int))(cur:Int)(O:Nat->Nat->Int->Prop):Prop where
 lab:∀u,d u=-1\/0<=d u
 gl:d goal=0
 pre:∀u,u≠goal->0<=d u->∃t c,dn t=true/\0<=d t/\E t u c/\d t+c<=d u
 rel:∀t u c,dn t=true->E t u c->¬O t u c->0<=d u/\d u<=d t+c
 mono:∀t,dn t=true->0<=d t/\d t<=cur
 ent:∀e∈q,∃u:Nat,e.2=(u:Int)/\u<n/\0<=d u/\d u<=e.1/\cur<=e.1
 wait:∀u,0<=d u->dn u=false->(d u,(u:Int))∈q
def Fq:Nat->Nat->Int->Prop:=λ_ _ _=>False
def yry(E:Nat->Nat->Int->Prop)(f:goal<n){d:Nat->Int}(a:∀u,d u=if u=goal then 0 else -1):DJ E n goal d (λ_=>false) [(0,(goal:Int))] 0 Fq:=by
 refine⟨λu=>?_,by simp[a],λu b h=>?_,λt u c h=>?_,λt h=>?_,λe g=>?_,λu h _=>?_⟩
 .grind
 .grind
 .cases h
 .cases h
 .grind
 grind
def yrw{E:Nat->Nat->Int->Prop}{d:Nat->Int}{b:Nat->Bool}{q q':List (Int×Int)}(h:DJ E n goal d b q cur Fq){x:Int×Int}{t:Nat}(j:x.2=(t:Int))(f:q.Perm (x::q'))(k:b t=true):DJ E n goal d b q' cur Fq:=by
 refine⟨h.lab,h.gl,h.pre,h.rel,h.mono,λe a=>h.ent e (f.mem_iff.2 (Fba _ a)),λu g i=>?_⟩;rcases Fa7.1 (f.mem_iff.1 (h.wait u g i))with a|a
 .grind
 omega
def yrv{E:Nat->Nat->Int->Prop}{d:Nat->Int}{p:Nat->Bool}{q q':List (Int×Int)}(h:DJ E n goal d p q cur Fq){x:Int×Int}{t:Nat}(S:x.2=(t:Int))(l:q.Perm (x::q'))(w:∀e∈q,¬qlt e x)(M:p t=false):
  x.1=d t/\DJ E n goal d (zz p t true) q' x.1 (λa _ _=>a=t):=by
 have C:x∈q:=l.mem_iff.2 Fbn;obtain⟨u,R,G,k,D,H⟩:=h.ent x C;have:u=t:=Z;subst this;have L:x.1=d u:=by have:=zb5 (w _ (h.wait u k M));omega
 refine⟨L,h.lab,h.gl,λv j K=>?_,λa b c f Q P=>?_,λa f=>?_,λe o=>?_,λv j i=>?_⟩
 .obtain⟨a,c,B,A,z,y⟩:=h.pre v j K;grind[zz]
 .rw[js P]at f;exact h.rel a b c f Q (λh=>h)
 .unfold zz at f;split at f
  .grind
  .have:=h.mono a f;omega
 .have g:=l.mem_iff.2 (Fba x o);obtain⟨v,B,A,z,y,T⟩:=h.ent e g;exact⟨v,B,A,z,y,zb5 (w e g)⟩
 .unfold zz at i;split at i
  .cases i
  .rename_i I;rcases Fa7.1 (l.mem_iff.1 (h.wait v j i))with o|o
   .grind
   omega
def oz{E:Nat->Nat->Int->Prop}{d:Nat->Int}{b:Nat->Bool}{q:List (Int×Int)}{a f:Nat->Nat->Int->Prop}(h:DJ E n goal d b q cur a)
  (j:∀t u c,a t u c->¬f t u c->E t u c->0<=d u/\d u<=d t+c):DJ E n goal d b q cur f:=
 ⟨h.lab,h.gl,h.pre,λt u c g i k=>by
  by_cases e:a t u c
  .grind
  .exact h.rel t u c g i e,h.mono,h.ent,h.wait⟩
def zgj{E:Nat->Nat->Int->Prop}(Q:∀t u c,E t u c->0<c){d:Nat->Int}{l:Nat->Bool}{q A:List (Int×Int)}{f:Nat->Nat->Int->Prop}(h:DJ E n goal d l q cur f){u:Nat}(K:l t=true)(I:d t=cur)(G:u<n)(w:E t u c)(U:l u=false)(T:d u<0\/cur+c<d u)
  (B:A.Perm ((cur+c,(u:Int))::q)):DJ E n goal (zz d u (cur+c)) l A cur f:=by
 have V:=Q _ _ _ w;have hcur:0<=cur:=by have:=h.mono t K;omega
 have H:t≠u:=λe=>δ;have j:∀a,l a=true->a≠u:=λa g e=>δ;have p:goal≠u:=λe=>by subst e;have:=h.gl;omega
 refine⟨λv=>?_,by rw[js p];exact h.gl,λv o i=>?_,λa b k g y P=>?_,λa g=>?_,λe M=>?_,λv o L=>?_⟩
 .unfold zz;split
  .omega
  .exact h.lab v
 .by_cases e:v=u
  .grind[js,wg]
  .rw[js e]at i⊢;obtain⟨a,k,D,C,S,R⟩:=h.pre v o i;grind[js]
 .rw[js (j a g)];obtain⟨D,C⟩:=h.rel a b k g y P;grind[wg,js]
 .rw[js (j a g)];exact h.mono a g
 .rcases Fa7.1 (B.mem_iff.1 M)with z|z
  .subst z;exact⟨u,rfl,G,by rw[wg];omega,by rw[wg];simp,Z⟩
  .obtain⟨v,D,C,S,R,W⟩:=h.ent e z;grind[wg,js]
 .by_cases e:v=u
  .grind[wg]
  .rw[js e]at o⊢;exact B.mem_iff.2 (Fba _ (h.wait v o L))
def yrz{E:Nat->Nat->Int->Prop}{d:Nat->Int}{e:Nat->Bool}(h:DJ E n goal d e [] cur Fq):FarOK E goal d:=by
 have b:∀u,0<=d u->e u=true:=λu a=>by
  cases i:e u with
  |true=>rfl
  |false=>exact absurd (h.wait u a i) φ
 exact⟨h.lab,h.gl,λu a g=>by obtain⟨t,c,_,o,l,k⟩:=h.pre u a g;grind,λt u c f j=>h.rel t u c (b t f) j (λh=>h)⟩
structure SP(E:Nat->Nat->Int->Prop)(goal:Nat)(d:Nat->Int)(W:Nat->Bool)(O:Nat->Nat->Int->Prop):Prop where
 lab:∀u,d u=-1\/0<=d u
 gl:d goal=0
 pre:∀u,u≠goal->0<=d u->∃t c,0<=d t/\E t u c/\d t+c<=d u
 rel:∀t u c,0<=d t->W t=false->E t u c->¬O t u c->0<=d u/\d u<=d t+c
 wl:∀t,W t=true->0<=d t
def yag(E:Nat->Nat->Int->Prop){d:Nat->Int}(a:∀u,d u=if u=goal then 0 else -1){W:Nat->Bool}(f:∀u,W u=decide (u=goal)):SP E goal d W Fq:=by
 refine⟨λu=>?_,by simp[a],λu e h=>?_,λt u c h b=>?_,λt h=>?_⟩
 .grind
 .grind
 .grind
 grind
def yae{E:Nat->Nat->Int->Prop}{d:Nat->Int}{W:Nat->Bool}(h:SP E goal d W Fq)(t:Nat):SP E goal d (zz W t false) (λa _ _=>a=t):=
 ⟨h.lab,h.gl,h.pre,λa u c b e g f=>by
  rw[js f]at e;exact h.rel a u c b e g (λh=>h),λa b=>by
  unfold zz at b;split at b
  .cases b
  .exact h.wl a b⟩
def gm{E:Nat->Nat->Int->Prop}{d:Nat->Int}{W:Nat->Bool}{a b:Nat->Nat->Int->Prop}(h:SP E goal d W a)(j:∀t u c,a t u c->¬b t u c->E t u c->0<=d u/\d u<=d t+c):SP E goal d W b:=
 ⟨h.lab,h.gl,h.pre,λt u c g f i k=>by
  by_cases e:a t u c
  .grind
  .exact h.rel t u c g f i e,h.wl⟩
def yaf{E:Nat->Nat->Int->Prop}(A:∀t u c,E t u c->0<c){d:Nat->Int}{W:Nat->Bool}{f:Nat->Nat->Int->Prop}(h:SP E goal d W f)(C:0<=d t)(y:t≠u)(j:E t u c)(D:d u<0\/d t+c<d u):SP E goal (zz d u (d t+c)) (zz W u true) f:=by
 have G:=A _ _ _ j;have o:goal≠u:=λe=>by subst e;have:=h.gl;omega
 have low:∀v,0<=d v->0<=zz d u (d t+c) v/\zz d u (d t+c) v<=d v:=λv w=>by grind[zz]
 refine⟨λv=>?_,by rw[js o];exact h.gl,λv w g=>?_,λa b k i l p z=>?_,λa i=>?_⟩
 .unfold zz;split
  .omega
  .exact h.lab v
 .by_cases e:v=u
  .subst e;exact⟨t,c,δ,j,by simp_all[wg]⟩
  .rw[js e]at g⊢;obtain⟨a,k,B,I,H⟩:=h.pre v w g;grind
 .by_cases e:a=u
  .subst e;rw[wg]at l;cases l
  .rw[js e]at i l⊢;obtain⟨K,B⟩:=h.rel a b k i l p z;grind
 .by_cases e:a=u
  .subst e;rw[wg];omega
  .rw[js e]at i⊢;exact h.wl a i
def yah{E:Nat->Nat->Int->Prop}{d:Nat->Int}{W:Nat->Bool}(h:SP E goal d W Fq)(a:∀u,W u=false):FarOK E goal d:=
 ⟨h.lab,h.gl,h.pre,λt u c b e=>h.rel t u c b (a t) e (λh=>h)⟩
end
section
variable {n a:Int}
def nrm(a:Int):Int:=if a< -9223372036854775807 then -9223372036854775807 else a
theorem ylh(n:Int):max2 n (Int.negSucc 9223372036854775806)=nrm n:=by simp_all[max2,nrm]
theorem Ba(h:yr n):-9223372036854775807<=nrm n/\nrm n<=9223372036854775807:=by grind[yr,nrm]
theorem Gi(h:-9223372036854775807<=n):nrm n=n:=by unfold nrm;omega
theorem ylg(n:Int):nrm (nrm n)=nrm n:=by unfold nrm;omega
def wo(s:Int):Int:=if s>9223372036854775807 then 9223372036854775807 else if s< -9223372036854775807 then -9223372036854775807 else s
def qs(a b:Int):Int:=wo (nrm a+nrm b)
def qh(a b:Int):Int:=qs a (-nrm b)
def dg(s:Int):-9223372036854775807<=wo s/\wo s<=9223372036854775807:=by grind[wo]
def om(a b:Int):-9223372036854775807<=qs a b/\qs a b<=9223372036854775807:=dg _
theorem n7(a b:Int):-9223372036854775807<=qh a b/\qh a b<=9223372036854775807:=dg _
def cg(a b:Int):yr (qs a b):=by have:=om a b;unfold yr;omega
def Kr(a b:Int):yr (qh a b):=by have:=n7 a b;unfold yr;omega
def asz(a:Int):Int:=if nrm a<0 then -nrm a else nrm a
def K1(h:yr n):0<=asz n/\asz n<=9223372036854775807:=by have:=Ba h;unfold asz;omega
def ji(n:Int):List AV:=[u64 (n/18446744073709551616),u64 (n%18446744073709551616)]
theorem K9(v:Int):IntKind.u64.wrap v=v%18446744073709551616:=ξ
theorem O4(h:0<=a):xf .and .u64 a 4294967295=a%4294967296:=by obtain⟨n,rfl⟩:=Fbk h;show IntKind.u64.wrap ((BitVec.ofInt 64 (n:Int) &&& BitVec.ofInt 64 (4294967295:Int)).toNat:Int)=_;rw[K9];have d:BitVec.ofInt 64 (n:Int)=BitVec.ofNat 64 n:=BitVec.ofInt_natCast ..;have c:BitVec.ofInt 64 (4294967295:Int)=BitVec.ofNat 64 4294967295:=rfl;rw[d,c,BitVec.toNat_and,BitVec.toNat_ofNat,BitVec.toNat_ofNat];have b:(4294967295:Nat)%2^64=2^32-1:=ψ;rw[b,Nat.and_two_pow_sub_one_eq_mod];omega
theorem yav(a:Int):a.fdiv (2^(min (32:Int).toNat IntKind.u64.bits))=a/4294967296:=by have:(min (32:Int).toNat IntKind.u64.bits)=32:=ψ;grind
theorem yki:(2:Int)^(min (32:Int).toNat IntKind.u64.bits)=4294967296:=ψ
theorem yqw(a:Int):a.fdiv 4294967296=a/4294967296:=Fdj _ ψ
def Sv{c b:Int}(e:c=n/18446744073709551616)(d:b=n%18446744073709551616):[AV.s (.int .u64 c),AV.s (.int .u64 b)]=ji n:=by subst e d;rfl
theorem yk2{b:Int}(g:0<=a)(d:0<=b)(c:b<4294967296):xf .or .u64 ((a*4294967296)%18446744073709551616) b=(a*4294967296)%18446744073709551616+b:=by
 have e:(a*4294967296)%18446744073709551616=(a%4294967296)*2^32:=Z;obtain⟨q,f⟩:=Fbk (show 0<=a%4294967296 by omega);have h:=@ykz b q 32 d Z Z;have comm:∀x y:Int,xf .or .u64 x y=xf .or .u64 y x:=by grind[xf]
 grind
def tp(x y:Int)(t:0<=x)(o:x<18446744073709551616)(p:0<=y)(l:y<18446744073709551616):
  ∃f d e c:Int,f=(x%4294967296)*(y%4294967296)/\d=(x/4294967296)*(y%4294967296)/\e=(x%4294967296)*(y/4294967296)/\c=(x/4294967296)*(y/4294967296)∧
   x*y=c*18446744073709551616+(d+e)*4294967296+f/\0<=f/\f<=18446744065119617025/\0<=d/\d<=18446744065119617025/\0<=e/\e<=18446744065119617025/\0<=c/\c<=18446744065119617025:=by
 have b:∀u v:Int,0<=u->u<=4294967295->0<=v->v<=4294967295->0<=u*v/\u*v<=18446744065119617025:=by intro u v k j g i;refine⟨Fax k g,?_⟩;have h:u*v<=4294967295*4294967295:=Fa9 j i g ψ;exact h
 refine⟨_,_,_,_,rfl,rfl,rfl,rfl,?_,?_⟩
 .grind
 .obtain⟨k,j⟩:=b (x%4294967296) (y%4294967296) Z Z Z Z;obtain⟨g,i⟩:=b (x/4294967296) (y%4294967296) Z Z Z Z;obtain⟨h,A⟩:=b (x%4294967296) (y/4294967296) Z Z Z Z;obtain⟨z,w⟩:=b (x/4294967296) (y/4294967296) Z Z Z Z;omega
abbrev Vc:=Int×Int
def zr(p:Vc):List AV:=[int p.1,int p.2]
def Vc.ok(p:Vc):Prop:=yr p.1/\yr p.2
def q9(a b:Vc):Vc:=(qh a.1 b.1,qh a.2 b.2)
def sqr(v:Vc):Int:=asz v.1*asz v.1+asz v.2*asz v.2
def near(a b:Vc)(r:Int):Bool:=decide (0<r/\sqr (q9 a b)<r*r)
end
end Go.V
namespace Go.V
def Store.un(a g:Store):Store:=
  ⟨λb=>match g.obj b with|some x=>Δ x|none=>a.obj b,λb=>match g.tok b with|some x=>Δ x|none=>a.tok b⟩
def Store.has(g:Store)(b:Nat):Prop:=g.obj b≠Θ\/g.tok b≠Θ
def zl(a g:Store):Prop:=∀b,a.has b->¬g.has b
theorem jt{g:Store}{b:Nat}(h:¬g.has b):g.obj b=Θ/\g.tok b=Θ:=by
  constructor
  . cases a:g.obj b with
    |none=>rfl
    |some x=>exact absurd (Or.inl δ) h
  . cases a:g.tok b with
    |none=>rfl
    |some x=>exact absurd (Or.inr δ) h
theorem xk{g:Store}{b:Nat}{x:AObj}(h:g.obj b=Δ x):g.has b:=.inl δ
theorem Ry{g:Store}{b:Nat}{x:Nat}(h:g.tok b=Δ x):g.has b:=.inr δ
theorem fresh_iff{g:Store}{b:Nat}:Fresh g b↔¬g.has b:=
  ⟨λ⟨c,a⟩ h=>h.elim (λh=>h c) (λh=>h a),jt⟩
theorem zh{a g:Store}{b:Nat}{x:AObj}(h:g.obj b=Δ x):(a.un g).obj b=Δ x:=by simp[Store.un,h]
theorem yf{a g:Store}{b:Nat}{x:AObj}(c:zl a g)(h:a.obj b=Δ x):(a.un g).obj b=Δ x:=by simp[Store.un,(jt (c b (xk h))).1,h]
def Lh{a g:Store}{b:Nat}{x:Nat}(c:zl a g)(h:a.tok b=Δ x):(a.un g).tok b=Δ x:=by simp[Store.un,(jt (c b (Ry h))).2,h]
def H2{a g:Store}{b:Nat}{x:Nat}(h:g.tok b=Δ x):(a.un g).tok b=Δ x:=by simp[Store.un,h]
def sy{a g:Store}{b:Nat}{x:AObj}(h:(a.un g).obj b=Δ x):g.obj b=Δ x\/(g.obj b=Θ/\a.obj b=Δ x):=by simp only[Store.un]at h;grind
def sx{a g:Store}{b:Nat}{x:Nat}(h:(a.un g).tok b=Δ x):g.tok b=Δ x\/(g.tok b=Θ/\a.tok b=Δ x):=by simp only[Store.un]at h;grind
theorem un_has{a g:Store}{b:Nat}:(a.un g).has b↔a.has b\/g.has b:=by grind[Store.has,Store.un]
section
variable {P:Program}
def ACalls.frame{f:FuncId}{xs:List AV}{a g:Store}{R R':Ja}(D:zl a g)(h:ACalls P f xs a R)(hR:∀r y,R r y->zl y g->R' r (y.un g)):ACalls P f xs (a.un g) R':=by
  refine⟨λt M w V sto hr=>?_⟩
  let gM:Nat->Nat->Prop:=λb o=>M b o/\g.has b
  let K:Nat->Nat->Prop:=λb o=>M b o/\¬g.has b
  let z:Nat->Nat->Prop:=λb o=>t b o\/gM b o
  have hT:(λ(b o:Nat)=>K b o\/z b o)=λb o=>M b o\/t b o:=δ
  have sto1:StoreOK a z K w:=
    { obj:=λb x i=>by
        rw[hT];have:=sto.obj b x (yf D i);exact⟨this.1,λo=>⟨this.2 o,D b (xk i)⟩⟩
      tok:=λb u i=>by obtain⟨c,e,C,p,I,H,G⟩:=sto.tok b u (Lh D i);exact⟨c,e,C,p,I,H,λo ho=>⟨G o ho,D b (Ry i)⟩⟩
      mlt:=λb o k=>sto.mlt b o k.1
      olt:=λb o k=>by
        rcases k with h|h
        . exact sto.olt b o h
        . exact sto.mlt b o h.1
      dis:=λb o E T=>by
        rcases E with h|h
        . exact sto.dis b o h T.1
        grind}
  have p:=h.out z K w V sto1 δ;have key:∀v A,xg a R z K w v A->xg (a.un g) R' t M w v A:=by
    rintro v A ⟨r,y,U,S,W,j,d⟩
    let X:Nat->Nat->Prop:=λb o=>U b o\/gM b o
    have η:(λ(b o:Nat)=>U b o\/z b o)=λb o=>X b o\/t b o:=δ;have hglt:∀b,g.has b->b<w.heap.size:=by
      intro b l;rcases l with l|l
      . cases i:g.obj b with
        |none=>grind
        |some x=>exact sto.mlt b 0 ((sto.obj b x (zh i)).2 0)
      . cases i:g.tok b with
        |none=>grind
        | some x=>
          obtain⟨c,e,C,p,_⟩:=sto.tok b x (H2 i);grind
    have L:∀b o,U b o->¬g.has b:=λb o k B=>(d.sub b o k (hglt b B)).2 B;have Q:zl y g:=by
      intro b l;rcases l with l|l
      . cases i:y.obj b with
        |none=>grind
        |some x=>exact L b 0 ((j.obj b x i).2 0)
      . cases i:y.tok b with
        |none=>grind
        | some x=>
          obtain⟨c,e,C,p,I,H,G⟩:=j.tok b x i;grind
    have hblk:∀b,g.has b->A.heap[b]?=w.heap[b]?:=λb B=>d.blk b (hglt b B) λo k=>k.2 B;refine⟨r,y.un g,X,hR r y S Q,δ,?_,?_⟩
    . refine{obj:=λb x i=>?_,tok:=λb u i=>?_,mlt:=λb o k=>?_,olt:=λb o k=>Nat.lt_of_lt_of_le (sto.olt b o k) d.size,dis:=λb o E T=>?_}
      . rcases sy i with i|⟨_,i⟩
        . have h5:=sto.obj b x (zh i)
          have hk:=d.keeps (Oth:=z);grind[ObjRel.same,xk]
        . have h5:=j.obj b x i
          grind
      . rcases sx i with i|⟨_,i⟩
        . obtain⟨c,e,C,p,I,H,G⟩:=sto.tok b u (H2 i)
          grind[Ry]
        . obtain⟨c,e,C,p,I,H,G⟩:=j.tok b u i
          grind
      . rcases k with h|h
        . exact j.mlt b o h
        grind
      . rcases T with h|h
        . exact j.dis b o (.inl E) h
        . exact sto.dis b o E h.1
    . exact
        { size:=d.size
          keep:=λb o l k=>d.keep b o l λh=>k h.1
          blk:=λb l k=>d.blk b l λo h=>k o h.1
          shp:=d.shp
          sub:=λb o k l=>by
            rcases k with h|h
            . exact(d.sub b o h l).1
            grind
          tape:=d.tape
          os:=d.os
          output:=d.output}
  generalize(callFunc f V).run P w=res at p;cases res with
  | ok n A=>
    cases n with
    |enter f' args=>exact Calls.mono p λe ε ⟨v,he,W⟩=>⟨v,he,key _ _ W⟩
    |value v=>exact key _ _ p
    |_=>exact p
  |_=>exact p
def flat(r:AV):Prop:=∀w T a b v,VRel w T r v->VRel a b r v
def Ht(v:Value):flat (.s v):=λ_ _ _ _ _ h=>by cases h;exact .s _
def yqi(d:List Value):flat (.agg (d.map AV.s)):=by
  intro w T g j v h;obtain⟨c,rfl,b⟩:=G8 h;refine Mu ⟨b.1,λi x y a e=>?_⟩;have:=b.2 i x y a e;rw[Fau]at a;cases f:d[i]? with
  |none=>grind
  | some z=>
    rw[f]at a;simp at a;subst a;cases this;exact .s _
def ACalls.read{f:FuncId}{xs ys:List AV}{g:Store}{Q:AV->Prop}{R:Ja}
    (u:∀c M w i,StoreOK g c M w->Reads w (λb o=>M b o\/c b o) xs i->Reads w (λb o=>(M b o\/c b o)/\g.obj b=Θ) ys i)
    (h:ACalls P f ys Store.empty λr _=>Q r) (A:∀r,Q r->flat r) (C:∀r,Q r->R r g):ACalls P f xs g R:=by
  refine⟨λc M w i sto D=>?_⟩
  let l:Nat->Nat->Prop:=λb o=>(M b o\/c b o)/\g.obj b=Θ
  have sto0:StoreOK Store.empty l (λ_ _=>False) w:=
    {obj:=λb x hx=>θc,tok:=λb x hx=>θc,mlt:=λ_ _ h=>h.elim,olt:=λb o h=>Or.elim h.1 (sto.mlt b o) (sto.olt b o),dis:=λ_ _ _ h=>h}
  have j:=h.out l (λ_ _=>False) w i sto0 δ;have key:∀v d,xg Store.empty (λr _=>Q r) l (λ_ _=>False) w v d->xg g R c M w v d:=by
    rintro v d ⟨r,G,H,y,k,p,a⟩;have t:Grow w d:=⟨a.size,λb u=>a.blk b u λ_ h=>h,a.tape,a.os,a.output⟩
    exact⟨r,g,M,C r y,A r y _ _ _ _ _ k,sto.grow t,t.chg M⟩
  generalize(callFunc f i).run P w=res at j;cases res with
  | ok n d=>
    cases n with
    |enter E args=>exact Calls.mono j λe z ⟨v,B,k⟩=>⟨v,B,key _ _ k⟩
    |value v=>exact key _ _ j
    |_=>exact j
  |_=>exact j
def zhm{w:World}{T:BB}{b n d k:Nat}{rows:List (List AV)}{e:List AV}(C:CellsRel w T (rows.flatten++e) b){A:BB}(I:∀o,¬A b o)(D:Γ rows=n)(g:n<=d)
    (hk:∀row∈rows,Γ row=k) (l:∀row∈rows,∀x∈row,∃v,x=AV.s v/\xq v=true):VRel w A (.lst k rows Θ) (.slice (Δ ⟨b,0,Θ⟩) n d):=by
  obtain⟨t,L,K,E,B,z,f⟩:=C;subst D;have at1:∀(i:Nat) (row:List AV) (j:Nat) (x:AV),rows[i]?=Δ row->row[j]?=Δ x->∃v,x=.s v/\xq v=true/\t[i*k+j]?=Δ v:=by
    intro i row j x a c;obtain⟨v,rfl,y⟩:=l row (Fa4 a) x (Fa4 c);have u:=Kt hk a c;have H:(rows.flatten++e)[i*k+j]?=Δ (.s v):=δ;have hlt2:i*k+j<t.size:=δ;have G:=f _ _ t[i*k+j] H (by simp[hlt2]);have:t[i*k+j]=v:=by cases G;rfl
    grind
  refine VRel.lst rows Θ b 0 d k (λp=>t.getD p undef) g (λi row a=>hk row (Fa4 a)) (λ_ h=>ω) (λi row j x a c=>?_) (λi row j x a c=>?_) (λi row j x a c=>?_)
  . obtain⟨v,rfl,y,u⟩:=at1 i row j x a c
    simp_all[World.cell?]
  . obtain⟨v,rfl,y,u⟩:=at1 i row j x a c
    simp_all
  . obtain⟨v,rfl,y,u⟩:=at1 i row j x a c
    rw[Fbf,u];exact .s _
def AObj.le(x y:AObj):Prop:=∀w T b,ObjRel w T x b->ObjRel w T y b
structure Store.Le(st st':Store):Prop where
  obj:∀b y,st'.obj b=Δ y->∃x,st.obj b=Δ x/\AObj.le x y
  tok:∀b x,st'.tok b=Δ x->st.tok b=Δ x
theorem AObj.le_refl(x:AObj):AObj.le x x:=λ_ _ _ h=>h
def Store.Le.refl(a:Store):a.Le a:=⟨λb y h=>⟨y,h,AObj.le_refl y⟩,λ_ _ h=>h⟩
def Store.Has.toLe{c a:Store}(h:c.Has a):c.Le a:=⟨λb y d=>⟨y,h.obj b y d,AObj.le_refl y⟩,h.tok⟩
def StoreOK.weakenLe{e a:Store}{c M:BB}{w:World}(h:StoreOK e c M w)(g:e.Le a):StoreOK a c M w:=
  ⟨λb y k=>by obtain⟨x,f,d⟩:=g.obj b y k;exact⟨d _ _ _ (h.obj b x f).1,(h.obj b x f).2⟩,λb x k=>h.tok b x (g.tok b x k),h.mlt,h.olt,h.dis⟩
def ACalls.post{f:FuncId}{xs:List AV}{o b:Store}{R R':Ja}(h:ACalls P f xs b R)(G:o.Le b)(A:∀r d,R r d->∃l a,AV.le r l/\d.Le a/\R' l a):ACalls P f xs o R':=by
  refine⟨λc M w t sto y=>?_⟩;have j:=h.out c M w t (sto.weakenLe G) y;have key:∀v k,xg b R c M w v k->xg o R' c M w v k:=by rintro v k ⟨r,H,I,B,p,g,i⟩;obtain⟨l,a,E,D,C⟩:=A r H B;exact⟨l,a,I,C,E _ _ _ p,g.weakenLe D,i⟩
  generalize(callFunc f t).run P w=res at j;cases res with
  | ok n k=>
    cases n with
    |enter K args=>exact Calls.mono j λe u ⟨v,z,p⟩=>⟨v,z,key _ _ p⟩
    |value v=>exact key _ _ j
    |_=>exact j
  |_=>exact j
def ACalls.imp{f:FuncId}{xs:List AV}{b:Store}{R R':Ja}(h:ACalls P f xs b R)(d:∀r a,R r a->R' r a):ACalls P f xs b R':=
  h.post (Store.Le.refl b) λr a c=>⟨r,a,AV.le_refl r,Store.Le.refl a,d r a c⟩
def ACalls.of_calls {f : FuncId} {j : Func} {d : Code} {xs : List AV} {g : Store} {R : Ja} (n : P.funcs[f]? = Δ j) (p : j.body = Δ d) (i : (j.name == "runtime.NumGoroutine") = false)
    (h:∀(a M:BB) (w:World) (c:Array Value),StoreOK g a M w->Reads w (λb o=>M b o\/a b o) xs c.toList->Calls P f c w λe k=>∃v,e=.returned v/\xg g R a M w v k):ACalls P f xs g R:=by
  refine⟨λa M w c sto l=>?_⟩;have hrun:(callFunc f c).run P w=.ok (.enter f c) w:=θ5;rw[hrun];exact h a M w c sto l
def ACalls.of_value{f:FuncId}{xs:List AV}{e:Store}{R:Ja}
    (h:∀(a M:BB) (w:World) (c:Array Value),StoreOK e a M w->Reads w (λb o=>M b o\/a b o) xs c.toList->∃v d,(callFunc f c).run P w=.ok (.value v) d/\xg e R a M w v d):ACalls P f xs e R:=by
  refine⟨λa M w c sto g=>?_⟩;obtain⟨v,d,j,i⟩:=h a M w c sto g;rw[j];exact i
end
def AWp.meetA{P:Program}{c:Cfg}{σ:Type}(H:Meet σ){x y:Code}{Q:Exit->Fr->Store->Prop}{A:Fr}{b:Store}(f:AWp P c x (Vj H.at Q) A b)
    (d:∀s a,H.inv s a->AWp P c y Q (Ib (H.t s) (H.bx s)) a):AWp P c (.seq x y) Q A b:=by
  refine AWp.seq (f.mono λe k a h=>?_);cases e with
  | normal=>
    obtain⟨s,j,i,g⟩:=h;exact AWp.weaken (d s a j) i g (Store.Has.refl a)
  |_=>exact h
def AWp.cond{P:Program}{c:Cfg}{x:Operand}{p q:Code}{Q:Exit->Fr->Store->Prop}{A:Fr}{b:Store}(t:Bool)(ht:A.ev x=.av (.s (.bool t)))(h:Ds t (AWp P c p Q A b) (AWp P c q Q A b)):AWp P c (.cond x p q) Q A b:=by
  refine⟨λd M a w sim=>?_⟩;have e:a.eval x=.bool t:=ψt;refine wpIn_cond e ?_;cases t with
  |true=>exact(AWp.out (show AWp P c p Q A b from h)) d M a w sim
  |false=>exact(AWp.out (show AWp P c q Q A b from h)) d M a w sim
section
variable {P:Program} {c:Cfg} {I:Info} {w:World} {T:BB}
def zef:Ty->Bool
  |.int _=>true
  |_=>false
def Rr(I:Info)(a:TypeId)(k:AV):Bool:=
  match I a with
  |none=>false
  | some i=>match i.ty,k with
    |.int _,_=>true
    |.bool,_=>true
    |.struct fs,.agg b=>fs.all λf=>match I f.2 with|some j=>zef j.ty&&(Fk j (b.drop f.1)).isSome|none=>false
    |_,_=>false
def zg7{a:TypeId}{k:IntKind}(h:P.underlying a=Δ (.int k))(v:Value)(e:Bool)(n:Nat):(Instr.checkKey e (n+1) a v).run P w=.ok () w:=by simp_all[Instr.checkKey,yy]
theorem ytm{a:TypeId}(h:P.underlying a=Δ .bool)(v:Value)(e:Bool)(n:Nat):(Instr.checkKey e (n+1) a v).run P w=.ok () w:=by simp_all[Instr.checkKey,yy]
def pk(t:qf P I){d:TypeId}{k:AV}{l:Value}(h:Rr I d k=true)(B:VRel w T k l)(e:Bool):(Instr.checkKey e 10000 d l).run P w=.ok () w:=by
  unfold Rr at h;cases y:I d with
  |none=>grind
  | some i=>
    rw[y]at h;have u:=t d i y;simp only at h;split at h
    . rename_i M g;exact zg7 (Mw u g) l e 9999
    . grind[ytm,te]
    . rename_i fs U g
      obtain⟨S,rfl,C⟩:=G8 B;obtain⟨a,b,p⟩:=Pa u g;rw[show(10000:Nat)=9999+1 from rfl,Instr.checkKey];simp only[Sem.run_bind,yy b,Result.andThen_ok];rw[<-Array.forIn_toList];subst p;clear b g;generalize a.toList=L at h;induction L with
      |nil=>simp
      | cons f L Q=>
        simp only[Fb5,List.all_cons,Fay]at h;obtain⟨z,R⟩:=h;cases o:I f.type with
        |none=>grind
        | some j=>
          simp only[o,Fay]at z;obtain⟨E,D⟩:=z;obtain⟨x,A⟩:=Option.isSome_iff_exists.1 D;obtain⟨v,K,H⟩:=Re (t _ _ o) C A;have n:∃k,j.ty=.int k:=by unfold zef at E;grind
          obtain⟨k,n⟩:=n;have G:=zg7 (w:=w) (Mw (t _ _ o) n) v e 9998;simp_all
    . cases h
def ygb{e:TypeId}{d:TypeDesc}(f:P.underlying e=Δ d){a b:Value}{r:Bool}(h:Instr.sameNow d a b=Δ r)(D:Nat):(Op.equalIn (D+1) e a b).run P w=.ok r w:=by
  unfold Instr.sameNow at h;split at h
  . simp_all[Op.equalIn,yy]
  . simp_all[Op.equalIn,yy]
  . simp_all[Op.equalIn,yy]
  . cases h
def oi(D:qf P I){kt:TypeId}{k:AV}{kv:Value}(K:VRel w T k kv)(q:AV×AV->Bool){es:List (AV×AV)}{ms:List MapEntry}(o:Γ es=Γ ms)
    (M:∀(i:Nat) (x:AV×AV) (y:MapEntry),es[i]?=Δ x->ms[i]?=Δ y->VRel w T x.1 y.key) (Q:∀e∈es,Gt I 5 kt k e.1=Δ (q e)) (v:(I kt).isSome):
    ∃r,(Instr.findKey kt kv ms).run P w=.ok r w/\((r=Θ/\es.findIdx? q=Θ)\/∃i e m,r=Δ (i,m.val)/\es.findIdx? q=Δ i/\es[i]?=Δ e/\ms[i]?=Δ m/\q e=true):=by
  have eqrun:∀(i:Nat) (e:AV×AV) (m:MapEntry),es[i]?=Δ e->ms[i]?=Δ m->(Op.equal kt kv m.key).run P w=.ok (q e) w:=λi e m a f=>
    zf9 D 5 kt k e.1 (q e) (Q e (Fa4 a)) 10000 Z kv m.key K (M i e m a f)
  obtain⟨G,z⟩:=Option.isSome_iff_exists.1 v;obtain⟨d,C,_⟩:=(D kt G z).und;have same:∀(i:Nat) (e:AV×AV) (m:MapEntry) (b:Bool),es[i]?=Δ e->ms[i]?=Δ m->Instr.sameNow d kv m.key=Δ b->b=q e:=by intro i e m b a f L;have t:=eqrun i e m a f;have p:(Op.equal kt kv m.key).run P w=.ok b w:=ygb C L 9999;grind
  have res:∀(es:List (AV×AV)) (ms:List MapEntry) (j:Nat),Γ es=Γ ms->
      (∀(i:Nat) (e:AV×AV) (m:MapEntry),es[i]?=Δ e->ms[i]?=Δ m->(Op.equal kt kv m.key).run P w=.ok (q e) w/\∀b,Instr.sameNow d kv m.key=Δ b->b=q e)->
      ∃ r,((r=Θ/\es.findIdx? q=Θ)\/∃i e m,r=Δ (j+i,m.val)/\es.findIdx? q=Δ i/\es[i]?=Δ e/\ms[i]?=Δ m/\q e=true)/\(Instr.findAsking kt kv ms j).run P w=.ok r w∧
        ∀n,Instr.findNow d kv ms j=Δ n->n=r:=by
    intro es;induction es with
    | nil=>
      intro ms j o _;cases ms with
      |cons m ms=>simp at o
      |nil=>simp_all[Instr.findAsking,Instr.findNow]
    | cons e es H=>
      intro ms j o g;cases ms with
      |nil=>simp at o
      | cons m ms=>
        obtain⟨t,p⟩:=g 0 e m rfl rfl;cases l:q e with
        | true=>
          rw[l]at t p;refine⟨Δ (j,m.val),.inr ⟨0,e,m,rfl,δ,rfl,rfl,l⟩,?_,λn h=>?_⟩
          . simp_all[Instr.findAsking]
          . unfold Instr.findNow at h
            grind
        | false=>
          rw[l]at t p;obtain⟨r,E,h4,X⟩:=H ms (j+1) δ λi B u a f=>g (i+1) B u a f;refine⟨r,?_,?_,λn h=>?_⟩
          . rcases E with⟨V,U⟩|⟨i,B,u,V,U,S,R,A⟩
            . grind
            . exact .inr ⟨i+1,B,u,δ,δ,S,R,A⟩
          . simp_all[Instr.findAsking]
          . unfold Instr.findNow at h
            grind
  obtain⟨r,t,p,E⟩:=res es ms 0 o λi e m a f=>⟨eqrun i e m a f,λb=>same i e m b a f⟩
  refine⟨r,?_,?_⟩
  . unfold Instr.findKey
    simp only[Sem.run_bind,yy C,Result.andThen_ok];cases W:Instr.findNow d kv ms 0 with
    |none=>exact p
    |some n=>simp_all
  grind
def Fc(i:TI):AV:=bif Dn i.ty then .agg (i.zero.map AV.s)else match i.zero with|v::_=>.s v|[]=>.any
def zim{t:TypeId}{i:TI}(h:TIok P t i)(w:World)(T:BB):∃z,(zeroValue t).run P w=.ok z w/\VRel w T (Fc i) z:=by
  obtain⟨a,e,_,_,z,d,g⟩:=h.info;refine⟨z,by simp[zeroValue,typeInfo,e,d],?_⟩;unfold Fc;rcases h.zag a z e d with⟨b,j,rfl⟩|⟨b,f⟩
  . rw[b]
    refine Mu ?_;have:i.zero=j.toList:=g.symm;rw[this];exact Reads.map_s _
  . rw[b,f]
    exact .s _
end
section
variable {P:Program} {c:Cfg} {w:World} {st:Store} {Oth M:BB}
theorem Ob{b:Nat}{d:Obj}(a:Obj)(e:w.heap[b]?=Δ d):(w.heap.setIfInBounds b a)[b]?=Δ a:=δ
def yoe{b d:Nat}(a:Obj)(h:d≠b):(w.heap.setIfInBounds b a)[d]?=w.heap[d]?:=δ
theorem D2{r:Nat}{b:Array MapEntry}{a:Nat}(d:w.heap[r]?=Δ (.map b a)):(getObj r).run P w=.ok (.map b a) w:=by simp[getObj,Sem.run,d]
theorem Ps{r:Nat}{d:Array MapEntry}{a:Nat}(o:Obj)(b:w.heap[r]?=Δ (.map d a)):(setObj r o).run P w=.ok () {w with heap:=w.heap.setIfInBounds r o}:=by simp[setObj,Sem.run,b]
def Mo:Obj->Prop
  |.cells ..=>False
  |_=>True
theorem zhb{b:Nat}{d e:Obj}(h:w.heap[b]?=Δ d)(f:Mo d)(g:Mo e)(a:Addr):World.cell? {w with heap:=w.heap.setIfInBounds b e} a=w.cell? a:=by grind[World.cell?,Mo]
def Mb{b:Nat}{a new:Obj}(f:w.heap[b]?=Δ a)(i:Mo a)(j:Mo new)(T:BB):Keeps w T {w with heap:=w.heap.setIfInBounds b new} T where
  cell g o c k _:=by rw[zhb f i j];exact k
  out _ _ _ _ h:=h
  shp g c e fr h:=by
    by_cases d:g=b
    . subst d;rw[f]at h;cases h;trivial
    grind
def M4(sto:StoreOK st Oth M w){b:Nat}{f new:Obj}{x y:AObj}(v:st.obj b=Δ x)(i:w.heap[b]?=Δ f)(l:Mo f)(n:Mo new)
    (D:ObjRel {w with heap:=w.heap.setIfInBounds b new} (λb o=>M b o\/Oth b o) y b):
    StoreOK (st.sO b y) Oth M {w with heap:=w.heap.setIfInBounds b new}/\Chg M w M {w with heap:=w.heap.setIfInBounds b new}:=by
  have B:=Mb i l n (λb o=>M b o\/Oth b o);have C:=(sto.obj b x v).2;refine⟨{obj:=λa z k=>?_,tok:=λa j A=>?_,mlt:=λa o g=>?_,olt:=λa o g=>?_,dis:=sto.dis},?_⟩
  . by_cases d:a=b
    . grind[zd]
    . rw[zi d]at k
      exact⟨ObjRel.same (sto.obj a z k).1 B (yoe new d),(sto.obj a z k).2⟩
  . obtain⟨c,e,u,t,E⟩:=sto.tok a j A
    have d:a≠b:=λe=>by rw[e,i]at t;cases t;trivial
    grind
  . have:=sto.mlt a o g;grind
  . have:=sto.olt a o g;grind
  . exact { size:=φ
            keep:=λa o p _=>zhb i l n _
            blk:=λa p g=>by have d:a≠b:=λe=>g 0 (e▸C 0);grind
            shp:=λa c e u h=>(Mb i l n (λ_ _=>False)).shp a c e u h
            sub:=λ_ _ h _=>h
            tape:=rfl,os:=rfl,output:=rfl}
theorem zfp{α:Type}{q:α->Bool}:∀{l:List α} {i:Nat} {e:α},l.findIdx? q=Δ i->l[i]?=Δ e->l.find? q=Δ e:=by
  intro l;induction l with
  |nil=>simp
  | cons a l ih=>
    intro i e h he;rw[List.findIdx?_cons]at h;cases hq:q a with
    |true=>grind
    | false=>
      rw[hq]at h;simp only[Fan,if_false,Option.map_eq_some_iff]at h;grind
theorem yqo{α:Type}{q:α->Bool}{l:List α}(h:l.findIdx? q=Θ):l.find? q=Θ:=δ
def Gl(ok:Bool)(z:AV)(r:Option (AV×AV)):AV:=
  match ok,r with
  |true,Δ e=>.tup [e.2,.s (.bool true)]
  |true,Θ=>.tup [z,.s (.bool false)]
  |false,Δ e=>e.2
  |false,Θ=>z
def sd{T:BB}{x:AV}{v:Value}(b:Bool)(h:VRel w T x v):VRel w T (.tup [x,.s (.bool b)]) (.tuple #[v,.bool b]):=
  Ah (Reads.cons h (Reads.cons (.s _) Reads.nil))
theorem Hg{T:BB}{x y:AV}{a:List Value}(h:Reads w T [x,y] a):∃u v,a=[u,v]/\VRel w T x u/\VRel w T y v:=by
  obtain⟨d,b⟩:=h
  match a,d with
  |[u,v],_=>exact⟨u,v,rfl,b 0 x u rfl rfl,b 1 y v rfl rfl⟩
theorem zby{T:BB}{x y z:AV}{a:List Value}(h:Reads w T [x,y,z] a):∃u v t,a=[u,v,t]/\VRel w T x u/\VRel w T y v/\VRel w T z t:=by
  obtain⟨d,b⟩:=h
  match a,d with
  |[u,v,t],_=>exact⟨u,v,t,rfl,b 0 x u rfl rfl,b 1 y v rfl rfl,b 2 z t rfl rfl⟩
theorem Lq{T:BB}{x:AV}{a:List Value}(h:Reads w T [x] a):∃u,a=[u]/\VRel w T x u:=by
  obtain⟨d,b⟩:=h
  match a,d with
  |[u],_=>exact⟨u,rfl,b 0 x u rfl rfl⟩
def Bi{o:Oper}{t j e:TypeId}{x K:Operand}{ok:Bool}(A:o.op=.lookup t x K ok){it ie ik:TI}(hit:c.I t=Δ it)(L:it.ty=.map j e)(Q:c.I e=Δ ie)(ε:c.I j=Δ ik)
    {m T:Nat} {n:List (AV×AV)} {bs:List Nat} {k:AV} (hm:st.obj m=Δ (.map n bs T)) (hk:Rr c.I j k=true) (q:AV×AV->Bool) (hq:∀e∈n,Gt c.I 5 j k e.1=Δ (q e))
    {R:Ja} (h:R (Gl ok (Fc ie) (n.find? q)) st):AEff P c o [.s (.map (Δ m)),k] st R:=by
  refine⟨λOth M w ρ C sto hr=>?_⟩;rw[A]at hr;have hr:Reads w (λb o=>M b o\/Oth b o) [.s (.map (Δ m)),k] [ρ x,ρ K]:=θ1;obtain⟨u,v,he,g,S⟩:=Hg hr;simp only[Fck,and_true]at he;obtain⟨l,hv⟩:=he;rw[<-l]at g;rw[<-hv]at S;have g:=VRel.eq_s g;obtain⟨⟨H,D,g2,X,g4⟩,hM⟩:=sto.obj m _ hm;obtain⟨r,B,r2⟩:=oi (kt:=j) (k:=k) (kv:=ρ K) C S q (es:=n) (ms:=H.toList) Z (λi x y hx hy=>(X i x y hx δ).1) hq δ;obtain⟨z,V,U⟩:=zim (C _ _ Q) w (λb o=>M b o\/Oth b o);have d:=pk C hk S H.isEmpty;have l:=yy (P:=P) (Li (C _ _ hit) L)
  have done:∀f:Value,VRel w (λb o=>M b o\/Oth b o) (Gl ok (Fc ie) (n.find? q)) f->(execOp ρ o).run P w=.ok (.value f) w->
      match(execOp ρ o).run P w with
      |.ok (.value v) E=>xg st R Oth M w v E
      |.ok .skip E=>o.dst=Θ/\xg st R Oth M w (.tuple #[]) E
      |_=>False:=by
    intro f a p;rw[p];exact⟨_,st,M,h,a,sto,Chg.refl _ _⟩
  rcases r2 with⟨rfl,G⟩|⟨i,en,me,rfl,G,W,r5,r6⟩
  . rw[yqo G]at done
    cases ok with
    |true=>exact done _ (sd false U) (by simp[execOp,A,Instr.lookup,l,g,D2 D,d,B,V])
    |false=>exact done _ U (by simp[execOp,A,Instr.lookup,l,g,D2 D,d,B,V])
  . have a:=(X i en me W δ).2
    rw[zfp G W]at done;cases ok with
    |true=>exact done _ (sd true a) (by simp[execOp,A,Instr.lookup,l,g,D2 D,d,B])
    |false=>exact done _ a (by simp[execOp,A,Instr.lookup,l,g,D2 D,d,B])
def m6:AV->Bool
  |.s (.int _ _)=>true
  |.s (.bool _)=>true
  |.agg a=>a.all λ|.s (.int _ _)=>true|_=>false
  |_=>false
theorem zea{T E:BB}{A:World}{k:AV}{u v:Value}(p:m6 k=true)(l:VRel w T k u)(j:VRel A E k v):u=v/\∀n,Instr.sameBits (n+1) u u=true:=by
  unfold m6 at p;split at p
  . rw[VRel.eq_s l,VRel.eq_s j];simp_all[Instr.sameBits]
  . rw[VRel.eq_s l,VRel.eq_s j];simp_all[Instr.sameBits]
  . rename_i b
    obtain⟨o,rfl,g⟩:=G8 l;obtain⟨z,rfl,t⟩:=G8 j;have hint:∀(i:Nat) (y:AV),b[i]?=Δ y->∃k n,y=.s (.int k n):=by intro i y h;have:=Fcm.1 p y (Fa4 h);grind
    have f:o=z:=by
      apply Array.ext_getElem?;intro i;have D:=g.1;have C:=t.1;simp only[Fco]at D C;by_cases d:i<Γ b
      . obtain⟨k,n,h⟩:=hint i b[i] (Fac d)
        have B:=g.2 i b[i] o[i] (Fac d) φ;have I:=t.2 i b[i] z[i] (Fac d) φ;grind[VRel.eq_s]
      grind
    refine⟨by rw[f],λn=>?_⟩;have hall:∀y∈o.toList,∃k n,y=.int k n:=by
      intro y h;obtain⟨i,d,rfl⟩:=Faj h;have e:i<Γ b:=by rw[g.1];exact d
      obtain⟨k,n,H⟩:=hint i b[i] (Fac e);have B:=g.2 i b[i] _ (Fac e) (Fac d);grind[VRel.eq_s]
    rw[Instr.sameBits];simp only[beq_self_eq_true,Bool.true_and];generalize o.toList=L at hall;clear f g t l j;induction L with
    |nil=>simp
    | cons a L G=>
      obtain⟨k,m,rfl⟩:=hall a φ;simp_all[Instr.sameBits]
  grind
def Aa(b:List (AV×AV))(d:List Nat)(a:Nat)(q:AV×AV->Bool)(k v:AV):AObj:=
  match b.findIdx? q with
  |some i=>.map (b.set i (k,v)) d a
  |none=>.map (b++[(k,v)]) (d++[a]) (a+1)
def F6{o:Oper}{t D e:TypeId}{x g y:Operand}(z:o.op=.mapUpdate t x g y\/o.op=.insert t x g y)(hd:o.dst=Θ){it ik:TI}(hit:c.I t=Δ it)(U:it.ty=.map D e)(ν:c.I D=Δ ik)
    {m clk:Nat} {es:List (AV×AV)} {bs:List Nat} {k v:AV} (hm:st.obj m=Δ (.map es bs clk)) (hk:Rr c.I D k=true) (K:m6 k=true) (q:AV×AV->Bool) (hq:∀e∈es,Gt c.I 5 D k e.1=Δ (q e))
    (W:∀e∈es,q e=true->e.1=k) {R:Ja} (h:R (.tup []) (st.sO m (Aa es bs clk q k v))):AEff P c o [.s (.map (Δ m)),k,v] st R:=by
  refine⟨λOth M w ρ hI sto X=>?_⟩;have hops:o.op.operands=#[x,g,y]:=by rcases z with z|z<;>rw[z]<;>rfl
  rw[hops]at X;have X:Reads w (λb o=>M b o\/Oth b o) [.s (.map (Δ m)),k,v] [ρ x,ρ g,ρ y]:=δ;obtain⟨u,v',t',he,Q,B,h3⟩:=zby X;simp only[Fck,and_true]at he;obtain⟨hu,hv,V⟩:=he;rw[<-hu]at Q;rw[<-hv]at B;rw[<-V]at h3;have Q:=VRel.eq_s Q;obtain⟨⟨p,n,g2,S,g4,g5,g6⟩,hM⟩:=sto.obj m _ hm;obtain⟨r,r1,r2⟩:=oi (kt:=D) (k:=k) (kv:=ρ g) hI B q (es:=es) (ms:=p.toList) Z (λi x y f d=>(S i x y f δ).1) hq δ;have L:=pk hI hk B false;have hund:=yy (P:=P) (Li (hI _ _ hit) U)
  have done:∀l,(execOp ρ o).run P w=.ok .skip l->(StoreOK (st.sO m (Aa es bs clk q k v)) Oth M l/\Chg M w M l)->
      match(execOp ρ o).run P w with
      |.ok (.value v) l=>xg st R Oth M w v l
      |.ok .skip l=>o.dst=Θ/\xg st R Oth M w (.tuple #[]) l
      |_=>False:=by
    intro l G H;rw[G];exact⟨hd,_,_,M,h,Ah Reads.nil,H.1,H.2⟩
  have hexec:(execOp ρ o).run P w=((Instr.mapUpdate t (ρ x) (ρ g) (ρ y)).run P w).andThen λ_ l=>.ok .skip l:=by rcases z with z|z<;>simp[execOp,z]
  rcases r2 with⟨rfl,T⟩|⟨i,en,me,rfl,T,r4,r5,r6⟩
  . refine done {w with heap:=w.heap.setIfInBounds m (.map (p.push {key:=ρ g,val:=ρ y,born:=clk}) (clk+1))} ?_ ?_
    . rw[hexec]
      simp[Instr.mapUpdate,hund,Q,D2 n,L,r1,Ps _ n]
    . refine M4 sto hm n trivial trivial ?_
      unfold Aa;rw[T];have a:=Mb (new:=.map (p.push {key:=ρ g,val:=ρ y,born:=clk}) (clk+1)) n trivial trivial (λb o=>M b o\/Oth b o);refine⟨_,Ob _ n,by simp[g2],λi E C f d=>?_,by simp[g4],λt ht=>?_,?_⟩
      . by_cases hi:i<Γ es
        . rw[Far hi]at f
          rw[Array.getElem?_push_lt Z]at d;have d:p[i]?=Δ C:=δ;exact⟨(S i E C f d).1.keep a,(S i E C f d).2.keep a⟩
        . rw[Fa0 Z]at f
          have η:i=Γ es:=δ;subst η;rw[g2,Array.getElem?_push_size]at d;simp at f d;subst f d;exact⟨B.keep a,h3.keep a⟩
      . grind
      grind
  . have ε:p[i]?=Δ me:=by grind
    have hkey:me.key=ρ g:=by grind[zea]
    have ι:=(zea K B B).2 9999;have hstay:(Instr.keyThatStays (((p[i]?).map (·.key)).getD (ρ g)) (ρ g)).run P w=.ok (ρ g) w:=by simp_all[Instr.keyThatStays]
    refine done {w with heap:=w.heap.setIfInBounds m (.map (p.modify i λe=>{e with key:=ρ g,val:=ρ y}) clk)} ?_ ?_
    . rw[hexec]
      simp only[Instr.mapUpdate,Sem.run_bind,hund,Result.andThen_ok,Q,D2 n,L,r1,hstay,Ps _ n]
    . refine M4 sto hm n trivial trivial ?_
      unfold Aa;rw[T];have a:=Mb (new:=.map (p.modify i λe=>{e with key:=ρ g,val:=ρ y}) clk) n trivial trivial (λb o=>M b o\/Oth b o);refine⟨_,Ob _ n,by simp[g2],λj E C f d=>?_,?_,g5,g6⟩
      . rw[Fc4]at d
        by_cases A:i=j
        . subst A
          rw[if_pos rfl,ε]at d;simp at d;rw[List.getElem?_set_self (Fa1.1 r4).1]at f;simp at f;subst f d;exact⟨B.keep a,h3.keep a⟩
        . rw[if_neg A]at d
          rw[List.getElem?_set_ne A]at f;exact⟨(S j E C f d).1.keep a,(S j E C f d).2.keep a⟩
      . rw[g4]
        apply Fcd;grind
end
end Go.V
