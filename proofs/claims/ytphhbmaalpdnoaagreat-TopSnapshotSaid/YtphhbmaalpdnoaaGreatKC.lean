/- Ground of laws of throngtop: contracts and plain lemmas; no condition beyond the row's own. -/
import Derived.MapKept
import Derived.Test.YtphhbmaalpdnoaaGreatKB
set_option linter.unusedSimpArgs false
set_option linter.unusedVariables false
set_option linter.defProp false
namespace Go.V
section
variable {P:Program} {c:Cfg}
theorem V8{ev ev':Operand->LV}{l:List Operand}(h:∀x∈l,ev' x=ev x):
    (l.mapM λx=>(ev' x).toAV)=(l.mapM λx=>(ev x).toAV):=by
  induction l with
  |nil=>rfl
  | cons a l ih=>
    grind
theorem yhz{ev ev':Operand->LV}{x:Option Operand}(h:∀y∈x.toArray,ev' y=ev y):Gl ev' x=Gl ev x:=by
  cases x with
  |none=>rfl
  |some y=>simp only[Gl];grind
theorem rh{ev:Operand->LV}{bx:Nat->Option (List AV)}{st:Store}{d:Nat}{op:Op}{K K':LV->Prop}(hI:y9 P c.I)(hK:∀x,K x->K' x)(h:vcV c ev bx st d op K):vcV c ev bx st d op K':=by obtain⟨x,hx,hx',_⟩:=df hI op h;grind
theorem ri{ev ev':Operand->LV}{bx:Nat->Option (List AV)}{st:Store}{d:Nat}{op:Op}{K:LV->Prop}(h:∀x∈op.operands,ev' x=ev x)(hv:vcV c ev bx st d op K):vcV c ev' bx st d op K:=by
  cases op<;>simp only[Op.operands]at h<;>first|exact hv|skip
  case move x=>simp_all[vcV]
  case assign x=>simp_all[vcV]
  case pick a b e=>simp_all[vcV]
  case load t x=>simp_all[vcV]
  case nilCheck x=>simp_all[vcV]
  case binOp op t x y yt=>simp_all[vcV]
  case unOp op t x=>simp_all[vcV]
  case convert s t x=>simp_all[vcV]
  case fieldAddr s x f=>simp_all[vcV]
  case field s x f=>simp_all[vcV]
  case indexAddr t x i=>simp_all[vcV]
  case index t x i=>simp_all[vcV]
  case extract x i=>simp_all[vcV]
  case slice t x lo hi mx=>
    simp_all[vcV,yhz]
  case build t ps=>
    simp only[vcV]at hv⊢;have e:(ps.toList.map λp=>(p.1,ev' p.2))=(ps.toList.map λp=>(p.1,ev p.2)):=Fb0 λp hp=>δ
    rwa [e]
  case makeFunc f first cap=>
    cases f<;>simp only[vcV]at hv⊢<;>try exact hv
    have e:first.toList.mapM (λx=>(ev' x).toV)=first.toList.mapM λx=>(ev x).toV:=by
      have:∀l:List Operand,(∀x∈l,ev' x=ev x)->l.mapM (λx=>(ev' x).toV)=l.mapM λx=>(ev x).toV:=λl=>by
        induction l with
        |nil=>intro _;rfl
        |cons a l ih=>intro hl;rw[List.mapM_cons,List.mapM_cons,hl a φ,ih λx hx=>hl x (by simp[hx])]
      exact this _ λx hx=>h x (by simp;exact .inl θj)
    rwa [V8 (ev:=ev) (ev':=ev') λx hx=>h x (by simp;exact .inr θj),e]
  case call cl=>
    obtain⟨callee,args,argTypes⟩:=cl;simp only[vcV,Kb]at hv⊢;cases callee with
    |value f=>exact hv
    |invoke r m=>exact hv
    | builtin b=>
      have ha:∀x∈args,ev' x=ev x:=λx hx=>h x (by simp[Call.operands,hx]);cases b<;>simp only at hv⊢<;>try exact hv
      case len=>
        obtain⟨t,ht,hv⟩:=zr hv;obtain⟨i,hi,hv⟩:=zr hv;obtain⟨x,hx,hv⟩:=zr hv;refine za t ht (za i hi (za x hx ?_))
        rwa [ha x (Fdx hx)]
      case cap=>
        obtain⟨t,ht,hv⟩:=zr hv;obtain⟨i,hi,hv⟩:=zr hv;obtain⟨x,hx,hv⟩:=zr hv;refine za t ht (za i hi (za x hx ?_))
        rwa [ha x (Fdx hx)]
      case min=>rwa [show args.toList.map ev'=args.toList.map ev from Fb0 λx hx=>ha x θj]
      case max=>rwa [show args.toList.map ev'=args.toList.map ev from Fb0 λx hx=>ha x θj]
def Mr:Op->Bool
  |.load ..=>false
  |.call cl=>match cl.callee with|.builtin .min=>true|.builtin .max=>true|_=>false
  |_=>true
theorem rg{ev:Operand->LV}{bx bx':Nat->Option (List AV)}{st st':Store}{d:Nat}{op:Op}{K:LV->Prop}(hn:Mr op=true)(hv:vcV c ev bx st d op K):vcV c ev bx' st' d op K:=by
  cases op<;>first|exact hv|skip
  case load t x=>simp[Mr]at hn
  case call cl=>
    obtain⟨callee,args,argTypes⟩:=cl;cases callee with
    |value f=>exact hv
    |invoke r m=>exact hv
    |builtin b=>cases b<;>simp[Mr]at hn<;>exact hv
def bsK(c:Cfg)(ev:Operand->LV)(t:TypeId)(n:Nat)(parts:Array (Nat×Operand))(K:LV->Prop):Prop:=
  optK (c.I t) λi=>match i.ty with
    | .slice e=>optK (c.I e) λie=>optK (Io ie.size n (List.replicate n (Cf ie)) (parts.toList.map λp=>(p.1,ev p.2))) λrows=>
      bif rows.flatten.all AV.one then n*ie.size<=16777216/\(match rows with
        |[]=>K (.av .emp)
        |_::_=>K (.av (.lst ie.size rows none)))else False
    |_=>False
def vcW(c:Cfg)(ev:Operand->LV)(bx:Nat->Option (List AV))(st:Store)(d:Nat)(op:Op)(K:LV->Prop):Prop:=
  match op with
  |.buildSlice t n parts=>bsK c ev t n parts K
  |op=>vcV c ev bx st d op K
theorem zf2{ev:Operand->LV}{t:TypeId}{n:Nat}{parts:Array (Nat×Operand)}{K:LV->Prop}(h:bsK c ev t n parts K):
    ∃ (i ie:TI) (e:TypeId) (rows:List (List AV)) (x:LV),c.I t=some i/\i.ty=.slice e/\c.I e=some ie/\Io ie.size n (List.replicate n (Cf ie)) (parts.toList.map λp=>(p.1,ev p.2))=some rows/\rows.flatten.all AV.one=true∧
      n*ie.size<=16777216/\x=(match rows with|[]=>.av .emp|_::_=>.av (.lst ie.size rows none))/\K x/\∀K':LV->Prop,K' x->bsK c ev t n parts K':=by
  obtain⟨i,hi,h⟩:=zr h;split at h
  · rename_i e hty
    obtain⟨ie,hie,h⟩:=zr h;obtain⟨rows,hrows,h⟩:=zr h;cases hone:rows.flatten.all AV.one with
    |false=>rw[hone]at h;exact h.elim
    | true=>
      rw[hone]at h;obtain⟨hroom,h⟩:=h;refine⟨i,ie,e,rows,_,hi,hty,hie,hrows,hone,hroom,rfl,by cases rows<;>exact h,λK' h'=>?_⟩;refine za i hi ?_;simp only[hty];refine za ie hie (za rows hrows ?_);rw[hone];exact⟨hroom,by cases rows<;>exact h'⟩
  · exact h.elim
theorem de{ev ev':Operand->LV}{bx:Nat->Option (List AV)}{st:Store}{d:Nat}{op:Op}{K:LV->Prop}(h:∀x∈op.operands,ev' x=ev x)(hv:vcW c ev bx st d op K):vcW c ev' bx st d op K:=by
  cases op<;>first|exact ri h (show vcV c ev bx st d _ K from hv)|skip
  case buildSlice t n parts=>
    have e:(parts.toList.map λp=>(p.1,ev' p.2))=(parts.toList.map λp=>(p.1,ev p.2)):=Fb0 λp hp=>by rw[h p.2 (by simp[Op.operands];exact⟨p.1,by simpa using hp⟩)]
    simp only[vcW]at hv⊢;unfold bsK at hv⊢
    rwa [e]
theorem zih{ev:Operand->LV}{bx bx':Nat->Option (List AV)}{st st':Store}{d:Nat}{op:Op}{K:LV->Prop}(hn:Mr op=true)(hv:vcW c ev bx st d op K):vcW c ev bx' st' d op K:=by
  cases op<;>first|exact rg hn (show vcV c ev bx st d _ K from hv)|exact hv|skip
  case call cl=>exact rg (bx:=bx) (bx':=bx') (d:=d) hn hv
end
inductive Sched where
  |done
  |v (i:Nat) (r:Sched)
  |e (i:Nat) (chk:List Nat) (r alt:Sched)
  |stop
def sv:List Nat->Sched->Sched
  |[],s=>s
  |i::l,s=>.v i (sv l s)
def isV(c:Cfg)(o:Oper):Bool:=
  match o.op with
  |.alloc _=>false
  |.box _ _=>false
  |.store _ _ _=>false
  |.assign _=>false
  |.convert s t _=> !Nat.beq s t
  |.buildSlice _ _ _=>match o.dst with|some d=> !c.G.contains d|none=>false
  | .call cl=>match cl.callee with
    |.builtin .len=>true
    |.builtin .cap=>true
    |.builtin .min=>true
    |.builtin .max=>true
    |_=>false
  |.mapUpdate ..|.insert ..|.mapEntry ..|.entryStore ..|.makeMap ..|.makeSlice ..|.lookup ..|.range ..|.next ..|.entry ..|.makeInterface ..|.typeAssert ..|.select ..|.go ..|.defer ..|.panic ..|.send ..|.recv ..|.ready ..|.waits ..|.makeChan ..=>false
  |_=>true
def jj(ops:Array Oper)(i:Nat):List Nat:=
  match ops[i]? with
  |some o=>o.after.toList.filterMap λe=>bif Region.binds .any e then some e.on else none
  |none=>[]
def mem(i:Nat):List Nat->Bool
  |[]=>false
  |j::l=>bif Nat.beq i j then true else mem i l
theorem mem_iff(i:Nat):∀(l:List Nat),mem i l=true↔i∈l:=by
  intro l;induction l with
  |nil=>simp[mem]
  | cons j l ih=>
    simp_all[mem]
def sub(l m:List Nat):Bool:=l.all λi=>mem i m
def Ro:Sched->List Nat
  |.e i _ _ alt=>i::Ro alt
  |_=>[]
def O2(ops:Array Oper)(i:Nat):List Nat:=
  (List.range i).reverse.foldl (λacc j=>bif mem j acc then jj ops j++acc else acc) (jj ops i)
def Pz(c:Cfg)(ops:Array Oper)(i:Nat)(chk L:List Nat):Bool:=
  !mem i L&&Nat.blt i ops.size&&sub (jj ops i) L&&(match ops[i]? with|some o=> !isV c o|none=>false)&&
  L.all λj=>mem j (O2 ops i)||mem j chk||(match ops[j]?,ops[i]? with
    |some o,some o'=> !isV c o||(Mr o.op&&(match o'.op with|.alloc _=>false|.box _ _=>false|_=>true))
    |_,_=>false)
def Ar(c:Cfg)(ops:Array Oper):Sched->List Nat->Bool->Bool
  |.done,L,first=>first&&(List.range ops.size).all λi=>mem i L
  |.v i r,L,first=>first&&(!mem i L&&Nat.blt i ops.size&&(match ops[i]? with|some o=>isV c o|none=>false)&&sub (jj ops i) L&&Ar c ops r (i::L) true)
  |.e i chk r alt,L,first=>Pz c ops i chk L&&Ar c ops r (i::L) true&&Ar c ops alt L false&&
      (!first||(List.range ops.size).all λj=>mem j L|| !sub (jj ops j) L||mem j (i::Ro alt))
  |.stop,_,first=> !first
def Dy(c:Cfg)(ops:Array Oper):Bool:=
  (List.range ops.size).all λi=>match ops[i]? with
    |none=>false
    | some o=>(jj ops i).all (λj=>Nat.blt j i)&&(match o.op with|.select ..=>false|.defer ..=>false|_=>true)&&(match o.dst with
      |none=> !isV c o
      | some t=>Nat.blt t c.n&& !mem t (o.looksAt ops)&&
        (List.range ops.size).all λk=>Nat.beq k i||(match ops[k]? with
          |none=>false
          |some o'=>(match o'.dst with|some t'=> !Nat.beq t t'|none=>true)&&(!mem t (o'.looksAt ops)||mem i (jj ops k)||(!isV c o&&mem k (jj ops i)))))
def Iz(ops:Array Oper)(o:Oper)(A:Fr)(go skip:Fr->Prop):Prop:=
  match o.guard with
  |none=>go A
  | some (j,want)=>optK ((ops[j]?).bind (·.dst)) λt=>
    match A.t t with
    |.av (.s (.bool b))=>Dm b (bif want then go (A.put t (jv true))else skip (A.put t (jv true))) (bif want then skip (A.put t (jv false))else go (A.put t (jv false)))
    |.und=>skip A
    |_=>False
def stands(c:Cfg)(ops:Array Oper)(A:Fr)(st:Store)(i:Nat):Prop:=
  optK ops[i]? λo=>optK o.dst λd=>Iz ops o A (λA=>vcW c A.ev A.bx st d o.op λx=>x=A.t d) (λA=>A.t d=.und)
def Kk(c:Cfg)(ops:Array Oper)(A:Fr)(st:Store):List Nat->Prop
  |[]=>True
  |i::l=>stands c ops A st i/\Kk c ops A st l
def w9(P:Program)(c:Cfg)(ops:Array Oper)(K:Fr->Store->Prop):Sched->Fr->Store->Prop
  |.done,A,st=>K A st
  |.v i r,A,st=>optK ops[i]? λo=>optK o.dst λd=>
      Iz ops o A (λA=>vcW c A.ev A.bx st d o.op λx=>w9 P c ops K r (A.put d x) st) (λA=>w9 P c ops K r (A.put d .und) st)
  |.e i chk r alt,A,st=>(optK ops[i]? λo=>
      Iz ops o A (λA=>Dr P c o (λA' st'=>Kk c ops A' st' chk/\w9 P c ops K r A' st') A st)
        (λA=>xf A c.n o.dst .und λA'=>Kk c ops A' st chk/\w9 P c ops K r A' st))/\w9 P c ops K alt A st
  |.stop,_,_=>True
section
variable {P:Program} {c:Cfg} {ops:Array Oper}
def By(ops:Array Oper)(o:Oper)(A:Fr):Option Bool:=
  match o.guard with
  |none=>some true
  | some (j,want)=>match(ops[j]?).bind (·.dst)with
    |none=>none
    | some t=>match A.t t with
      |.av (.s (.bool b))=>some (b==want)
      |.und=>some false
      |_=>none
theorem guardK_iff{o:Oper}{A:Fr}{go skip:Fr->Prop}:Iz ops o A go skip↔(By ops o A=some true/\go A)\/(By ops o A=some false/\skip A):=by
  unfold Iz By;cases hg:o.guard with
  |none=>simp
  | some jw=>
    obtain⟨j,want⟩:=jw;simp only;cases hd:(ops[j]?).bind (·.dst)with
    |none=>simp[optK]
    | some t=>
      simp only[optK];generalize hy:A.t t=y;split
      · rename_i b
        cases b with
        |true=>grind[Fr.put_self,jv,Dm]
        |false=>grind[Fr.put_self,jv,Dm]
      · simp
      simp
theorem Wr{o:Oper}{B:Fr}{st:Store}{n:SN}{Oth M:Nat->Nat->Prop}{a:Act}{w:World}(sim:Sim n Oth B st M a w){b:Bool}(h:By ops o B=some b):Region.wanted o (yielded ops a.tmps)=b:=by
  obtain⟨β,s⟩:=sim;unfold By at h;unfold Region.wanted;cases hg:o.guard with
  |none=>grind
  | some jw=>
    obtain⟨j,want⟩:=jw;rw[hg]at h;simp only at h⊢;cases hd:(ops[j]?).bind (·.dst)with
    |none=>grind
    | some t=>
      rw[hd]at h;simp only at h;have hs:=s.tm t;split at h
      · rename_i b' hb
        simp at h;rw[hb]at hs;rw[zdi hd (VRel.eq_s hs),<-h];simp
      · rename_i hb
        simp at h;rw[hb]at hs;rw[zdh hd hs,h];rfl
      · cases h
theorem nn{b:Bool}{p:Prop}(h:bif b then p else False):b=true/\p:=by grind
theorem zfc{b:Bool}{p:Prop}(hb:b=true)(h:p):bif b then p else False:=by grind
def qj(A:Fr)(D:List Nat):Fr:=⟨λt=>bif mem t D then .any else A.t t,A.bx⟩
theorem Il{t:Nat}{D:List Nat}(h:t∉D):mem t D=false:=by grind[mem_iff]
theorem Wv{A:Fr}{D:List Nat}{t:Nat}(h:t∉D):(qj A D).t t=A.t t:=by simp[qj,Il h]
theorem ynq{A:Fr}{D:List Nat}{x:Operand}(h:∀t,x=.tmp t->t∉D):(qj A D).ev x=A.ev x:=by
  cases x with
  |tmp t=>exact Wv (h t rfl)
  |_=>rfl
theorem Hp{A:Fr}{D:List Nat}{d:Nat}(h:d∉D)(x:LV):(qj A D).put d x=qj (A.put d x) D:=by unfold qj Fr.put;grind[Il,qe]
theorem zdw{A:Fr}{D:List Nat}{d:Nat}(h:d∉D)(l:List AV):(qj A D).newBx d l=qj (A.newBx d l) D:=by
  unfold qj Fr.newBx
  congr
  funext i
  by_cases hi:i=d
  · subst hi;simp[Il h]
  · simp only[qe hi,cond_false]
    cases mem i D<;>rfl
def Fh(o:Oper)(A A':Fr):Prop:=(match o.op with|.alloc _=>False|.box _ _=>False|_=>True)->∀t,o.dst≠some t->A'.t t=A.t t
theorem Lb{o:Oper}{A:Fr}{d:Nat}{x:LV}(hd:o.dst=some d):Fh o A (A.put d x):=λ_ t ht=>by grind[Fr.put,qe]
theorem ll{o:Oper}{A:Fr}:Fh o A A:=λ_ _ _=>rfl
theorem zii(hI:y9 P c.I){o:Oper}{K:Fr->Store->Prop}{A:Fr}{st:Store}{D:List Nat}(h:Dr P c o K A st)(hop:∀x∈o.op.operands,∀t,x=.tmp t->t∉D)(hd:∀d,o.dst=some d->d∉D):
    Dr P c o (λB' st'=>∃A',K A' st'/\B'=qj A' D/\Fh o A A') (qj A D) st:=by
  have hev:∀x∈o.op.operands,(qj A D).ev x=A.ev x:=λx hx=>ynq (hop x hx);have hputO:∀(x:LV) (st':Store),(xf A c.n o.dst x λA'=>K A' st')->xf (qj A D) c.n o.dst x λB'=>∃A',K A' st'/\B'=qj A' D/\Fh o A A':=by
    intro x st' hx;unfold xf at hx⊢;cases hdst:o.dst with
    |none=>rw[hdst]at hx;exact⟨A,hx,rfl,ll⟩
    | some d=>
      rw[hdst]at hx;obtain⟨hlt,hx⟩:=Ax hx;simp only[show Nat.blt d c.n=true from Fb6 hlt,cond_true];grind[Hp,Lb]
  have hval:∀op',op'=o.op->(optK o.dst λd=>bif Nat.blt d c.n then vcV c A.ev A.bx st d op' (λx=>K (A.put d x) st)else False)->
      optK o.dst λd=>bif Nat.blt d c.n then vcV c (qj A D).ev (qj A D).bx st d op' (λx=>∃A',K A' st/\(qj A D).put d x=qj A' D/\Fh o A A')else False:=by
    rintro op' rfl hx;obtain⟨d,hdst,hx⟩:=zr hx;obtain⟨hlt,hx⟩:=Ax hx;refine za d hdst ?_;simp only[show Nat.blt d c.n=true from Fb6 hlt,cond_true];exact rh hI (λx hx=>⟨_,hx,Hp (hd d hdst) x,Lb hdst⟩) (ri hev hx)
  unfold Dr at h⊢;have hX:vcX P c o K A st->vcX P c o (λB' st'=>∃A',K A' st'/\B'=qj A' D/\Fh o A A') (qj A D) st:=by
    intro h;obtain⟨vs,hvs,h⟩:=zr h
    have e:(o.op.operands.toList.mapM λx=>((qj A D).ev x).toAV)=o.op.operands.toList.mapM λx=>(A.ev x).toAV:=
      V8 λx hx=>hev x δ
    refine za vs δ ⟨λOth M w ρ hI' sto hr=>?_⟩;have:=h.out Oth M w ρ hI' sto hr
    have hpost:∀v w',qy st (λr st'=>xf A c.n o.dst (.av r) λA'=>K A' st') Oth M w v w'->qy st (λr st'=>xf (qj A D) c.n o.dst (.av r) λB'=>∃A',K A' st'/\B'=qj A' D/\Fh o A A') Oth M w v w':=
      λv w' ⟨r,st',M',h1,h2⟩=>⟨r,st',M',hputO _ st' h1,h2⟩
    grind
  cases hx:isX o.op with
  |true=>grind
  |false=>
  rw[hx]at h;replace h:Ga P c o K A st:=h;change Ga P c o (λB' st'=>∃A',K A' st'/\B'=qj A' D/\Fh o A A') (qj A D) st;unfold Ga at h⊢;cases ho:o.op with
  | alloc t=>
    simp only[ho,Gu]at h⊢;obtain⟨i,hi,h⟩:=zr h;obtain⟨d,hdst,h⟩:=zr h;obtain⟨hlt,h⟩:=Ax h;refine za i hi (za d hdst ?_);simp only[show Nat.blt d c.n=true from Fb6 hlt,cond_true];cases hg:c.G.contains d with
    |true=>rw[hg]at h;exact λb hb=>⟨_,h b hb,Hp (hd d hdst) _,λhh=>δ⟩
    |false=>rw[hg]at h;exact⟨_,h,zdw (hd d hdst) _,λhh=>δ⟩
  | box t x=>
    simp only[ho]at h⊢;rw[ho]at hev;obtain⟨d,hdst,h⟩:=zr h;obtain⟨hlt,h⟩:=Ax h;refine za d hdst ?_;simp only[show Nat.blt d c.n=true from Fb6 hlt,cond_true];rw[hev x θq];split at h
    · obtain⟨l,hl,h⟩:=zr h
      refine za l hl ?_;cases hg:c.G.contains d with
      |true=>rw[hg]at h;exact λb hb=>⟨_,h b hb,Hp (hd d hdst) _,λhh=>δ⟩
      |false=>rw[hg]at h;exact⟨_,h,zdw (hd d hdst) _,λhh=>δ⟩
    omega
  | buildSlice t n parts=>
    simp only[ho]at h⊢;rw[ho]at hev;have e:(parts.toList.map λp=>(p.1,(qj A D).ev p.2))=(parts.toList.map λp=>(p.1,A.ev p.2)):=Fb0 λp hp=>by grind[Op.operands]
    rw[e];obtain⟨i,hi,h⟩:=zr h;obtain⟨d,hdst,h⟩:=zr h;obtain⟨hlt,h⟩:=Ax h;refine za i hi (za d hdst ?_);simp only[show Nat.blt d c.n=true from Fb6 hlt,cond_true];split at h
    · obtain⟨ie,hie,h⟩:=zr h
      obtain⟨rows,hrows,h⟩:=zr h;refine za ie hie (za rows hrows ?_);cases hone:rows.flatten.all AV.one with
      |false=>grind
      | true=>
        rw[hone]at h;simp only[cond_true]at h⊢;refine⟨h.1,?_⟩;replace h:=h.2;cases rows with
        |nil=>grind[Hp,Lb]
        | cons r rs=>
          cases hg:c.G.contains d with
          | true=>
            cases hg2:c.G.contains (d+1000000)with
            |true=>simp only[hg,hg2,cond_true]at h⊢;grind[Hp,Lb]
            |false=>simp only[hg,hg2,cond_true,cond_false]at h⊢;grind[Hp,Lb]
          |false=>simp only[hg,cond_false]at h⊢;grind[Hp,Lb]
    omega
  | store t p x=>
    simp only[ho]at h⊢;rw[ho]at hev;cases hdst:o.dst with
    |some d=>grind
    | none=>
      rw[hdst]at h;simp only[Option.isNone_none,cond_true]at h⊢;obtain⟨i,hi,h⟩:=zr h;refine za i hi ?_;rw[hev x θq];split at h
      · unfold Db at h⊢
        rw[hev p θq];obtain⟨xs,hxs,h⟩:=zr h;refine za xs hxs ?_;cases hb:(Nat.beq xs.length i.size&&xs.all AV.one)with
        |false=>grind
        | true=>
          rw[hb]at h;simp only[cond_true]at h⊢;split at h
          · rename_i k off hp
            obtain⟨l,hl,h⟩:=zr h;refine za l hl ?_;cases hb2:Nat.ble (off+xs.length) l.length with
            |false=>grind
            |true=>rw[hb2]at h;simp only[cond_true,Gu]at h⊢;exact⟨_,h,rfl,λ_ _ _=>rfl⟩
          · obtain⟨y,hy,h⟩:=zr h
            refine za y hy ?_;cases y with
            |cells l=>simp only[Gu]at h⊢;exact⟨h.1,_,h.2,rfl,ll⟩
            |map es bs clock=>omega
            |iter m since seen last=>omega
            |ghost o gh=>omega
          omega
      omega
  | binOp op t x y yt=>
    simp only[ho]at h⊢;have hev':=hev;rw[ho]at hev';unfold br at h⊢;rw[hev' x θq,hev' y θq];split at h
    · obtain⟨i,hi,h⟩:=zr h
      refine za i hi ?_;cases hty:i.ty with
      | slice e=>
        rw[hty]at h;cases op with
        |eql=>simp_all
        |neq=>simp_all
        |_=>omega
      |_=>grind
    grind
  | convert s t x=>
    simp only[ho]at h⊢;have hev':=hev;rw[ho]at hev';unfold bf at h⊢;rw[hev' x θq];split at h
    · obtain⟨hb,h⟩:=nn h
      refine zfc hb ?_;obtain⟨i,hi,h⟩:=zr h;refine za i hi ?_;split at h
      · obtain⟨ie,hie,h⟩:=zr h
        obtain⟨hu,h⟩:=nn h;obtain⟨top,htop,h⟩:=zr h;simp_all
      omega
    · exact hX h
    · exact hX h
    grind
  | call cl=>
    simp only[ho]at h⊢;have hev':=hev;rw[ho]at hev';cases hcl:cl.callee with
    | value f=>
      simp only[hcl]at h⊢;rw[hev' f (by simp[Op.operands,Call.operands,hcl])];split at h
      · obtain⟨vs,hvs,h⟩:=zr h
        have e:(cl.args.toList.mapM λx=>((qj A D).ev x).toAV)=cl.args.toList.mapM λx=>(A.ev x).toAV:=
          V8 λx hx=>hev' x ψj
        rw[e];refine za vs hvs ⟨λOth M w us sto hr=>?_⟩;have:=h.out Oth M w us sto hr
        have hpost:∀v w',qy st (λr st'=>xf A c.n o.dst (.av r) λA'=>K A' st') Oth M w v w'->qy st (λr st'=>xf (qj A D) c.n o.dst (.av r) λB'=>∃A',K A' st'/\B'=qj A' D/\Fh o A A') Oth M w v w':=
          λv w' ⟨r,st',M',h1,h2⟩=>⟨r,st',M',hputO _ st' h1,h2⟩
        generalize(callFunc _ us).run P w=res at*;cases res with
        |halt x w'=>trivial
        | ok nx w'=>
          cases nx with
          |enter f as=>exact Calls.mono this λe w'' ⟨v,he,hp⟩=>⟨v,he,hpost v w'' hp⟩
          |value v=>exact hpost v w' this
          |_=>trivial
      omega
    | invoke y m=>
      simp only[hcl]at h⊢;unfold Wd at h⊢;rw[hev' y (by simp[Op.operands,Call.operands,hcl])];split at h
      · obtain⟨vs,hvs,g,x,hm,h⟩:=zr h
        have e:(cl.args.toList.mapM λx=>((qj A D).ev x).toAV)=cl.args.toList.mapM λx=>(A.ev x).toAV:=
          V8 λx hx=>hev' x ψj
        rw[e];refine za vs hvs ⟨g,x,hm,⟨λOth M w us sto hr=>?_⟩⟩;have:=h.out Oth M w us sto hr
        have hpost:∀v w',qy st (λr st'=>xf A c.n o.dst (.av r) λA'=>K A' st') Oth M w v w'->qy st (λr st'=>xf (qj A D) c.n o.dst (.av r) λB'=>∃A',K A' st'/\B'=qj A' D/\Fh o A A') Oth M w v w':=
          λv w' ⟨r,st',M',h1,h2⟩=>⟨r,st',M',hputO _ st' h1,h2⟩
        generalize(callFunc _ us).run P w=res at*;cases res with
        |halt x w'=>trivial
        | ok nx w'=>
          cases nx with
          |enter f as=>exact Calls.mono this λe w'' ⟨v,he,hp⟩=>⟨v,he,hpost v w'' hp⟩
          |value v=>exact hpost v w' this
          |_=>trivial
      omega
    | builtin b=>
      cases b with
      | append=>
        simp only[hcl]at h⊢;obtain⟨t,ht,h⟩:=zr h;obtain⟨i,hi,h⟩:=zr h;obtain⟨s,hs,h⟩:=zr h;obtain⟨x,hx,h⟩:=zr h;refine za t ht (za i hi (za s hs (za x hx ?_)));rw[hev' s (by simp[Op.operands,Call.operands,hcl];exact Fdx hs),hev' x (by simp[Op.operands,Call.operands,hcl];exact Fdx hx)];split at h
        · cases hb:(cl.argTypes[1]?.bind c.I).any Ol with
          |false=>rw[hb]at h;exact hX h
          |true=>
          rw[hb]at h;replace h:=h.out;rcases h with h|⟨s',x',hes,hex,h⟩;rotate_left
          · refine⟨.inr ⟨s',x',hes,hex,h.has,λie hie Oth M w sv xv at' ty args t sto h1 h2 h3 h4 h5 h6 h7 h8=>?_⟩⟩
            obtain⟨v,w',hr,r,st',M',hK,hp⟩:=h.out ie hie Oth M w sv xv at' ty args t sto h1 h2 h3 h4 h5 h6 h7 h8;exact⟨v,w',hr,r,st',M',hputO _ st' hK,hp⟩
          refine⟨.inl ?_⟩;unfold ce at h⊢;obtain⟨ie,hie,h⟩:=zr h;refine za ie hie ?_;split at h
          · obtain⟨rows,hrows,hroom,h⟩:=zr h
            exact za rows hrows ⟨hroom,λv st' ho=>hputO _ st' (h v st' ho)⟩
          · obtain⟨rows,hrows,hroom,h⟩:=zr h
            exact za rows hrows ⟨hroom,λv st' ho=>hputO _ st' (h v st' ho)⟩
          · obtain⟨hk,h⟩:=nn h
            obtain⟨rows',hrows,htok,hroom,h⟩:=zr h;exact zfc hk (za rows' hrows ⟨htok,hroom,λv st' ho=>hputO _ st' (h v st' ho)⟩)
          · exact h.elim
        · exact h.elim
      |_=>simp only[hcl]at h⊢;have:=hval o.op rfl (by rw[ho];exact h);rw[ho]at this;exact this
  |_=>simp only[ho]at h⊢;exact hval _ ho.symm h
end
section
variable {P:Program} {c:Cfg} {ops:Array Oper}
theorem all_range{n:Nat}{p:Nat->Bool}:(List.range n).all p=true↔∀i,i<n->p i=true:=φ
structure OpFacts(c:Cfg)(ops:Array Oper)(i:Nat)(o:Oper):Prop where
  lt:∀j∈jj ops i,j<i
  sel:∀cs b,o.op≠.select cs b
  nd:∀cl,o.op≠.defer cl
  dst:isV c o=true->∃d,o.dst=some d
  dlt:∀d,o.dst=some d->d<c.n
  own:∀d,o.dst=some d->d∉o.looksAt ops
  one:∀d,o.dst=some d->∀k o',ops[k]?=some o'->k≠i->o'.dst≠some d
  look:∀d,o.dst=some d->∀k o',ops[k]?=some o'->k≠i->d∈o'.looksAt ops->i∈jj ops k\/(isV c o=false/\k∈jj ops i)
theorem Ih(h:Dy c ops=true){i:Nat}{o:Oper}(hi:ops[i]?=some o):OpFacts c ops i o:=by
  have hlt:i<ops.size:=(Fbq.1 hi).1;have h1:=all_range.1 h i hlt;simp only[hi,Fay,Fci]at h1;obtain⟨⟨hd,hs⟩,h2⟩:=h1;refine⟨λj hj=>Fbm (hd j hj),λcs b hop=>δ,λcl hop=>δ,λhv=>?_,λd hdst=>?_,λd hdst=>?_,λd hdst k o' hk hne=>?_,λd hdst k o' hk hne hl=>?_⟩
  · grind
  all_goals
    rw[hdst]at h2;simp only[Fay,Fb9]at h2;obtain⟨⟨h3,h4⟩,h5⟩:=h2
  · exact Fbm h3
  · intro hm
    rw[(mem_iff _ _).2 hm]at h4;cases h4
  all_goals
    have hklt:k<ops.size:=(Fbq.1 hk).1;have h6:=all_range.1 h5 k hklt;simp only[Bool.or_eq_true,qe hne,Fah,false_or,Fay,Fb9]at h6
  · intro hd'
    simp_all
  grind[mem_iff]
theorem yqi{p q:Nat->Bool}{i:Nat}:∀(l:List Nat),l.Nodup->i∈l->p i=true->q i=false->(∀j,j≠i->p j=q j)->l.countP p=l.countP q+1:=by
  intro l;induction l with
  |nil=>simp
  | cons a l ih=>
    grind[List.countP_congr]
def left(ops:Array Oper)(listed:Array Bool):Nat:=(List.range ops.size).countP λi=> !listed.getD i true
theorem V9{listed:Array Bool}(hs:listed.size=ops.size){i:Nat}(hi:i<ops.size)(hl:listed.getD i true=false):left ops listed=left ops (listed.setIfInBounds i true)+1:=by
  refine yqi _ List.nodup_range (Fbe.2 hi) (by simp[hl]) ?_ λj hj=>?_
  · simp
  · rw[getD_set_ne true (Ne.symm hj)]
theorem zcq{listed:Array Bool}(h:left ops listed=0){i:Nat}(hi:i<ops.size):listed.getD i true=true:=by grind[left,List.countP_eq_zero]
theorem least{p:Nat->Prop}:∀n,(∃i,i<n/\p i)->∃i,i<n/\p i/\∀j,j<i->¬p j:=by
  intro n;induction n with
  |zero=>simp
  | succ n ih=>
    by_cases hx:∃j,j<n/\p j
    · grind
    grind
theorem zcb{i j:Nat}{o:Oper}(hi:ops[i]?=some o):j∈jj ops i↔∃e∈o.after,Region.binds .any e=true/\e.on=j:=by grind[jj]
theorem ready_iff{i:Nat}{listed:Array Bool}:i∈Region.ready .any ops listed↔listed.getD i true=false/\i<ops.size/\∀j∈jj ops i,listed.getD j false=true:=by
  rw[mem_ready];constructor
  · rintro⟨h1,o,ho,h2⟩
    refine⟨h1,(Fbq.1 ho).1,λj hj=>?_⟩;obtain⟨e,he,hb,rfl⟩:=(zcb ho).1 hj;grind
  · rintro⟨h1,hlt,h2⟩
    refine⟨h1,ops[i],Fb4 hlt,λe he hb=>h2 _ ((zcb (Fb4 hlt)).2 ⟨e,he,hb,rfl⟩)⟩
def Cc(ops:Array Oper)(U:List Nat):List Nat:=U.filterMap λi=>(ops[i]?).bind (·.dst)
theorem mem_dsts{U:List Nat}{t:Nat}:t∈Cc ops U↔∃k∈U,∃o,ops[k]?=some o/\o.dst=some t:=by grind[Cc]
theorem SimB.weaken{n:SN}{Oth M:Nat->Nat->Prop}{β:Nat->Nat}{A B:Fr}{st:Store}{a:Act}{w:World}(h:SimB n Oth β A st M a w)(hb:B.bx=A.bx)(ht:∀t,A.t t=B.t t\/B.t t=.any):SimB n Oth β B st M a w where
  tsz:=h.tsz
  dfr:=h.dfr
  tm i:=by
    rcases ht i with h1|h1
    · rw[<-h1];exact h.tm i
    · rw[h1];trivial
  bx:=by rw[hb];exact h.bx
  inj:=by rw[hb];exact h.inj
  sep:=by rw[hb];exact h.sep
  sto:=h.sto
theorem Oper.wp_q{o:Oper}{a:Act}{w:World}{K:Act->World->Prop}{Q:Exit->Act->World->Prop}(h:o.wp P a w K λ_ _ _=>False):o.wp P a w K Q:=by
  unfold Oper.wp at*;generalize(execOp a.eval o).run P w=r at*;cases r with
  | ok n w'=>
    cases n<;>simp only[Oper.upon]at h⊢<;>
      first
        |exact h
        |exact Calls.mono h (λe w'' he=>by cases e<;>first|exact he|exact he.elim|(obtain⟨_,_,he⟩:=he;exact he.elim))
        |exact Rows.mono h (λ_ _ he=>he)
  |halt x w'=>cases x<;>trivial<;>exact h.elim
theorem ysh(hI:y9 P c.I){o:Oper}{d:Nat}{x:LV}{B:Fr}{st:Store}(hd:o.dst=some d)(hlt:d<c.n)(h:vcW c B.ev B.bx st d o.op (λy=>y=x)):AOp P c.N o (λA' st'=>A'=B.put d x/\st'=st) B st:=by
  have key:(∀t n ps,o.op≠.buildSlice t n ps)->AOp P c.N o (λA' st'=>A'=B.put d x/\st'=st) B st:=by
    intro hne;refine Rn hI (za d hd ?_);simp only[show Nat.blt d c.n=true from Fb6 hlt,cond_true];unfold vcW at h;split at h
    · grind
    · exact rh hI (λy hy=>⟨by rw[hy],Tv⟩) h
  cases hop:o.op with
  | buildSlice t n parts=>
    rw[hop]at h;obtain⟨i,ie,e,rows,y,hi,hty,hie,hrows,hone,hroom,hy,hyx,_⟩:=zf2 (show bsK c B.ev t n parts (λy=>y=x)from h);refine zgw (c:={c with G:=[]}) hop hI (za i hi (za d hd ?_));simp only[show Nat.blt d c.n=true from Fb6 hlt,cond_true,hty];refine za ie hie (za rows hrows ?_);grind
  |_=>grind
theorem M6{o:Oper}{A B:Fr}(h:∀t∈o.looksAt ops,B.t t=A.t t):By ops o B=By ops o A:=by grind[By,Oper.looksAt]
theorem zco{o:Oper}{t:Nat}(h:Operand.tmp t∈o.op.operands):t∈o.looksAt ops:=
  List.mem_append_left _ (List.mem_filterMap.2 ⟨.tmp t,δ,rfl⟩)
theorem m6{o:Oper}{A B:Fr}(h:∀t∈o.looksAt ops,B.t t=A.t t):∀x∈o.op.operands,B.ev x=A.ev x:=by
  intro x hx;cases x with
  |tmp t=>exact h t (zco hx)
  |_=>rfl
theorem stands_iff{A:Fr}{st:Store}{i:Nat}:stands c ops A st i↔∃o d,ops[i]?=some o/\o.dst=some d∧
    ((By ops o A=some true/\vcW c A.ev A.bx st d o.op λx=>x=A.t d)\/(By ops o A=some false/\A.t d=.und)):=by
  unfold stands;constructor
  · intro h
    obtain⟨o,ho,h⟩:=zr h;simp_all[zr,guardK_iff]
  grind[za,guardK_iff]
theorem td{A B:Fr}{st st':Store}{i:Nat}{o:Oper}(hi:ops[i]?=some o)(h:stands c ops A st i)(hl:∀t∈o.looksAt ops,B.t t=A.t t)(hd:∀d,o.dst=some d->B.t d=A.t d)
    (hn:(B.bx=A.bx/\st'=st)\/Mr o.op=true):stands c ops B st' i:=by
  obtain⟨o',d,ho,hdst,h⟩:=stands_iff.1 h;rw[hi]at ho;cases ho;refine stands_iff.2 ⟨o,d,hi,hdst,?_⟩;rw[M6 hl,hd d hdst];refine h.imp (λh=>⟨h.1,?_⟩) id;have h2:=de (m6 hl) h.2;grind[zih]
theorem zy3{A:Fr}{st:Store}:∀{l:List Nat},Kk c ops A st l->∀i∈l,stands c ops A st i:=by
  intro l;induction l with
  |nil=>simp
  | cons a l ih=>
    intro h i hi;rcases Fa6.1 hi with rfl|h'
    · exact h.1
    · exact ih h.2 i h'
def zep(P:Program)(c:Cfg)(ops:Array Oper)(K:Fr->Store->Prop)(i:Nat)(chk:List Nat)(r:Sched)(A:Fr)(st:Store):Prop:=
  optK ops[i]? λo=>
      Iz ops o A (λA=>Dr P c o (λA' st'=>Kk c ops A' st' chk/\w9 P c ops K r A' st') A st)
        (λA=>xf A c.n o.dst .und λA'=>Kk c ops A' st chk/\w9 P c ops K r A' st)
theorem yss{K:Fr->Store->Prop}{A:Fr}{st:Store}{i:Nat}{L:List Nat}:∀(S:Sched) (first:Bool),Ar c ops S L first=true->w9 P c ops K S A st->i∈Ro S->
    ∃chk r,Pz c ops i chk L=true/\Ar c ops r (i::L) true=true/\zep P c ops K i chk r A st:=by
  intro S;induction S with
  |done=>intro _ _ _ h;cases h
  |stop=>intro _ _ _ h;cases h
  |v j r _=>intro _ _ _ h;cases h
  | e j chk r alt _ ih=>
    intro first hs hv hi
    simp only[Ar,Fay]at hs;simp only[Ro,Fa6]at hi;rcases hi with rfl|hi
    · exact⟨chk,r,hs.1.1.1,hs.1.1.2,hv.1⟩
    · exact ih false hs.1.2 hv.2 hi
structure DInv(c:Cfg)(ops:Array Oper)(Oth M0:Nat->Nat->Prop)(w0:World)(listed:Array Bool)(Lab U:List Nat)(A:Fr)(st:Store)(M:Nat->Nat->Prop)(a:Act)(w:World):Prop where
  lsz:listed.size=ops.size
  lst:∀i,i<ops.size->(listed.getD i false=true↔i∈Lab/\i∉U)
  usub:∀i∈U,i∈Lab
  lab:∀i∈Lab,i<ops.size/\∀j∈jj ops i,j∈Lab
  uv:∀i∈U,∃o,ops[i]?=some o/\isV c o=true
  std:∀i∈U,stands c ops A st i
  sim:Sim c.N Oth (qj A (Cc ops U)) st M a w
  chg:Chg M0 w0 M w
  cls:∀i,i<ops.size->listed.getD i false=true->∀j∈jj ops i,listed.getD j false=true
theorem zdr{listed:Array Bool}{i:Nat}(h:i<listed.size):listed.getD i true=listed.getD i false:=by simp[h]
theorem yfz{ops:Array Oper}{listed:Array Bool}(cls:∀i,i<ops.size->listed.getD i false=true->∀j∈jj ops i,listed.getD j false=true)(hlt:∀i j,j∈jj ops i->j<ops.size){i:Nat}(hi:∀j∈jj ops i,listed.getD j false=true):
    ∀k∈O2 ops i,listed.getD k false=true:=by
  have key:∀(l acc:List Nat),(∀k∈acc,k<ops.size/\listed.getD k false=true)->∀k∈l.foldl (λacc j=>bif mem j acc then jj ops j++acc else acc) acc,k<ops.size/\listed.getD k false=true:=by
    intro l;induction l with
    |nil=>simp
    | cons j l ih=>
      intro acc h;by_cases hm:mem j acc=false
      · grind
      · have hm:mem j acc=true:=by grind
        have hj:=h j ((mem_iff _ _).1 hm);grind
  exact λk hk=>(key _ _ (λk hk=>⟨hlt i k hk,hi k hk⟩) k hk).2
end
section
variable {P:Program} {c:Cfg} {ops:Array Oper} {Oth M0:Nat->Nat->Prop} {w0:World}
def Dl(c:Cfg)(Oth M0:Nat->Nat->Prop)(w0:World)(K:Fr->Store->Prop):Exit->Act->World->Prop:=
  λe a' w'=>∃A' st' M',(match e with|.normal=>K A' st'|_=>False)/\Sim c.N Oth A' st' M' a' w'/\Chg M0 w0 M' w'
theorem zif(hI:y9 P c.I){ev:Operand->LV}{bx:Nat->Option (List AV)}{st:Store}{d:Nat}{op:Op}{K:LV->Prop}(h:vcW c ev bx st d op K):∃x,K x/\vcW c ev bx st d op λy=>y=x:=by
  unfold vcW at h⊢;split at h
  · obtain⟨_,_,_,_,x,_,_,_,_,_,_,_,hx,hx'⟩:=zf2 h
    grind
  · obtain⟨x,hx,hx',_⟩:=df hI _ h
    grind
section
variable {listed:Array Bool} {Lab U:List Nat} {A:Fr} {st:Store} {M:Nat->Nat->Prop} {a:Act} {w:World}
theorem DInv.listed_iff(h:DInv c ops Oth M0 w0 listed Lab U A st M a w){i:Nat}(hi:i<ops.size):listed.getD i true=false↔¬(i∈Lab/\i∉U):=by rw[zdr (by rw[h.lsz];exact hi),<-h.lst i hi];simp
theorem DInv.done(hops:Dy c ops=true){K:Fr->Store->Prop}{S:Sched}(h:DInv c ops Oth M0 w0 listed Lab U A st M a w)(hs:Ar c ops S Lab true=true)(hv:w9 P c ops K S A st)
    (hl:left ops listed=0):Dl c Oth M0 w0 K .normal a w:=by
  have hall:∀i,i<ops.size->i∈Lab/\i∉U:=λi hi=>by have:=zcq hl hi;rw[zdr (by rw[h.lsz];exact hi)]at this;exact(h.lst i hi).1 this
  have hU:U=[]:=by
    cases U with
    |nil=>rfl
    |cons u U=>exact absurd (Fa7) (hall u (h.lab u (h.usub u Fa7)).1).2
  subst hU;cases S with
  |done=>exact⟨A,st,M,hv,h.sim,h.chg⟩
  |stop=>trivial
  | v i r=>
    simp only[Ar,Fay,Fb9]at hs;grind[mem_iff]
  | e i chk r alt=>
    simp only[Ar,Pz,Fay,Fb9]at hs;grind[mem_iff]
theorem DInv.ready_ne(hops:Dy c ops=true)(h:DInv c ops Oth M0 w0 listed Lab U A st M a w){n:Nat}(hl:left ops listed=n+1):Region.ready .any ops listed≠[]:=by
  have hex:∃i,i<ops.size/\listed.getD i true=false:=by grind[left,List.countP_pos_iff]
  obtain⟨i,hi,hp,hmin⟩:=least ops.size hex;have:i∈Region.ready .any ops listed:=by rw[ready_iff];refine⟨hp,hi,λj hj=>?_⟩;have hlt:=(Ih hops (Fb4 hi)).lt j hj;grind
  grind
theorem DInv.clear(hops:Dy c ops=true)(h:DInv c ops Oth M0 w0 listed Lab U A st M a w){i:Nat}(hr:i∈Region.ready .any ops listed){o:Oper}(hi:ops[i]?=some o):∀t∈o.looksAt ops,t∉Cc ops U:=by
  intro t ht hd;obtain⟨k,hk,o',ho',hd'⟩:=mem_dsts.1 hd;have hf:=Ih hops ho';by_cases hki:i=k
  · subst hki
    rw[hi]at ho';cases ho';exact hf.own t hd' ht
  · obtain⟨o2,ho2,hv⟩:=h.uv k hk
    rcases hf.look t hd' i o hi hki ht with h1|⟨h1,_⟩
    · have:=(ready_iff.1 hr).2.2 k h1
      exact((h.lst k (h.lab k (h.usub k hk)).1).1 this).2 hk
    grind
theorem DInv.look(h:DInv c ops Oth M0 w0 listed Lab U A st M a w){i:Nat}{o:Oper}(hl:∀t∈o.looksAt ops,t∉Cc ops U):∀t∈o.looksAt ops,(qj A (Cc ops U)).t t=A.t t:=
  λt ht=>Wv (hl t ht)
theorem yp1(hops:Dy c ops=true):∀i j,j∈jj ops i->j<ops.size:=by
  intro i j hj;cases hi:ops[i]? with
  |none=>grind[jj]
  | some o=>
    have:=(Ih hops hi).lt j hj;grind
theorem zfg(h:DInv c ops Oth M0 w0 listed Lab U A st M a w)(hops:Dy c ops=true){i:Nat}(hr:i∈Region.ready .any ops listed):
    ∀k,k<ops.size->(listed.setIfInBounds i true).getD k false=true->∀j∈jj ops k,(listed.setIfInBounds i true).getD j false=true:=by
  have mono:∀j,listed.getD j false=true->(listed.setIfInBounds i true).getD j false=true:=by
    intro j hj;by_cases hji:i=j
    · grind[ready_iff]
    simp_all
  intro k hk hl j hj;by_cases hki:i=k
  · grind[ready_iff]
  · rw[getD_set_ne false hki]at hl
    exact mono j (h.cls k hk hl j hj)
theorem DInv.pend(hI:y9 P c.I)(hops:Dy c ops=true){K:Fr->Store->Prop}{fuel:Nat}(h:DInv c ops Oth M0 w0 listed Lab U A st M a w){i:Nat}(hr:i∈Region.ready .any ops listed)(hU:i∈U)
    (ih:∀(U':List Nat) (M':Nat->Nat->Prop) (a':Act) (w':World),DInv c ops Oth M0 w0 (listed.setIfInBounds i true) Lab U' A st M' a' w'->wpAny P .any ops (Dl c Oth M0 w0 K) fuel (listed.setIfInBounds i true) a' w'):
    wpOp P ops (Dl c Oth M0 w0 K) i (wpAny P .any ops (Dl c Oth M0 w0 K) fuel (listed.setIfInBounds i true)) a w:=by
  obtain⟨o,d,hi,hd,hst⟩:=stands_iff.1 (h.std i hU);have hf:=Ih hops hi;have hclear:=h.clear hops hr hi;have hlook:=h.look (i:=i) hclear;have hilt:=(Fbq.1 hi).1
  -- the frame behind it
  have next:∀(M':Nat->Nat->Prop) (a':Act) (w':World),Sim c.N Oth ((qj A (Cc ops U)).put d (A.t d)) st M' a' w'->Chg M w M' w'->
      wpAny P .any ops (Dl c Oth M0 w0 K) fuel (listed.setIfInBounds i true) a' w':=by
    rintro M' a' w' ⟨β,sim⟩ hchg;refine ih (U.filter λk=> !Nat.beq k i) M' a' w' ⟨by simp[h.lsz],λj hj=>?_,λj hj=>h.usub j (Fbx.1 hj).1,h.lab,λj hj=>h.uv j (Fbx.1 hj).1,λj hj=>h.std j (Fbx.1 hj).1,⟨β,sim.weaken rfl λt=>?_⟩,h.chg.trans hchg,zfg h hops hr⟩
    · by_cases hji:i=j
      · subst hji
        have:i<listed.size:=by rw[h.lsz];exact hilt
        simp[this,h.usub i hU]
      · rw[getD_set_ne false hji,h.lst j hj]
        simp_all[Ne.symm]
    · by_cases ht:t=d
      · subst ht
        rw[Wv]
        · simp[Fr.put]
        · intro hm
          obtain⟨k,hk,o',ho',hd'⟩:=mem_dsts.1 hm;have hki:k≠i:=by intro h;simp_all
          exact hf.one t hd k o' ho' hki hd'
      · by_cases hm:t∈Cc ops (U.filter λk=> !Nat.beq k i)
        · simp[qj,(mem_iff _ _).2 hm]
        · have hm2:t∉Cc ops U:=by
            intro h2;obtain⟨k,hk,o',ho',hd'⟩:=mem_dsts.1 h2;refine hm (mem_dsts.2 ⟨k,Fbx.2 ⟨hk,?_⟩,o',ho',hd'⟩);by_cases hki:k=i
            · grind
            · simp[qe hki]
          simp_all[Fr.put,qe,Wv]
  unfold Go.wpOp;simp only[hi];rcases hst with⟨hg,hv⟩|⟨hg,hu⟩
  · have hg':By ops o (qj A (Cc ops U))=some true:=by rw[M6 hlook];exact hg
    rw[Wr h.sim hg'];refine .inl (Oper.wp_q (Oper.wp_mono ?_ (ysh hI hd (hf.dlt d hd) (de (m6 hlook) hv) Oth M a w h.sim)));grind
  · have hg':By ops o (qj A (Cc ops U))=some false:=by rw[M6 hlook];exact hg
    rw[Wr h.sim hg'];obtain⟨β,sim⟩:=h.sim;refine next M _ w ⟨β,?_⟩ (Chg.refl M w)
    rw[hd,hu];exact sim.put (hf.dlt d hd) rfl
theorem DInv.eff(hI:y9 P c.I)(hops:Dy c ops=true){K K2:Fr->Store->Prop}{fuel:Nat}(h:DInv c ops Oth M0 w0 listed Lab U A st M a w){i:Nat}(hr:i∈Region.ready .any ops listed){chk:List Nat}{r:Sched}
    (he:Pz c ops i chk Lab=true) (hv:zep P c ops K i chk r A st)
    (ih:∀(A':Fr) (st':Store) (M':Nat->Nat->Prop) (a':Act) (w':World),w9 P c ops K r A' st'->DInv c ops Oth M0 w0 (listed.setIfInBounds i true) (i::Lab) U A' st' M' a' w'->wpAny P .any ops (Dl c Oth M0 w0 K2) fuel (listed.setIfInBounds i true) a' w'):
    wpOp P ops (Dl c Oth M0 w0 K2) i (wpAny P .any ops (Dl c Oth M0 w0 K2) fuel (listed.setIfInBounds i true)) a w:=by
  obtain⟨o,hi,hv⟩:=zr hv;have hf:=Ih hops hi;have hclear:=h.clear hops hr hi;have hlook:=h.look (i:=i) hclear;have hilt:=(Fbq.1 hi).1;simp only[Pz,hi,Fay,Fb9,Fci]at he;obtain⟨⟨⟨⟨hnL,_⟩,hdeps⟩,hnV⟩,hL⟩:=he;have hiL:i∉Lab:=λhm=>by grind[mem_iff]
  have hiU:i∉U:=λhm=>hiL (h.usub i hm);have hdD:∀d,o.dst=some d->d∉Cc ops U:=by intro d hd hm;obtain⟨k,hk,o',ho',hd'⟩:=mem_dsts.1 hm;exact hf.one d hd k o' ho' (λh=>hiU (h▸hk)) hd'
  have hdl:∀j∈jj ops i,j∈Lab/\j∉U:=λj hj=>by
    have h1:=(ready_iff.1 hr).2.2 j hj;have hlt:j<ops.size:=by have:=hf.lt j hj;omega
    exact(h.lst j hlt).1 h1
  have hkr:∀k∈U,k∉O2 ops i:=λk hk hm=>by have h1:=yfz h.cls (yp1 hops) (ready_iff.1 hr).2.2 k hm;exact((h.lst k (h.lab k (h.usub k hk)).1).1 h1).2 hk
  -- what follows
  have next:∀(A':Fr) (st':Store) (M':Nat->Nat->Prop) (a':Act) (w':World),Kk c ops A' st' chk->w9 P c ops K r A' st'->Fh o A A'->((∃k,A'=A.put k .und/\o.dst=some k/\st'=st)\/A'=A/\st'=st\/True)->Sim c.N Oth (qj A' (Cc ops U)) st' M' a' w'->Chg M w M' w'->
      (∀k∈U,k∉chk->∀o',ops[k]?=some o'->∀t,o.dst≠some t->A'.t t=A.t t)->
      wpAny P .any ops (Dl c Oth M0 w0 K2) fuel (listed.setIfInBounds i true) a' w':=by
    intro A' st' M' a' w' hchk hvc hkept _ hsim hchg hk2;refine ih A' st' M' a' w' hvc ⟨by simp[h.lsz],λj hj=>?_,λj hj=>Fav _ (h.usub j hj),λj hj=>?_,h.uv,λk hk=>?_,hsim,h.chg.trans hchg,zfg h hops hr⟩
    · by_cases hji:i=j
      · subst hji
        have:i<listed.size:=by rw[h.lsz];exact hilt
        simp_all
      · rw[getD_set_ne false hji,h.lst j hj]
        grind
    · rcases Fa6.1 hj with rfl|hj
      · grind
      · exact⟨(h.lab j hj).1,λk hk=>Fav _ ((h.lab j hj).2 k hk)⟩
    · by_cases hkc:k∈chk
      · exact zy3 hchk k hkc
      · obtain⟨o',ho',hV⟩:=h.uv k hk
        have hk3:=hk2 k hk hkc o' ho';have hki:k≠i:=λh=>hiU (h▸hk);have hkd:k∉jj ops i:=λhd=>(hdl k hd).2 hk;have h4:=hL k (h.usub k hk);have m1:mem k (O2 ops i)=false:=Il (hkr k hk);have m2:mem k chk=false:=Il hkc;rw[ho']at h4;simp only[m1,m2,Bool.false_or,Bool.or_eq_true,Fb9,Fay,hV,Bool.true_eq_false,false_or]at h4;refine td ho' (h.std k hk) (λt ht=>hk3 t λhd=>?_) (λd hd=>hk3 d λhd2=>hf.one d hd2 k o' ho' hki hd) (.inr h4.1);rcases hf.look t hd k o' ho' hki ht with h5|⟨_,h5⟩
        · exact hiL ((h.lab k (h.usub k hk)).2 i h5)
        grind
  have hkept:∀(A':Fr),Fh o A A'->∀k∈U,k∉chk->∀o',ops[k]?=some o'->∀t,o.dst≠some t->A'.t t=A.t t:=by intro A' hK k hk hkc o' ho' t ht;obtain⟨o2,ho2,hV⟩:=h.uv k hk;rw[ho']at ho2;have h4:=hL k (h.usub k hk);have m1:mem k (O2 ops i)=false:=Il (hkr k hk);have m2:mem k chk=false:=Il hkc;refine hK ?_ t ht;grind
  unfold Go.wpOp;simp only[hi];rcases guardK_iff.1 hv with⟨hg,hv⟩|⟨hg,hv⟩
  · have hg':By ops o (qj A (Cc ops U))=some true:=by rw[M6 hlook];exact hg
    rw[Wr h.sim hg'];have hF:=zii hI hv (λx hx t ht=>hclear t (zco δ)) hdD;refine .inl (Oper.wp_q (Oper.wp_mono ?_ (zgv hI hF Oth M a w h.sim)));grind
  · have hg':By ops o (qj A (Cc ops U))=some false:=by rw[M6 hlook];exact hg
    rw[Wr h.sim hg'];obtain⟨β,sim⟩:=h.sim;cases hd:o.dst with
    | none=>
      rw[hd]at hv;exact next A st M _ w hv.1 hv.2 ll (.inr (.inr trivial)) ⟨β,sim⟩ (Chg.refl M w) (λ_ _ _ _ _ _ _=>rfl)
    | some d=>
      rw[hd]at hv;obtain⟨hlt,hv⟩:=Ax hv;refine next (A.put d .und) st M _ w hv.1 hv.2 (Lb hd) (.inr (.inr trivial)) ⟨β,?_⟩ (Chg.refl M w) (λ_ _ _ _ _ t ht=>by grind[Fr.put,qe])
      rw[<-Hp (hdD d hd)];exact sim.put hlt rfl
theorem DInv.move(hI:y9 P c.I)(hops:Dy c ops=true){K:Fr->Store->Prop}(h:DInv c ops Oth M0 w0 listed Lab U A st M a w){j:Nat}{r:Sched}(hs:Ar c ops (.v j r) Lab true=true)(hv:w9 P c ops K (.v j r) A st):
    ∃A',Ar c ops r (j::Lab) true=true/\w9 P c ops K r A' st/\DInv c ops Oth M0 w0 listed (j::Lab) (j::U) A' st M a w:=by
  simp only[Ar,Fay,Fb9,true_and]at hs;obtain⟨⟨⟨⟨hn,hlt⟩,hV⟩,hdep⟩,hs⟩:=hs;have hjL:j∉Lab:=λhm=>by rw[(mem_iff _ _).2 hm]at hn;cases hn
  obtain⟨o,hi,hv⟩:=zr hv;obtain⟨d,hd,hv⟩:=zr hv;have hf:=Ih hops hi;have hdl:∀k∈jj ops j,k∈Lab:=λk hk=>(mem_iff _ _).1 (Fci.1 hdep k hk)
  have key:∀x,w9 P c ops K r (A.put d x) st->((By ops o A=some true/\vcW c A.ev A.bx st d o.op λy=>y=x)\/(By ops o A=some false/\x=.und))->
      ∃A',Ar c ops r (j::Lab) true=true/\w9 P c ops K r A' st/\DInv c ops Oth M0 w0 listed (j::Lab) (j::U) A' st M a w:=by
    intro x hx hst;have hout:∀t,t≠d->(A.put d x).t t=A.t t:=λt ht=>by simp[Fr.put,qe ht]
    refine⟨A.put d x,hs,hx,h.lsz,λk hk=>?_,λk hk=>?_,λk hk=>?_,λk hk=>?_,λk hk=>?_,?_,h.chg,h.cls⟩
    · rw[h.lst k hk]
      grind
    · rcases Fa6.1 hk with rfl|hk
      · simp
      · exact Fav _ (h.usub k hk)
    · rcases Fa6.1 hk with rfl|hk
      · grind
      · exact⟨(h.lab k hk).1,λk' hk'=>Fav _ ((h.lab k hk).2 k' hk')⟩
    · rcases Fa6.1 hk with rfl|hk
      · grind
      · exact h.uv k hk
    · rcases Fa6.1 hk with rfl|hk
      · have hl:∀t∈o.looksAt ops,(A.put d x).t t=A.t t:=λt ht=>hout t λhh=>hf.own d hd (hh▸ht)
        refine stands_iff.2 ⟨o,d,hi,hd,?_⟩;rw[M6 hl,show(A.put d x).t d=x by simp[Fr.put]];exact hst.imp (λh=>⟨h.1,de (m6 hl) h.2⟩) id
      · obtain⟨o',ho',hV'⟩:=h.uv k hk
        have hkj:k≠j:=λhh=>hjL (hh▸h.usub k hk);refine td ho' (h.std k hk) (λt ht=>hout t λhh=>?_) (λd' hd'=>hout d' λhh=>hf.one d hd k o' ho' hkj (hh▸hd')) (.inl ⟨rfl,rfl⟩);subst hh;rcases hf.look t hd k o' ho' hkj ht with h5|⟨h5,_⟩
        · exact hjL ((h.lab k (h.usub k hk)).2 j h5)
        grind
    · obtain⟨β,sim⟩:=h.sim
      refine⟨β,sim.weaken rfl λt=>?_⟩;grind[Cc,qj,mem_iff]
  rcases guardK_iff.1 hv with⟨hg,hv⟩|⟨hg,hv⟩
  · grind[zif]
  grind
end
theorem ype(hI:y9 P c.I)(hops:Dy c ops=true){K:Fr->Store->Prop}{fuel:Nat}
    (ih:∀(S:Sched) (listed:Array Bool) (Lab U:List Nat) (A:Fr) (st:Store) (M:Nat->Nat->Prop) (a:Act) (w:World),Ar c ops S Lab true=true->w9 P c ops K S A st->DInv c ops Oth M0 w0 listed Lab U A st M a w->left ops listed=fuel->
      wpAny P .any ops (Dl c Oth M0 w0 K) fuel listed a w) {listed:Array Bool} {M:Nat->Nat->Prop} {a:Act} {w:World} {st:Store} (hl:left ops listed=fuel+1) {i:Nat} (hr:i∈Region.ready .any ops listed):
    ∀ (S:Sched) (Lab U:List Nat) (A:Fr),Ar c ops S Lab true=true->w9 P c ops K S A st->DInv c ops Oth M0 w0 listed Lab U A st M a w->
      wpOp P ops (Dl c Oth M0 w0 K) i (wpAny P .any ops (Dl c Oth M0 w0 K) fuel (listed.setIfInBounds i true)) a w:=by
  obtain⟨hun,hilt,hdeps⟩:=ready_iff.1 hr;intro S;induction S with
  | done=>
    intro Lab U A hs hv h;by_cases hU:i∈U
    · exact h.pend hI hops hr hU λU' M' a' w' h'=>ih .done _ _ _ _ _ _ _ _ hs hv h' θ7
    · exact absurd ⟨(mem_iff _ _).1 (all_range.1 hs i hilt),hU⟩ ((h.listed_iff hilt).1 hun)
  |stop=>intro Lab U A hs;trivial
  | v j r ihr=>
    intro Lab U A hs hv h;by_cases hU:i∈U
    · exact h.pend hI hops hr hU λU' M' a' w' h'=>ih (.v j r) _ _ _ _ _ _ _ _ hs hv h' θ7
    · obtain⟨A',h1,h2,h3⟩:=h.move hI hops hs hv
      grind
  | e j chk r alt _ _=>
    intro Lab U A hs hv h;by_cases hU:i∈U
    · exact h.pend hI hops hr hU λU' M' a' w' h'=>ih (.e j chk r alt) _ _ _ _ _ _ _ _ hs hv h' θ7
    · have hiL:i∉Lab:=λhm=>(h.listed_iff hilt).1 hun ⟨hm,hU⟩
      have hin:i∈Ro (.e j chk r alt):=by
        have hs2:=hs;simp only[Ar,Fay,Bool.not_true,Bool.false_or]at hs2;have h1:=all_range.1 hs2.2 i hilt;simp only[Bool.or_eq_true,Fb9,Il hiL,Fah,false_or]at h1;rcases h1 with h1|h1
        · have:sub (jj ops i) Lab=true:=by
            unfold sub;rw[Fci];intro k hk;have hlt:k<ops.size:=by have:=(Ih hops (Fb4 hilt)).lt k hk;omega
            exact(mem_iff _ _).2 ((h.lst k hlt).1 (hdeps k hk)).1
          grind
        · exact(mem_iff _ _).1 h1
      obtain⟨chk',r',h1,h2,h3⟩:=yss _ true hs hv hin;exact h.eff hI hops hr h1 h3 λA' st' M' a' w' h4 h5=>ih r' _ _ _ _ _ _ _ _ h2 h4 h5 θ7
theorem ypf(hI:y9 P c.I)(hops:Dy c ops=true){K:Fr->Store->Prop}:∀(fuel:Nat) (S:Sched) (listed:Array Bool) (Lab U:List Nat) (A:Fr) (st:Store) (M:Nat->Nat->Prop) (a:Act) (w:World),Ar c ops S Lab true=true->w9 P c ops K S A st->DInv c ops Oth M0 w0 listed Lab U A st M a w->left ops listed=fuel->
      wpAny P .any ops (Dl c Oth M0 w0 K) fuel listed a w:=by
  intro fuel;induction fuel with
  | zero=>
    intro S listed Lab U A st M a w hs hv h hl;refine⟨?_,h.done hops hs hv hl⟩;cases hr:Region.ready .any ops listed with
    |nil=>rfl
    | cons i rs=>
      grind[List.mem_cons_self,ready_iff,zcq]
  | succ fuel ih=>
    intro S listed Lab U A st M a w hs hv h hl;refine⟨λhr=>absurd hr (h.ready_ne hops hl),λi hi=>ype hI hops ih hl hi S Lab U A hs hv h⟩
theorem zhj{ops:Array Oper}(hd:∀(i:Nat) (o:Oper),ops[i]?=some o->∀cl,o.op≠.defer cl){Q:Exit->Act->World->Prop}{i:Nat}{K K':Act->World->Prop}{a:Act}{w:World}(hk:∀a w,K a w->K' a w)(h:wpOp P ops Q i K a w)(hn:∀e a w,e≠.normal->¬Q e a w):wpOpIn c.F 0 P ops Q i K' a w:=by
  unfold wpOp at h;unfold wpOpIn;split
  · grind
  · rename_i o hi
    simp only[hi]at h;split
    · rename_i hw
      simp only[hw,if_true]at h;rcases h with h|⟨_,a1,w1,h⟩
      · exact Rs hk hn (Oper.wpIn_F (hd i o hi) h)
      grind
    · rename_i hw
      simp only[hw]at h;exact⟨λ_ _=>Tv,hk _ _ h⟩
theorem zhm{ops:Array Oper}(hd:∀(i:Nat) (o:Oper),ops[i]?=some o->∀cl,o.op≠.defer cl){Q:Exit->Act->World->Prop}(hn:∀e a w,e≠.normal->¬Q e a w){md:Region.Mode}:∀(fuel:Nat) (listed:Array Bool) (a:Act) (w:World),wpAny P md ops Q fuel listed a w->wpAnyIn c.F 0 P md ops Q fuel listed a w:=by
  intro fuel;induction fuel with
  |zero=>intro listed a w h;exact h
  |succ fuel ih=>intro listed a w h;exact⟨h.1,λi hi=>zhj hd (λa w h=>ih _ a w h) (h.2 i hi) hn⟩
theorem ADraw.of_sched(hI:y9 P c.I)(hm:P.follows .mixedOrders=true)(hops:Dy c ops=true){K:Fr->Store->Prop}{A:Fr}{st:Store}(S:Sched)(hs:Ar c ops S [] true=true)(hv:w9 P c ops K S A st):ADraw P c ops K A st:=by
  refine⟨λid=>⟨λOth M a w sim=>wpIn_region_any hm (zhm (λi o hi=>(Ih hops hi).nd) ?_ _ _ _ _ ?_)⟩⟩
  · grind
  obtain⟨β,sim⟩:=sim;have g:=Grow.drew w
  have hinv:DInv c ops Oth M w (Array.replicate ops.size false) [] [] A st M a w.drew:=
    ⟨φ,λi hi=>by simp[hi],λi h=>ω,λi h=>ω,λi h=>ω,λi h=>ω,⟨β,sim.grow g⟩,g.chg M,λi hi hl=>θh⟩
  have hl:left ops (Array.replicate ops.size false)=ops.size:=by
    unfold left;have:(List.range ops.size).countP (λi=> !(Array.replicate ops.size false).getD i true)=(List.range ops.size).length:=by rw[List.countP_eq_length];simp_all
    grind
  exact ypf hI hops ops.size S _ [] [] A st M a w.drew hs hv hinv hl
theorem Qc(hI:y9 P c.I){K:Fr->Store->Prop}{A:Fr}{st:Store}(S:Sched)(hv:w9 P c ops K S A st)(hm:P.follows .mixedOrders=true:=by rfl)(hops:Dy c ops=true:=by rfl)(hs:Ar c ops S [] true=true:=by rfl):ADraw P c ops K A st:=ADraw.of_sched hI hm hops S hs hv
end
section
variable {x r:AV} {st st':Store} {a v:Int}
theorem ret{R:Ja}(h:R x st):∃r st',AV.le x r/\st.Has st'/\R r st':=⟨x,st,Tt,Store.Has.refl _,h⟩
theorem zaf{R:Ja}(h:AV.le x r)(k:R r st):∃r st',AV.le x r/\st.Has st'/\R r st':=⟨r,st,h,Store.Has.refl _,k⟩
theorem Cw{R:Ja}(h:AV.le x r)(k:st.Has st')(q:R r st'):∃r st',AV.le x r/\st.Has st'/\R r st':=⟨r,st',h,k,q⟩
theorem Bg{R:Ja}(q:R r st')(k:st.Has st')(h:AV.le x r):∃r st',AV.le x r/\st.Has st'/\R r st':=⟨r,st',h,k,q⟩
theorem optR{α:Type}{x:α}{K:α->Prop}(h:K x):optK (some x) K:=h
theorem bcd{c:Prop}[Decidable c]{p q:Prop}(h:c->p)(h':¬c->q):Dm (decide c) p q:=zk (λe=>h (of_decide_eq_true e)) (λe=>h' (of_decide_eq_false e))
theorem zw{b:Int}{p q:Prop}(h:a=b->p)(h':a≠b->q):Dm (a==b) p q:=zk (λe=>h (eq_of_beq e)) (λe=>h' (ne_of_beq_false e))
theorem qf{b:Int}{p q:Prop}(h:a≠b->p)(h':a=b->q):Dm (a != b) p q:=by grind[zk]
theorem yi{b:Bool}{p q:Prop}(h:Dm b q p):Dm (!b) p q:=by cases b<;>exact h
theorem pr{P:Prop}{Q:Bool->Prop}(h:P->Q true)(h':¬P->Q false):∀b:Bool,(b=true↔P)->Q b:=δ
theorem ze{K:Prop}(h:-9223372036854775808<=v/\v<=9223372036854775807)(k:K):yg v/\K:=⟨h,k⟩
theorem Qd{K:Prop}(k:K)(h:-9223372036854775808<=v/\v<=9223372036854775807:=by omega):yg v/\K:=⟨h,k⟩
theorem pe{k:Nat}{rows:List (List AV)}{b:Nat}(hb:Fresh st b)(hr:rows≠[]):App k st (.lst k rows (some b)) rows (st.sT b (some (rows.length*k))):=
  .inr (.inr ⟨hr,b,hb,rfl,rfl⟩)
end
section
variable {st st':Store} {b p k o:Nat} {v:AV} {i:TI} {A:Fr}
theorem Fresh.ne_obj{x:AObj}(h:Fresh st b)(hp:st.obj p=some x):b≠p:=λe=>by rw[<-e,h.1]at hp;cases hp
theorem zd(st:Store)(p:Nat)(x:AObj):(st.sO p x).obj p=some x:=by simp[Store.sO]
theorem zg{x:AObj}(h:b≠p):(st.sO p x).obj b=st.obj b:=by simp[Store.sO,qe h]
theorem H8(st:Store)(p:Nat)(x:Option Nat):(st.sT p x).tok p=x:=by simp[Store.sT]
theorem Oq{x:Option Nat}(h:b≠p):(st.sT p x).tok b=st.tok b:=by simp[Store.sT,qe h]
theorem ym(st:Store)(p:Nat)(x y:AObj):(st.sO p x).sO p y=st.sO p y:=by unfold Store.sO;grind
theorem zds{x:AObj}(h:Fresh st b)(hn:b≠p):Fresh (st.sO p x) b:=⟨by rw[zg hn];exact h.1,h.2⟩
theorem uf(st:Store)(p b:Nat)(x:AObj)(y:Option Nat):(st.sT b y).sO p x=(st.sO p x).sT b y:=rfl
theorem App.sO{rows:List (List AV)}{x y:AObj}(h:App k (st.sO p x) v rows st'):App k (st.sO p y) v rows (st'.sO p y):=by
  rcases h with⟨h1,h2,rfl⟩|⟨h1,h2,rfl⟩|⟨h1,b,hb,h2,rfl⟩
  · rw[ym];exact .inl ⟨h1,h2,rfl⟩
  · rw[ym];exact .inr (.inl ⟨h1,h2,rfl⟩)
  · have hne:b≠p:=λe=>by have:=hb.1;rw[e,zd]at this;cases this
    refine .inr (.inr ⟨h1,b,?_,h2,?_⟩)
    · exact⟨by rw[zg hne];have:=hb.1;rwa [zg hne]at this,hb.2⟩
    · rw[uf,ym]
theorem App.boxed{rows:List (List AV)}{x:AObj}(h:App k st v rows st')(hp:Fresh st' p):App k (st.sO p x) v rows (st'.sO p x):=by
  rcases h with⟨h1,h2,rfl⟩|⟨h1,h2,rfl⟩|⟨h1,b,hb,h2,rfl⟩
  · exact .inl ⟨h1,h2,rfl⟩
  · exact .inr (.inl ⟨h1,h2,rfl⟩)
  · have hne:b≠p:=λe=>by have:=hp.2;grind[H8]
    exact .inr (.inr ⟨h1,b,zds hb hne,h2,rfl⟩)
theorem App.fresh{rows:List (List AV)}(h:App k st v rows st')(hp:Fresh st' p):st.obj p=none:=by
  cases ho:st.obj p with
  |none=>rfl
  |some x=>have:=h.has.obj p x ho;rw[hp.1]at this;cases this
theorem C0{x:AObj}(h:st.obj p=none):(st.sO p x).Has st:=
  ⟨λb y hb=>by grind[zg],λ_ _ h=>h⟩
theorem ymd{x:Option Nat}(h:st.Has st'):(st.sT b x).Has (st'.sT b x):=
  ⟨h.obj,λi y hi=>by
    by_cases e:i=b
    · grind[H8]
    · rw[Oq e]at hi⊢;exact h.tok _ _ hi⟩
theorem App.dropObj{rows:List (List AV)}{x:AObj}(h:App k (st.sO p x) v rows st')(hp:st.obj p=none):∃st2,App k st v rows st2/\st'.Has st2:=by
  rcases h with⟨h1,h2,rfl⟩|⟨h1,h2,rfl⟩|⟨h1,b,hb,h2,rfl⟩
  · exact⟨st,.inl ⟨h1,h2,rfl⟩,C0 hp⟩
  · exact⟨st,.inr (.inl ⟨h1,h2,rfl⟩),C0 hp⟩
  · have hne:b≠p:=λe=>by have:=hb.1;rw[e,zd]at this;cases this
    refine⟨_,.inr (.inr ⟨h1,b,⟨?_,hb.2⟩,h2,rfl⟩),ymd (C0 hp)⟩;have:=hb.1
    rwa [zg hne]at this
theorem App.obj{rows:List (List AV)}(h:App k st v rows st')(p:Nat):st'.obj p=st.obj p:=by rcases h with⟨_,_,rfl⟩|⟨_,_,rfl⟩|⟨_,_,_,_,rfl⟩<;>rfl
theorem App.read{rows:List (List AV)}{x:AObj}(h:App k (st.sO p x) v rows st'):st'.obj p=some x:=by rw[h.obj,zd]
theorem lu{x:AObj}(h:st.Has st'):(st.sO p x).Has (st'.sO p x):=
  ⟨λi y hi=>by
    by_cases e:i=p
    · grind[zd]
    · rw[zg e]at hi⊢;exact h.obj _ _ hi,h.tok⟩
theorem App.split{rows:List (List AV)}{x:AObj}(h:App k (st.sO p x) v rows st'):∃st1:Store,st'=st1.sO p x/\st1.Has st/\∀y,App k (st.sO p y) v rows (st1.sO p y):=by
  rcases h with⟨h1,h2,rfl⟩|⟨h1,h2,rfl⟩|⟨h1,b,hb,h2,rfl⟩
  · exact⟨st,rfl,Store.Has.refl _,λy=>.inl ⟨h1,h2,rfl⟩⟩
  · exact⟨st,rfl,Store.Has.refl _,λy=>.inr (.inl ⟨h1,h2,rfl⟩)⟩
  · have hne:b≠p:=λe=>by have:=hb.1;rw[e,zd]at this;cases this
    have hf:Fresh st b:=⟨by have:=hb.1;rwa [zg hne]at this,hb.2⟩
    refine⟨st.sT b (some (rows.length*k)),(uf _ _ _ _ _).symm,⟨λ_ _ h=>h,λi y hi=>?_⟩,λy=>.inr (.inr ⟨h1,b,zds hf hne,h2,rfl⟩)⟩;have:i≠b:=λe=>by rw[e,hf.2]at hi;cases hi
    rw[Oq this];exact hi
theorem zde{x:Option Nat}(h:st.tok b=none):(st.sT b x).Has st:=
  ⟨λ_ _ h=>h,λi y hi=>by grind[Oq]⟩
theorem ACalls.drop{P:Program}{f:FuncId}{xs:List AV}{R:Ja}(h:st.Has st')(hc:ACalls P f xs st' R):ACalls P f xs st R:=by refine⟨λOth M w vs sto hr=>?_⟩;have h1:=hc.out Oth M w vs (sto.weaken h) hr;trivial
theorem App.cells{rows:List (List AV)}(h:App k st v rows st'):cellsOf v=some [v]:=by rcases h with⟨rfl,rfl,_⟩|⟨rfl,rfl,_⟩|⟨_,b,_,rfl,_⟩<;>rfl
theorem App.one{rows:List (List AV)}(h:App k st v rows st'):v.one=true:=by rcases h with⟨rfl,rfl,_⟩|⟨rfl,rfl,_⟩|⟨_,b,_,rfl,_⟩<;>rfl
theorem j4{l:List AV}{K:Fr->Store->Prop}(hc:cellsOf v=some [v])(h1:v.one=true)(hi:i.size=1)(ho:st.obj b=some (.cells l))(hl:o+1<=l.length)
    (hk:K A (st.sO b (.cells (zp l o [v])))):Db i A st (.av (.s (.pointer (some ⟨b,o,none⟩)))) v K:=by
  unfold Db;rw[hc];show(bif Nat.beq 1 i.size&&([v].all AV.one)then _ else False);rw[hi];simp only[List.all_cons,h1,List.all_nil,Fbr,Fdj,cond_true];rw[ho];exact⟨hl,Hq hk⟩
theorem zyv{l:List AV}{K:Fr->Store->Prop}(hc:cellsOf v=some [v])(h1:v.one=true)(hi:i.size=1)(ho:A.bx b=some l)(hl:o+1<=l.length)
    (hk:K (A.setBx b (zp l o [v])) st):Db i A st (.bx b o) v K:=by
  unfold Db;rw[hc];show(bif Nat.beq 1 i.size&&([v].all AV.one)then _ else False);rw[hi];simp only[List.all_cons,h1,List.all_nil,Fbr,Fdj,cond_true];rw[ho];have:Nat.ble (o+[v].length) l.length=true:=Fb6 hl;show(bif Nat.ble (o+[v].length) l.length then _ else False);rw[this];exact Hq hk
theorem sw{xs l:List AV}{K:Fr->Store->Prop}(hc:cellsOf v=some xs)(h1:xs.all AV.one=true)(hi:i.size=xs.length)(ho:A.bx b=some l)(hl:o+xs.length<=l.length)
    (hk:K (A.setBx b (zp l o xs)) st):Db i A st (.bx b o) v K:=by
  unfold Db;rw[hc];show(bif Nat.beq xs.length i.size&&(xs.all AV.one)then _ else False);rw[hi];simp only[h1,Fbr,Fdj,cond_true];rw[ho];have:Nat.ble (o+xs.length) l.length=true:=Fb6 hl;show(bif Nat.ble (o+xs.length) l.length then _ else False);rw[this];exact Hq hk
theorem qd{st2:Store}{l:List AV}{K:Fr->Store->Prop}(hc:cellsOf v=some [v])(h1:v.one=true)(hi:i.size=1)(ho:st.obj b=some (.cells l))(hl:o+1<=l.length)
    (he:st.sO b (.cells (zp l o [v]))=st2) (hk:K A st2):Db i A st (.av (.s (.pointer (some ⟨b,o,none⟩)))) v K:=
  j4 hc h1 hi ho hl (he▸hk)
theorem Ge{q:Nat}{x y:AObj}(h:q≠p):(st.sO p x).sO q y=(st.sO q y).sO p x:=by
  unfold Store.sO
  congr
  funext i
  by_cases hi:i=p
  · subst hi;simp[qe (Ne.symm h)]
  · simp[qe hi]
end
def u8(b:UInt8):AV:=.s (.int .u8 b.toNat)
def int(n:Int):AV:=.s (.int .i64 n)
def u64(n:Int):AV:=.s (.int .u64 n)
def bool(b:Bool):AV:=.s (.bool b)
def nil:AV:=.s (.slice none 0 0)
def rws{α:Type}(f:α->List AV)(l:List α):List (List AV):=l.map f
def lst{α:Type}(k:Nat)(f:α->List AV)(l:List α):AV:=.lst k (rws f l) none
section
variable {α:Type} {f:α->List AV}
theorem zj(l:List α):(rws f l).length=l.length:=by simp[rws]
theorem zq{l:List α}{i:Nat}(h:i<l.length):(rws f l)[i]?=some (f l[i]):=by simp[rws,h]
theorem ut{l:List α}{i:Nat}(h:i<l.length):rws f (l.take i)++[f l[i]]=rws f (l.take (i+1)):=by grind[rws,List.take_succ_eq_append_getElem]
theorem Ia(a b:List α):rws f a++rws f b=rws f (a++b):=by simp[rws]
theorem fj(l:List α)(n:Nat):(rws f l).take n=rws f (l.take n):=by simp[rws,List.map_take]
theorem fk(l:List α)(n:Nat):(rws f l).drop n=rws f (l.drop n):=by simp[rws,List.map_drop]
theorem wo{l:List α}{i:Nat}(h:decide ((i:Int)<((rws f l).length:Int))=true):i<l.length:=by rw[zj]at h;grind
theorem Aw{l:List α}{i:Nat}(h:decide ((i:Int)<((rws f l).length:Int))=false)(h2:i<=l.length):i=l.length:=by rw[zj]at h;grind
theorem V1{l m:List α}(h:(((rws f l).length:Int) != ((rws f m).length:Int))=true):l.length≠m.length:=by grind[zj]
theorem Nh{l m:List α}(h:(((rws f l).length:Int) != ((rws f m).length:Int))=false):l.length=m.length:=by grind[zj]
end
def u8C(b:UInt8):List AV:=[u8 b]
def zv(n:Int):List AV:=[int n]
abbrev rowsB(l:List UInt8):List (List AV):=rws u8C l
def ya(l:List UInt8):AV:=lst 1 u8C l
def yh(l:List Int):AV:=lst 1 zv l
theorem isF{R:Ja}{b:Bool}{st:Store}(h:R (bool b) st)(hb:b=false):R (bool false) st:=δ
theorem isT{R:Ja}{b:Bool}{st:Store}(h:R (bool b) st)(hb:b=true):R (bool true) st:=δ
structure Gnd where
 W:Int
 H:Int
 T:List UInt8
 deriving DecidableEq
structure Cmd where
 P:Int
 S:Int
 K:Int
 N:Int
 U:List Int
 T:Int
 W:Int
 H:Int
 X:Int
 Y:Int
 deriving DecidableEq
structure Frm where
 turn:Int
 C:List Cmd
 hash:Int
 deriving DecidableEq
def zu(g:Gnd):List AV:=[int g.W,int g.H,ya g.T]
def yz(c:Cmd):List AV:=[int c.P,int c.S,int c.K,int c.N,yh c.U,int c.T,int c.W,int c.H,int c.X,int c.Y]
def kk(f:Frm):List AV:=[int f.turn,lst 10 yz f.C,u64 f.hash]
def Cmd.fits(c:Cmd):Prop:=c.U.length<=1000000000000
def Gnd.fits(g:Gnd):Prop:=g.T.length<=1000000000000
def zt(g:Gnd):Prop:=(1<=g.W/\g.W<=128)/\(1<=g.H/\g.H<=128)/\(g.T.length:Int)=g.W*g.H/\∀t∈g.T,t.toNat<=5
def Dt(l:List Int):Prop:=(1<=l.length/\l.length<=64)/\∀j,j<l.length->(1<=l.getD j 0/\l.getD j 0<=1099511627776)/\(0<j->l.getD (j-1) 0<l.getD j 0)
def we(t:Int):Prop:=0<=t/\t<=16383
def idP(t:Int):Prop:=1<=t/\t<=1099511627776
def qt(x y:Int):Prop:=(-1099511627776<=x/\x<=1099511627776)/\(-1099511627776<=y/\y<=1099511627776)
def Cmd.only(c:Cmd):Cmd:=
 if c.K=1 then⟨c.P,c.S,c.K,c.N,[],0,0,0,c.X,c.Y⟩else
 if c.K=2 then⟨c.P,c.S,c.K,0,c.U,c.T,0,0,0,0⟩else
 if c.K=3 then⟨c.P,c.S,c.K,0,c.U,0,0,0,0,0⟩else
 if c.K=4 then⟨c.P,c.S,c.K,0,[],c.T,c.W,c.H,0,0⟩else
 if c.K=5 then⟨c.P,c.S,c.K,c.N,[],0,0,0,0,0⟩else
 if c.K=6 then⟨c.P,c.S,c.K,c.N,c.U,0,0,0,0,0⟩else
 if c.K=7 then⟨c.P,c.S,c.K,c.N,[],c.T,0,0,0,0⟩else
 ⟨c.P,c.S,c.K,0,[],0,0,0,0,0⟩
def Cmd.okP(c:Cmd):Prop:=
 (c.K=1/\(0<=c.N/\c.N<=3)/\qt c.X c.Y)\/(c.K=2/\Dt c.U/\we c.T)\/(c.K=3/\Dt c.U)∨
 (c.K=4/\we c.T/\(1<=c.W/\c.W<=4)/\(1<=c.H/\c.H<=4))\/(c.K=5/\idP c.N)\/(c.K=6/\Dt c.U/\idP c.N)\/(c.K=7/\idP c.N/\we c.T)
def Ai(c:Cmd):Prop:=c.okP/\(1<=c.P/\c.P<=8)/\(0<=c.S/\c.S<=1099511627776)/\c.only=c
theorem Cmd.ok1{c:Cmd}(h:c.K=1):c.okP↔(0<=c.N/\c.N<=3)/\qt c.X c.Y:=θk
theorem Cmd.only1{c:Cmd}(h:c.K=1):c.only=⟨c.P,c.S,c.K,c.N,[],0,0,0,c.X,c.Y⟩:=θl
theorem Cmd.ok2{c:Cmd}(h:c.K=2):c.okP↔Dt c.U/\we c.T:=θk
theorem Cmd.only2{c:Cmd}(h:c.K=2):c.only=⟨c.P,c.S,c.K,0,c.U,c.T,0,0,0,0⟩:=θl
theorem Cmd.ok3{c:Cmd}(h:c.K=3):c.okP↔Dt c.U:=θk
theorem Cmd.only3{c:Cmd}(h:c.K=3):c.only=⟨c.P,c.S,c.K,0,c.U,0,0,0,0,0⟩:=θl
theorem Cmd.ok4{c:Cmd}(h:c.K=4):c.okP↔we c.T/\(1<=c.W/\c.W<=4)/\(1<=c.H/\c.H<=4):=θk
theorem Cmd.only4{c:Cmd}(h:c.K=4):c.only=⟨c.P,c.S,c.K,0,[],c.T,c.W,c.H,0,0⟩:=θl
theorem Cmd.ok5{c:Cmd}(h:c.K=5):c.okP↔idP c.N:=θk
theorem Cmd.only5{c:Cmd}(h:c.K=5):c.only=⟨c.P,c.S,c.K,c.N,[],0,0,0,0,0⟩:=θl
theorem Cmd.ok6{c:Cmd}(h:c.K=6):c.okP↔Dt c.U/\idP c.N:=θk
theorem Cmd.only6{c:Cmd}(h:c.K=6):c.only=⟨c.P,c.S,c.K,c.N,c.U,0,0,0,0,0⟩:=θl
theorem Cmd.ok7{c:Cmd}(h:c.K=7):c.okP↔idP c.N/\we c.T:=θk
theorem Cmd.only7{c:Cmd}(h:c.K=7):c.only=⟨c.P,c.S,c.K,c.N,[],c.T,0,0,0,0⟩:=θl
theorem Cmd.ok0{c:Cmd}(h1:c.K≠1)(h2:c.K≠2)(h3:c.K≠3)(h4:c.K≠4)(h5:c.K≠5)(h6:c.K≠6)(h7:c.K≠7):¬c.okP:=by grind[Cmd.okP]
theorem Cmd.only0{c:Cmd}(h1:c.K≠1)(h2:c.K≠2)(h3:c.K≠3)(h4:c.K≠4)(h5:c.K≠5)(h6:c.K≠6)(h7:c.K≠7):c.only=⟨c.P,c.S,c.K,0,[],0,0,0,0,0⟩:=by grind[Cmd.only]
def leL:List AV->List AV->Prop
 |[],[]=>True
 |x::xs,y::ys=>AV.le x y/\leL xs ys
 |_,_=>False
theorem lh:∀{xs ys:List AV},leL xs ys->xs.length=ys.length/\∀(i:Nat) (x y:AV),xs[i]?=some x->ys[i]?=some y->AV.le x y:=by
 intro xs;induction xs with
 |nil=>
  intro ys h;cases ys with
  |nil=>simp
  |cons y ys=>exact h.elim
 |cons x xs ih=>
  intro ys h;cases ys with
  |nil=>exact h.elim
  |cons y ys=>
   obtain⟨h1,h2⟩:=ih h.2;refine⟨by simp[h1],λi u v hu hv=>?_⟩;cases i with
   |zero=>simp at hu hv;subst hu hv;exact h.1
   |succ i=>grind
theorem AV.le_aggL{xs ys:List AV}(h:leL xs ys):AV.le (.agg xs) (.agg ys):=AV.le_agg (lh h).1 (lh h).2
theorem zal{w:World}{T:Nat->Nat->Prop}{xs ys:List AV}{vs:List Value}(h:leL xs ys)(hr:Reads w T xs vs):Reads w T ys vs:=by obtain⟨h1,h2⟩:=lh h;refine⟨by rw[<-h1];exact hr.1,λi y v hy hv=>?_⟩;have hi:i<xs.length:=δ;exact h2 i xs[i] y (Fac hi) hy w T v (hr.2 i _ v (Fac hi) hv)
theorem AV.le_tupL{xs ys:List AV}(h:leL xs ys):AV.le (.tup xs) (.tup ys):=by intro w T v hv;grind[p9,vx,zal]
theorem ACalls.le{P:Program}{f:FuncId}{xs ys:List AV}{st:Store}{R:Ja}(h:leL xs ys)(hc:ACalls P f ys st R):ACalls P f xs st R:=
 ⟨λOth M w vs sto hr=>hc.out Oth M w vs sto (zal h hr)⟩
theorem Cmd.eq_of{a b:Cmd}(h1:a.P=b.P)(h2:a.S=b.S)(h3:a.K=b.K)(h4:a.N=b.N)(h5:a.U=b.U)(h6:a.T=b.T)(h7:a.W=b.W)(h8:a.H=b.H)(h9:a.X=b.X)(h10:a.Y=b.Y):a=b:=by cases a;simp_all
theorem Kn{a b:Int}(h1:1<=a/\a<=128)(h2:1<=b/\b<=128):1<=a*b/\a*b<=16384:=by have h3:a*b<=128*128:=Fbc h1.2 h2.2 θ θ;have h4:0<a*b:=Int.mul_pos θ θ;omega
def Ah(a b:Int):Int:=if a<b then -1 else if a>b then 1 else 0
def orZ(l:List Int):Int:=(l.find? (·≠0)).getD 0
def jy(n:Int):UInt8:=UInt8.ofNat (n%256).toNat
theorem lb(n:Int):IntKind.u8.wrap n=(jy n).toNat:=by grind[jy,UInt8.toNat_ofNat',IntKind.wrap,IntKind.bits,IntKind.signed]
theorem zgc(op:BinOp)(a b:UInt8):jk op .u8 a.toNat b.toNat=((match op with|.and=>a &&& b|.or=>a ||| b|.xor=>a^^^b|_=>a &&& ~~~b:UInt8).toNat:Int):=by
 have h:∀a:UInt8,BitVec.ofInt IntKind.u8.bits (a.toNat:Int)=a.toBitVec:=by intro a;apply BitVec.eq_of_toNat_eq;show(BitVec.ofInt 8 (a.toNat:Int)).toNat=a.toBitVec.toNat;simp
 have hw:∀x:UInt8,IntKind.u8.wrap (x.toBitVec.toNat:Int)=(x.toNat:Int):=by intro x;have hx:=x.toNat_lt;grind[IntKind.wrap,IntKind.bits,IntKind.signed]
 unfold jk;simp only[h];cases op<;>exact hw _
def zdx(s:Int)(b:UInt8):Int:=IntKind.u64.wrap (jk .xor .u64 s (IntKind.u64.wrap b.toNat)*1099511628211)
def xe(s:Int)(l:List UInt8):Int:=l.foldl zdx s
def xy:Int:=14695981039346656037
theorem ynw{s:Int}{l:List UInt8}{i:Nat}(h:i<l.length):xe s (l.take (i+1))=zdx (xe s (l.take i)) l[i]:=by grind[xe,List.take_succ_eq_append_getElem]
def xi(s:Int):List UInt8:=(List.range 8).map λi=>jy (s/256^i)
theorem Lj(s:Int):(xi s).length=8:=ξ
theorem yo9(s:Int){i:Nat}(h:i<8):(xi s).take i++[jy (s/256^i)]=(xi s).take (i+1):=by grind[List.take_succ_eq_append_getElem,xi]
theorem zzo(s:Int)(i:Nat):(s/256^i).fdiv (2^(min (8:Int).toNat IntKind.u64.bits))=s/256^(i+1):=by have:(min (8:Int).toNat IntKind.u64.bits)=8:=ψ;grind[Int.ediv_ediv_of_nonneg]
def Bh(n:Nat):List UInt8:=if h:128<=n then(jy n ||| 128)::Bh (n/128)else [jy n]
termination_by n
decreasing_by omega
def yv(n:Int):List UInt8:=if 128<=n then Bh n.toNat else [jy n]
theorem ygt{n:Int}(h:128<=n):yv n=(jy n ||| 128)::yv (n/128):=by
 obtain⟨m,rfl⟩:=Fbl (a:=n) θ;unfold yv;rw[if_pos h,Fa8];rw[Bh,dif_pos θ]
 congr 1
 split
 ·congr 1
 ·rw[Bh,dif_neg θ];rfl
theorem ygs{n:Int}(h:n<128):yv n=[jy n]:=by unfold yv;grind
theorem ygw:∀(k n:Nat),n<128^k->(Bh n).length<=max k 1:=by
 intro k;induction k with
 |zero=>simp_all[Bh]
 |succ k ih=>
  grind[Bh]
theorem De{n:Int}(h:n<=9223372036854775807):(yv n).length<=9:=by
 unfold yv;split
 ·exact ygw 9 n.toNat θ
 ·simp
def jo(l:List Int):List UInt8:=l.flatMap yv
theorem yib{l:List Int}{i:Nat}(h:i<l.length):jo (l.take (i+1))=jo (l.take i)++yv l[i]:=by grind[jo,List.take_succ_eq_append_getElem]
theorem Ky:∀{l:List Int},(∀n∈l,n<=9223372036854775807)->(jo l).length<=9*l.length:=by
 intro l;induction l with
 |nil=>trivial
 |cons n l ih=>
  grind[De,jo]
def vr(n:Int):List UInt8:=if n<0 then yv (-2*n-1)else yv (2*n)
def I64(n:Int):Prop:=-9223372036854775808<=n/\n<=9223372036854775807
def I62(n:Int):Prop:=-4611686018427387904<n/\n<4611686018427387904
def kx(g:Gnd):List UInt8:=[84,71]++yv g.W++yv g.H++g.T
def xx(g:Gnd):List UInt8:=kx g++xi (xe xy (kx g))
theorem Wg{n:Int}(h:I62 n):(vr n).length<=9:=by grind[vr,I62,De]
theorem lz{g:Gnd}(h:zt g):(kx g).length<=16404/\(xx g).length<=16412:=by obtain⟨h1,h2,h3,_⟩:=h;have hm:=Kn h1 h2;grind[De,kx,xx,Lj]
theorem yj7(n:Int)(h:0<=n):jy (n.tmod 128) ||| 128=jy n ||| 128:=by
 rw[Fbz h];have e:∀m:Nat,m<256->(UInt8.ofNat (m%128)) ||| 128=(UInt8.ofNat m) ||| 128:=by decide+kernel
 grind[jy]
theorem yhy(m:Int):jk .or .u8 (IntKind.u8.wrap m) 128=((jy m ||| 128).toNat:Int):=by rw[lb];exact zgc .or (jy m) 128
theorem uc(m:Int):m.fdiv (2^(min (7:Int).toNat IntKind.i64.bits))=m/128:=by have:(min (7:Int).toNat IntKind.i64.bits)=7:=ψ;grind
end Go.V
namespace Go.V
theorem ig(a q m:Nat)(h:a<2^m):a ||| q*2^m=a+q*2^m:=by grind[Nat.two_pow_add_eq_or_of_lt,Nat.mul_comm]
theorem ot(a b:Nat)(ha:a<2^64)(hb:b<2^64):jk .or .i64 a b=IntKind.i64.wrap ((a ||| b:Nat):Int)/\jk .or .u64 a b=IntKind.u64.wrap ((a ||| b:Nat):Int):=by
 have h:∀a:Nat,a<2^64->(BitVec.ofInt 64 (a:Int)).toNat=a:=φ;constructor
 ·show IntKind.i64.wrap ((BitVec.ofInt 64 (a:Int) ||| BitVec.ofInt 64 (b:Int)).toNat:Int)=_;grind
 ·show IntKind.u64.wrap ((BitVec.ofInt 64 (a:Int) ||| BitVec.ofInt 64 (b:Int)).toNat:Int)=_;grind
theorem Cp{v:Int}(h:0<=v)(h2:v<18446744073709551616):IntKind.u64.wrap v=v:=by grind[IntKind.wrap,IntKind.bits,IntKind.signed]
theorem yhu{n:Int}{q m:Nat}(h0:0<=n)(h1:n<2^m)(h2:n+q*2^m<9223372036854775808):jk .or .i64 n (q*2^m)=n+q*2^m:=by obtain⟨a,rfl⟩:=Fbl h0;have e:((q:Int)*2^m)=((q*2^m:Nat):Int):=φ;have h1':a<2^m:=δ;rw[e]at h2⊢;have h3:a+q*2^m<9223372036854775808:=θ;rw[(ot a (q*2^m) θ θ).1,ig a q m h1',N6 ⟨θ,θ⟩];simp
theorem yhs{n:Int}{q m:Nat}(h0:0<=n)(h1:n<2^m)(h2:n+q*2^m<18446744073709551616):jk .or .u64 n (q*2^m)=n+q*2^m:=by obtain⟨a,rfl⟩:=Fbl h0;have e:((q:Int)*2^m)=((q*2^m:Nat):Int):=φ;have h1':a<2^m:=δ;rw[e]at h2⊢;have h3:a+q*2^m<18446744073709551616:=θ;rw[(ot a (q*2^m) θ θ).2,ig a q m h1',Cp θ θ];simp
def xq:List UInt8->Nat->Int->Int×Nat×Int
 |[],_,_=>(0,0,11)
 |c::l,i,n=>
  if(128<=c.toNat/\i=8)\/(c.toNat=0/\0<i)then(0,0,1)
  else if c.toNat<128 then(n+(c.toNat%128:Nat)*128^i,i+1,0)
  else xq l (i+1) (n+(c.toNat%128:Nat)*128^i)
def ye(b:List UInt8):Int×Nat×Int:=xq b 0 0
theorem za3(i:Nat):(128:Int)^i=2^(7*i):=by rw[Int.pow_mul];rfl
theorem Sf{n:Int}{x i:Nat}(h0:0<=n)(h:n<128^i)(hx:x<128):0<=n+x*128^i/\n+x*128^i<128^(i+1):=by have hp:(0:Int)<128^i:=Int.pow_pos ψ;rw[Int.pow_succ];have:(x:Int)*128^i<=127*128^i:=Fdv θ θ;grind
theorem Vn{i:Nat}(h:i<=9):(128:Int)^i<=9223372036854775808:=by have:i=0\/i=1\/i=2\/i=3\/i=4\/i=5\/i=6\/i=7\/i=8\/i=9:=θ;grind
theorem yni:∀(b:List UInt8) (i:Nat) (n:Int),i<=8->0<=n->n<128^i->
  ((xq b i n).2.2=0/\(xq b i n).2.1<=i+b.length/\1<=(xq b i n).2.1/\(xq b i n).2.1<=9/\0<=(xq b i n).1/\(xq b i n).1<9223372036854775808)∨
  ((xq b i n).1=0/\(xq b i n).2.1=0/\((xq b i n).2.2=1\/(xq b i n).2.2=11)):=by
 intro b;induction b with
 |nil=>intro i n _ _ _;right;simp[xq]
 |cons c l ih=>
  intro i n hi h0 h1;have hs:=Sf (x:=c.toNat%128) h0 h1 (Nat.mod_lt _ θ);have hp:=Vn (i:=i+1) θ;unfold xq;grind
theorem D8(b:List UInt8):
  ((ye b).2.2=0/\(ye b).2.1<=b.length/\1<=(ye b).2.1/\(ye b).2.1<=9/\0<=(ye b).1/\(ye b).1<9223372036854775808)∨
  ((ye b).1=0/\(ye b).2.1=0/\((ye b).2.2=1\/(ye b).2.2=11)):=by
 have:=yni b 0 0 θ θ ψ;rw[Fbi]at this;exact this
theorem zzr{x i:Nat}(hx:x<128)(hi:i<=8):IntKind.i64.wrap ((x:Int)*2^(min ((7:Int)*(i:Int)).toNat IntKind.i64.bits))=x*2^(7*i):=by
 have:(min ((7:Int)*(i:Int)).toNat IntKind.i64.bits)=7*i:=by show min ((7:Int)*(i:Int)).toNat 64=7*i;omega
 rw[this];refine N6 ?_;have h:=Sf (n:=0) (x:=x) (i:=i) θ (Int.pow_pos ψ) hx;have hp:=Vn (i:=i+1) θ;rw[za3]at h;unfold yg;omega
theorem or7{n:Int}{x i:Nat}(h0:0<=n)(h1:n<128^i)(hx:x<128)(hi:i<=8):jk .or .i64 n (IntKind.i64.wrap ((x:Int)*2^(min ((7:Int)*(i:Int)).toNat IntKind.i64.bits)))=n+x*128^i:=by rw[zzr hx hi];have hs:=Sf h0 h1 hx;have hp:=Vn (i:=i+1) θ;grind[za3,yhu]
theorem zgy(c:UInt8):jk .and .u8 c.toNat 127=((c.toNat%128:Nat):Int):=by
 have h:=zgc .and c 127;have e:(c &&& 127).toNat=c.toNat%128:=by rw[UInt8.toNat_and];exact Nat.and_two_pow_sub_one_eq_mod c.toNat 7
 grind
def zig(n:Int):Int:=if n%2=0 then n/2 else -(n/2)-1
theorem zg9{n:Int}(h:0<=n)(h2:n<9223372036854775808):-4611686018427387904<=zig n/\zig n<4611686018427387904:=by unfold zig;omega
def Bz(b:List UInt8):Int×Nat×Int:=(zig (ye b).1,(ye b).2.1,(ye b).2.2)
def jr(b:List UInt8):List UInt8×Nat×Int:=
 if(ye b).2.2≠0 then([],0,(ye b).2.2)
 else if(ye b).1>1048576 then([],0,1)
 else if(ye b).1>(b.length:Int)-(ye b).2.1 then([],0,11)
 else((b.drop (ye b).2.1).take (ye b).1.toNat,(ye b).2.1+(ye b).1.toNat,0)
structure Rd where
 b:List UInt8
 e:Int
 deriving DecidableEq
def Rd.fail(s:Rd)(e:Int):Rd:=if s.e=0 then⟨s.b,e⟩else s
def Rd.must(s:Rd)(ok:Bool):Rd:=if ok then s else s.fail 1
def Rd.take(s:Rd)(n:Int)(k:Nat)(e:Int):Int×Rd:=if(s.fail e).e≠0 then(0,s.fail e)else(n,⟨s.b.drop k,0⟩)
def inB(n lo hi:Int):Bool:=decide (lo<=n/\n<=hi)
def Rd.got(s:Rd)(g:Int×Nat×Int)(lo hi:Int):Int×Rd:=
 if s.e≠0 then(0,s)else((s.take g.1 g.2.1 g.2.2).1,(s.take g.1 g.2.1 g.2.2).2.must (inB (s.take g.1 g.2.1 g.2.2).1 lo hi))
def Rd.num(s:Rd)(lo hi:Int):Int×Rd:=s.got (ye s.b) lo hi
def Rd.int(s:Rd)(lo hi:Int):Int×Rd:=s.got (Bz s.b) lo hi
def Rd.byte(s:Rd):UInt8×Rd:=
 if s.e≠0 then(0,s)else match s.b with|[]=>(0,⟨[],11⟩)|c::l=>(c,⟨l,0⟩)
def Rd.same(s:Rd)(l:List UInt8):Rd:=l.foldl (λs c=>s.byte.2.must (s.byte.1==c)) s
def Rd.raw(s:Rd):List UInt8×Rd:=if s.e≠0 then([],s)else((jr s.b).1,(s.take 0 (jr s.b).2.1 (jr s.b).2.2).2)
def Rd.fin(s:Rd):Rd:=s.must (s.b.length==0)
end Go.V
namespace Go.V
theorem Pb(s:Rd)(lo hi:Int):0<=(s.num lo hi).1/\(s.num lo hi).1<9223372036854775808:=by grind[Rd.num,Rd.got,Rd.take,D8]
theorem Ik{s:Rd}{ok:Bool}(h:(s.must ok).e=0):s.e=0/\ok=true/\s.must ok=s:=by unfold Rd.must Rd.fail at*;grind
theorem Pp{s:Rd}{g:Int×Nat×Int}{lo hi:Int}(h:(s.got g lo hi).2.e=0):s.e=0/\g.2.2=0/\(s.got g lo hi).1=g.1/\(s.got g lo hi).2=⟨s.b.drop g.2.1,0⟩/\lo<=g.1/\g.1<=hi:=by
 unfold Rd.got at*;by_cases h1:s.e=0
 ·rw[if_neg θ]at h⊢;simp only at h⊢;obtain⟨h2,h3,h4⟩:=Ik h;unfold Rd.take at*;split at h2
  ·grind
  simp_all[Rd.fail,inB]
 grind
theorem V3(s:Rd)(ok:Bool):(s.must ok).b=s.b:=by grind[Rd.must,Rd.fail]
theorem sj(s:Rd)(n:Int)(k:Nat)(e:Int):(s.take n k e).2.b.length<=s.b.length:=by grind[Rd.take,Rd.fail]
theorem zdm(s:Rd)(g:Int×Nat×Int)(lo hi:Int):(s.got g lo hi).2.b.length<=s.b.length:=by
 unfold Rd.got;split
 ·simp
 grind[V3,sj]
theorem zfz(s:Rd):s.byte.2.b.length<=s.b.length:=by obtain⟨b,e⟩:=s;unfold Rd.byte;grind
theorem Sq(s:Rd)(l:List UInt8):(s.same l).b.length<=s.b.length:=by
 induction l generalizing s with
 |nil=>exact Fak _
 |cons c l ih=>
  have h:=ih (s.byte.2.must (s.byte.1==c));rw[V3]at h;exact Fbv h (zfz s)
theorem zap(s:Rd):s.raw.2.b.length<=s.b.length:=by
 unfold Rd.raw;split
 ·simp
 ·exact sj _ _ _ _
theorem Ii(s:Rd)(lo hi:Int):(s.num lo hi).2.b.length<=s.b.length:=zdm _ _ _ _
theorem zc2(s:Rd)(lo hi:Int):(s.int lo hi).2.b.length<=s.b.length:=zdm _ _ _ _
end Go.V
namespace Go.V
theorem ync{b:List UInt8}(h:(jr b).2.2=0):(jr b).2.1<=b.length:=by
 have hf:=D8 b;by_cases h1:(ye b).2.2≠0
 ·simp_all[jr]
 ·by_cases h2:(ye b).1>1048576
  ·simp_all[jr]
  ·by_cases h3:(ye b).1>(b.length:Int)-(ye b).2.1
   ·simp_all[jr]
   ·unfold jr;grind
end Go.V
namespace Go.V
end Go.V
namespace Go.V
def Rd.tilesGo:Nat->Rd->List UInt8->List UInt8×Rd
 |0,s,l=>(l,s)
 |n+1,s,l=>if s.e≠0 then(l,s)else tilesGo n (s.byte.2.must (decide (s.byte.1.toNat<=5))) (l++[s.byte.1])
theorem R7{n:Nat}{s:Rd}{l:List UInt8}(h:s.e=0):Rd.tilesGo (n+1) s l=Rd.tilesGo n (s.byte.2.must (decide (s.byte.1.toNat<=5))) (l++[s.byte.1]):=by simp_all[Rd.tilesGo]
theorem Og{n:Nat}{s:Rd}{l:List UInt8}(h:s.e≠0):Rd.tilesGo n s l=(l,s):=by
 cases n with
 |zero=>rfl
 |succ n=>rw[Rd.tilesGo,if_pos h]
theorem zjv:∀(n:Nat) (s:Rd) (l:List UInt8),(Rd.tilesGo n s l).2.b.length<=s.b.length:=by
 intro n;induction n with
 |zero=>intro s l;exact Fak _
 |succ n ih=>
  intro s l;by_cases h:s.e=0
  ·grind[R7,V3,zfz]
  simp_all[Og]
def jg(b:List UInt8):Int×Rd:=(Rd.same ⟨b,0⟩ [84,71]).num 1 128
def jf(b:List UInt8):Int×Rd:=(jg b).2.num 1 128
def Bw(b:List UInt8):List UInt8×Rd:=Rd.tilesGo ((jg b).1*(jf b).1).toNat (jf b).2 []
def Im(b:List UInt8):Rd:=((Bw b).2.same (xi (xe xy (b.take (b.length-(Bw b).2.b.length))))).fin
def ki(b:List UInt8):Gnd×Int:=if(Im b).e≠0 then(⟨0,0,[]⟩,(Im b).e)else(⟨(jg b).1,(jf b).1,(Bw b).1⟩,0)
theorem zcj{b:List UInt8}(h:(jf b).2.e=0):1<=(jg b).1*(jf b).1/\(jg b).1*(jf b).1<=16384:=by have h1:=Pp h;have h2:=Pp h1.1;have e1:(jf b).1=(ye (jg b).2.b).1:=h1.2.2.1;have e2:(jg b).1=(ye (Rd.same ⟨b,0⟩ [84,71]).b).1:=h2.2.2.1;exact Kn θ θ
theorem yj1(b:List UInt8):(Bw b).2.b.length<=b.length:=by have h1:=zjv ((jg b).1*(jf b).1).toNat (jf b).2 [];have h2:=Ii (jg b).2 1 128;have h3:=Ii (Rd.same ⟨b,0⟩ [84,71]) 1 128;have h4:=Sq ⟨b,0⟩ [84,71];exact Fbv h1 (Fbv h2 (Fbv h3 h4))
end Go.V
namespace Go.V
end Go.V
namespace Go.V
def Cmd.sized(c:Cmd):Prop:=c.U.length<=140737488355328
end Go.V
namespace Go.V
end Go.V
namespace Go.V
section
variable {n a:Int}
def nrm(a:Int):Int:=if a< -9223372036854775807 then -9223372036854775807 else a
theorem yii(n:Int):max2 n (Int.negSucc 9223372036854775806)=nrm n:=by simp_all[max2,nrm]
theorem Ac(h:yg n):-9223372036854775807<=nrm n/\nrm n<=9223372036854775807:=by grind[yg,nrm]
theorem Fm(h:-9223372036854775807<=n):nrm n=n:=by unfold nrm;omega
theorem yih(n:Int):nrm (nrm n)=nrm n:=by unfold nrm;omega
def vd(s:Int):Int:=if s>9223372036854775807 then 9223372036854775807 else if s< -9223372036854775807 then -9223372036854775807 else s
def qg(a b:Int):Int:=vd (nrm a+nrm b)
def qa(a b:Int):Int:=qg a (-nrm b)
theorem bm(s:Int):-9223372036854775807<=vd s/\vd s<=9223372036854775807:=by grind[vd]
theorem my(a b:Int):-9223372036854775807<=qg a b/\qg a b<=9223372036854775807:=bm _
theorem mh(a b:Int):-9223372036854775807<=qa a b/\qa a b<=9223372036854775807:=bm _
theorem W6(a b:Int):yg (qg a b):=by have:=my a b;unfold yg;omega
theorem I1(a b:Int):yg (qa a b):=by have:=mh a b;unfold yg;omega
def asz(a:Int):Int:=if nrm a<0 then -nrm a else nrm a
theorem I5(h:yg n):0<=asz n/\asz n<=9223372036854775807:=by have:=Ac h;unfold asz;omega
def j3(n:Int):List AV:=[u64 (n/18446744073709551616),u64 (n%18446744073709551616)]
theorem Ls(v:Int):IntKind.u64.wrap v=v%18446744073709551616:=ξ
theorem Ny(h:0<=a):jk .and .u64 a 4294967295=a%4294967296:=by obtain⟨n,rfl⟩:=Fbl h;show IntKind.u64.wrap ((BitVec.ofInt 64 (n:Int) &&& BitVec.ofInt 64 (4294967295:Int)).toNat:Int)=_;rw[Ls];have e1:BitVec.ofInt 64 (n:Int)=BitVec.ofNat 64 n:=BitVec.ofInt_natCast ..;have e2:BitVec.ofInt 64 (4294967295:Int)=BitVec.ofNat 64 4294967295:=rfl;rw[e1,e2,BitVec.toNat_and,BitVec.toNat_ofNat,BitVec.toNat_ofNat];have e3:(4294967295:Nat)%2^64=2^32-1:=ψ;rw[e3,Nat.and_two_pow_sub_one_eq_mod];omega
theorem zzp(a:Int):a.fdiv (2^(min (32:Int).toNat IntKind.u64.bits))=a/4294967296:=by have:(min (32:Int).toNat IntKind.u64.bits)=32:=ψ;grind
theorem yg7:(2:Int)^(min (32:Int).toNat IntKind.u64.bits)=4294967296:=ψ
theorem yon(a:Int):a.fdiv 4294967296=a/4294967296:=Int.fdiv_eq_ediv_of_nonneg _ ψ
theorem Rv{hi lo:Int}(h1:hi=n/18446744073709551616)(h2:lo=n%18446744073709551616):[AV.s (.int .u64 hi),AV.s (.int .u64 lo)]=j3 n:=by subst h1 h2;rfl
theorem yhw{b:Int}(ha:0<=a)(hb:0<=b)(hb2:b<4294967296):jk .or .u64 ((a*4294967296)%18446744073709551616) b=(a*4294967296)%18446744073709551616+b:=by
 have e:(a*4294967296)%18446744073709551616=(a%4294967296)*2^32:=θ;obtain⟨q,hq⟩:=Fbl (show 0<=a%4294967296 by omega);have e2:=@yhs b q 32 hb θ θ;have comm:∀x y:Int,jk .or .u64 x y=jk .or .u64 y x:=by grind[jk]
 grind
theorem sd(x y:Int)(hx:0<=x)(hx2:x<18446744073709551616)(hy:0<=y)(hy2:y<18446744073709551616):
  ∃p00 p10 p01 p11:Int,p00=(x%4294967296)*(y%4294967296)/\p10=(x/4294967296)*(y%4294967296)/\p01=(x%4294967296)*(y/4294967296)/\p11=(x/4294967296)*(y/4294967296)∧
   x*y=p11*18446744073709551616+(p10+p01)*4294967296+p00/\0<=p00/\p00<=18446744065119617025/\0<=p10/\p10<=18446744065119617025/\0<=p01/\p01<=18446744065119617025/\0<=p11/\p11<=18446744065119617025:=by
 have b:∀u v:Int,0<=u->u<=4294967295->0<=v->v<=4294967295->0<=u*v/\u*v<=18446744065119617025:=by intro u v h1 h2 h3 h4;refine⟨Faw h1 h3,?_⟩;have h5:u*v<=4294967295*4294967295:=Fbc h2 h4 h3 ψ;exact h5
 refine⟨_,_,_,_,rfl,rfl,rfl,rfl,?_,?_⟩
 ·grind
 ·obtain⟨h1,h2⟩:=b (x%4294967296) (y%4294967296) θ θ θ θ;obtain⟨h3,h4⟩:=b (x/4294967296) (y%4294967296) θ θ θ θ;obtain⟨h5,h6⟩:=b (x%4294967296) (y/4294967296) θ θ θ θ;obtain⟨h7,h8⟩:=b (x/4294967296) (y/4294967296) θ θ θ θ;omega
abbrev Vc:=Int×Int
def yd(p:Vc):List AV:=[int p.1,int p.2]
def Vc.ok(p:Vc):Prop:=yg p.1/\yg p.2
def xc(a b:Vc):Vc:=(qa a.1 b.1,qa a.2 b.2)
def sqr(v:Vc):Int:=asz v.1*asz v.1+asz v.2*asz v.2
def near(a b:Vc)(r:Int):Bool:=decide (0<r/\sqr (xc a b)<r*r)
end
end Go.V
namespace Go.V
def Store.un(a g:Store):Store:=
  ⟨λb=>match g.obj b with|some x=>some x|none=>a.obj b,λb=>match g.tok b with|some x=>some x|none=>a.tok b⟩
def Store.has(g:Store)(b:Nat):Prop:=g.obj b≠none\/g.tok b≠none
def zh(a g:Store):Prop:=∀b,a.has b->¬g.has b
theorem wl{g:Store}{b:Nat}(h:¬g.has b):g.obj b=none/\g.tok b=none:=by
  constructor
  · cases h1:g.obj b with
    |none=>rfl
    |some x=>exact absurd (Or.inl δ) h
  · cases h1:g.tok b with
    |none=>rfl
    |some x=>exact absurd (Or.inr δ) h
theorem k9{g:Store}{b:Nat}{x:AObj}(h:g.obj b=some x):g.has b:=.inl δ
theorem Pn{g:Store}{b:Nat}{x:Nat}(h:g.tok b=some x):g.has b:=.inr δ
theorem fresh_iff{g:Store}{b:Nat}:Fresh g b↔¬g.has b:=
  ⟨λ⟨h1,h2⟩ h=>h.elim (λh=>h h1) (λh=>h h2),wl⟩
theorem zf{a g:Store}{b:Nat}{x:AObj}(h:g.obj b=some x):(a.un g).obj b=some x:=by simp[Store.un,h]
theorem yj{a g:Store}{b:Nat}{x:AObj}(hd:zh a g)(h:a.obj b=some x):(a.un g).obj b=some x:=by simp[Store.un,(wl (hd b (k9 h))).1,h]
theorem Lz{a g:Store}{b:Nat}{x:Nat}(hd:zh a g)(h:a.tok b=some x):(a.un g).tok b=some x:=by simp[Store.un,(wl (hd b (Pn h))).2,h]
theorem Ha{a g:Store}{b:Nat}{x:Nat}(h:g.tok b=some x):(a.un g).tok b=some x:=by simp[Store.un,h]
theorem rt{a g:Store}{b:Nat}{x:AObj}(h:(a.un g).obj b=some x):g.obj b=some x\/(g.obj b=none/\a.obj b=some x):=by simp only[Store.un]at h;grind
theorem rr{a g:Store}{b:Nat}{x:Nat}(h:(a.un g).tok b=some x):g.tok b=some x\/(g.tok b=none/\a.tok b=some x):=by simp only[Store.un]at h;grind
theorem un_has{a g:Store}{b:Nat}:(a.un g).has b↔a.has b\/g.has b:=by grind[Store.has,Store.un]
section
variable {P:Program}
theorem ACalls.frame{f:FuncId}{xs:List AV}{a g:Store}{R R':Ja}(hd:zh a g)(h:ACalls P f xs a R)(hR:∀r a',R r a'->zh a' g->R' r (a'.un g)):ACalls P f xs (a.un g) R':=by
  refine⟨λOth M w vs sto hr=>?_⟩
  let gM:Nat->Nat->Prop:=λb o=>M b o/\g.has b
  let M1:Nat->Nat->Prop:=λb o=>M b o/\¬g.has b
  let O1:Nat->Nat->Prop:=λb o=>Oth b o\/gM b o
  have hT:(λ(b o:Nat)=>M1 b o\/O1 b o)=λb o=>M b o\/Oth b o:=δ
  have sto1:StoreOK a O1 M1 w:=
    { obj:=λb x hx=>by
        rw[hT];have:=sto.obj b x (yj hd hx);exact⟨this.1,λo=>⟨this.2 o,hd b (k9 hx)⟩⟩
      tok:=λb top hx=>by obtain⟨c,e,fr,h1,h2,h3,h4⟩:=sto.tok b top (Lz hd hx);exact⟨c,e,fr,h1,h2,h3,λo ho=>⟨h4 o ho,hd b (Pn hx)⟩⟩
      mlt:=λb o hm=>sto.mlt b o hm.1
      olt:=λb o hm=>by
        rcases hm with h|h
        · exact sto.olt b o h
        · exact sto.mlt b o h.1
      dis:=λb o hO hM=>by
        rcases hO with h|h
        · exact sto.dis b o h hM.1
        grind}
  have h1:=h.out O1 M1 w vs sto1 δ;have key:∀v w',qy a R O1 M1 w v w'->qy (a.un g) R' Oth M w v w':=by
    rintro v w' ⟨r,a',M2,hRr,hv,hsto,hchg⟩
    let M':Nat->Nat->Prop:=λb o=>M2 b o\/gM b o
    have hT2:(λ(b o:Nat)=>M2 b o\/O1 b o)=λb o=>M' b o\/Oth b o:=δ;have hglt:∀b,g.has b->b<w.heap.size:=by
      intro b hb;rcases hb with hb|hb
      · cases hx:g.obj b with
        |none=>grind
        |some x=>exact sto.mlt b 0 ((sto.obj b x (zf hx)).2 0)
      · cases hx:g.tok b with
        |none=>grind
        | some x=>
          obtain⟨c,e,fr,h1,_⟩:=sto.tok b x (Ha hx);grind
    have hno:∀b o,M2 b o->¬g.has b:=λb o hm hg=>(hchg.sub b o hm (hglt b hg)).2 hg;have hd':zh a' g:=by
      intro b hb;rcases hb with hb|hb
      · cases hx:a'.obj b with
        |none=>grind
        |some x=>exact hno b 0 ((hsto.obj b x hx).2 0)
      · cases hx:a'.tok b with
        |none=>grind
        | some x=>
          obtain⟨c,e,fr,h1,h2,h3,h4⟩:=hsto.tok b x hx;grind
    have hblk:∀b,g.has b->w'.heap[b]?=w.heap[b]?:=λb hg=>hchg.blk b (hglt b hg) λo hm=>hm.2 hg;refine⟨r,a'.un g,M',hR r a' hRr hd',δ,?_,?_⟩
    · refine{obj:=λb x hx=>?_,tok:=λb top hx=>?_,mlt:=λb o hm=>?_,olt:=λb o hm=>Nat.lt_of_lt_of_le (sto.olt b o hm) hchg.size,dis:=λb o hO hM=>?_}
      · rcases rt hx with hx|⟨_,hx⟩
        · have h5:=sto.obj b x (zf hx)
          have hk:=hchg.keeps (Oth:=O1);grind[ObjRel.same,k9]
        · have h5:=hsto.obj b x hx
          grind
      · rcases rr hx with hx|⟨_,hx⟩
        · obtain⟨c,e,fr,h1,h2,h3,h4⟩:=sto.tok b top (Ha hx)
          grind[Pn]
        · obtain⟨c,e,fr,h1,h2,h3,h4⟩:=hsto.tok b top hx
          grind
      · rcases hm with h|h
        · exact hsto.mlt b o h
        grind
      · rcases hM with h|h
        · exact hsto.dis b o (.inl hO) h
        · exact sto.dis b o hO h.1
    · exact
        { size:=hchg.size
          keep:=λb o hb hm=>hchg.keep b o hb λh=>hm h.1
          blk:=λb hb hm=>hchg.blk b hb λo h=>hm o h.1
          shp:=hchg.shp
          sub:=λb o hm hb=>by
            rcases hm with h|h
            · exact(hchg.sub b o h hb).1
            grind
          tape:=hchg.tape
          os:=hchg.os
          output:=hchg.output}
  generalize(callFunc f vs).run P w=res at h1;cases res with
  | ok n w'=>
    cases n with
    |enter f' args=>exact Calls.mono h1 λe w'' ⟨v,he,hv⟩=>⟨v,he,key _ _ hv⟩
    |value v=>exact key _ _ h1
    |_=>exact h1
  |_=>exact h1
def flat(r:AV):Prop:=∀w T w' T' v,VRel w T r v->VRel w' T' r v
theorem zd0(v:Value):flat (.s v):=λ_ _ _ _ _ h=>by cases h;exact .s _
theorem ACalls.read{f:FuncId}{xs ys:List AV}{g:Store}{Q:AV->Prop}{R:Ja}
    (hb:∀Oth M w vs,StoreOK g Oth M w->Reads w (λb o=>M b o\/Oth b o) xs vs->Reads w (λb o=>(M b o\/Oth b o)/\g.obj b=none) ys vs)
    (h:ACalls P f ys Store.empty λr _=>Q r) (hf:∀r,Q r->flat r) (hR:∀r,Q r->R r g):ACalls P f xs g R:=by
  refine⟨λOth M w vs sto hr=>?_⟩
  let O1:Nat->Nat->Prop:=λb o=>(M b o\/Oth b o)/\g.obj b=none
  have sto0:StoreOK Store.empty O1 (λ_ _=>False) w:=
    {obj:=λb x hx=>θa,tok:=λb x hx=>θa,mlt:=λ_ _ h=>h.elim,olt:=λb o h=>Or.elim h.1 (sto.mlt b o) (sto.olt b o),dis:=λ_ _ _ h=>h}
  have h1:=h.out O1 (λ_ _=>False) w vs sto0 δ;have key:∀v w',qy Store.empty (λr _=>Q r) O1 (λ_ _=>False) w v w'->qy g R Oth M w v w':=by
    rintro v w' ⟨r,a',M2,hQ,hv,hsto,hchg⟩;have hg:Grow w w':=⟨hchg.size,λb hb=>hchg.blk b hb λ_ h=>h,hchg.tape,hchg.os,hchg.output⟩
    exact⟨r,g,M,hR r hQ,hf r hQ _ _ _ _ _ hv,sto.grow hg,hg.chg M⟩
  generalize(callFunc f vs).run P w=res at h1;cases res with
  | ok n w'=>
    cases n with
    |enter f' args=>exact Calls.mono h1 λe w'' ⟨v,he,hv⟩=>⟨v,he,key _ _ hv⟩
    |value v=>exact key _ _ h1
    |_=>exact h1
  |_=>exact h1
theorem yrr{w:World}{T:Nat->Nat->Prop}{b n cap k:Nat}{rows:List (List AV)}{pad:List AV}(ho:CellsRel w T (rows.flatten++pad) b){T':Nat->Nat->Prop}(hT:∀o,¬T' b o)(hn:rows.length=n)(hcap:n<=cap)
    (hk:∀row∈rows,row.length=k) (hall:∀row∈rows,∀x∈row,∃v,x=AV.s v/\qw v=true):VRel w T' (.lst k rows none) (.slice (some ⟨b,0,none⟩) n cap):=by
  obtain⟨cs,e0,fr,hb0,huf,hlen,hrel⟩:=ho;subst hn;have at1:∀(i:Nat) (row:List AV) (j:Nat) (x:AV),rows[i]?=some row->row[j]?=some x->∃v,x=.s v/\qw v=true/\cs[i*k+j]?=some v:=by
    intro i row j x hi hj;obtain⟨v,rfl,hv⟩:=hall row (Fba hi) x (Fba hj);have h5:=Lh hk hi hj;have h6:(rows.flatten++pad)[i*k+j]?=some (.s v):=δ;have hlt2:i*k+j<cs.size:=δ;have h7:=hrel _ _ cs[i*k+j] h6 (by simp[hlt2]);have:cs[i*k+j]=v:=by cases h7;rfl
    grind
  refine VRel.lst rows none b 0 cap k (λp=>cs.getD p undef) hcap (λi row hi=>hk row (Fba hi)) (λ_ h=>ω) (λi row j x hi hj=>?_) (λi row j x hi hj=>?_) (λi row j x hi hj=>?_)
  · obtain⟨v,rfl,hv,h5⟩:=at1 i row j x hi hj
    simp_all[World.cell?]
  · obtain⟨v,rfl,hv,h5⟩:=at1 i row j x hi hj
    simp_all
  · obtain⟨v,rfl,hv,h5⟩:=at1 i row j x hi hj
    rw[Fbg,h5];exact .s _
def AObj.le(x y:AObj):Prop:=∀w T b,ObjRel w T x b->ObjRel w T y b
structure Store.Le(st st':Store):Prop where
  obj:∀b y,st'.obj b=some y->∃x,st.obj b=some x/\AObj.le x y
  tok:∀b x,st'.tok b=some x->st.tok b=some x
theorem AObj.le_refl(x:AObj):AObj.le x x:=λ_ _ _ h=>h
theorem Store.Le.refl(st:Store):st.Le st:=⟨λb y h=>⟨y,h,AObj.le_refl y⟩,λ_ _ h=>h⟩
theorem Store.Has.toLe{st st':Store}(h:st.Has st'):st.Le st':=⟨λb y hy=>⟨y,h.obj b y hy,AObj.le_refl y⟩,h.tok⟩
theorem StoreOK.weakenLe{st st':Store}{Oth M:Nat->Nat->Prop}{w:World}(h:StoreOK st Oth M w)(hh:st.Le st'):StoreOK st' Oth M w:=
  ⟨λb y k=>by obtain⟨x,hx,hle⟩:=hh.obj b y k;exact⟨hle _ _ _ (h.obj b x hx).1,(h.obj b x hx).2⟩,λb x k=>h.tok b x (hh.tok b x k),h.mlt,h.olt,h.dis⟩
theorem ACalls.post{f:FuncId}{xs:List AV}{st st0:Store}{R R':Ja}(h:ACalls P f xs st0 R)(h0:st.Le st0)(hR:∀r st',R r st'->∃r' st'',AV.le r r'/\st'.Le st''/\R' r' st''):ACalls P f xs st R':=by
  refine⟨λOth M w vs sto hr=>?_⟩;have h1:=h.out Oth M w vs (sto.weakenLe h0) hr;have key:∀v w',qy st0 R Oth M w v w'->qy st R' Oth M w v w':=by rintro v w' ⟨r,a',M2,hQ,hv,hsto,hchg⟩;obtain⟨r',st'',h2,h3,h4⟩:=hR r a' hQ;exact⟨r',st'',M2,h4,h2 _ _ _ hv,hsto.weakenLe h3,hchg⟩
  generalize(callFunc f vs).run P w=res at h1;cases res with
  | ok n w'=>
    cases n with
    |enter f' args=>exact Calls.mono h1 λe w'' ⟨v,he,hv⟩=>⟨v,he,key _ _ hv⟩
    |value v=>exact key _ _ h1
    |_=>exact h1
  |_=>exact h1
theorem ACalls.imp{f:FuncId}{xs:List AV}{st:Store}{R R':Ja}(h:ACalls P f xs st R)(hR:∀r st',R r st'->R' r st'):ACalls P f xs st R':=
  h.post (Store.Le.refl st) λr st' hr=>⟨r,st',AV.le_refl r,Store.Le.refl st',hR r st' hr⟩
theorem ACalls.of_calls {f : FuncId} {fn : Func} {code : Code} {xs : List AV} {st : Store} {R : Ja} (hf : P.funcs[f]? = some fn) (hb : fn.body = some code) (hname : (fn.name == "runtime.NumGoroutine") = false)
    (h:∀(Oth M:Nat->Nat->Prop) (w:World) (vs:Array Value),StoreOK st Oth M w->Reads w (λb o=>M b o\/Oth b o) xs vs.toList->Calls P f vs w λe w'=>∃v,e=.returned v/\qy st R Oth M w v w'):ACalls P f xs st R:=by
  refine⟨λOth M w vs sto hr=>?_⟩;have hrun:(callFunc f vs).run P w=.ok (.enter f vs) w:=θz;rw[hrun];exact h Oth M w vs sto hr
theorem ACalls.of_value{f:FuncId}{xs:List AV}{st:Store}{R:Ja}
    (h:∀(Oth M:Nat->Nat->Prop) (w:World) (vs:Array Value),StoreOK st Oth M w->Reads w (λb o=>M b o\/Oth b o) xs vs.toList->∃v w',(callFunc f vs).run P w=.ok (.value v) w'/\qy st R Oth M w v w'):ACalls P f xs st R:=by
  refine⟨λOth M w vs sto hr=>?_⟩;obtain⟨v,w',h1,h2⟩:=h Oth M w vs sto hr;rw[h1];exact h2
end
theorem AWp.meetA{P:Program}{c:Cfg}{σ:Type}(H:Meet σ){x y:Code}{Q:Exit->Fr->Store->Prop}{A:Fr}{st:Store}(hx:AWp P c x (R8 H.at Q) A st)
    (hy:∀s st',H.inv s st'->AWp P c y Q (Hi (H.t s) (H.bx s)) st'):AWp P c (.seq x y) Q A st:=by
  refine AWp.seq (hx.mono λe A' st' h=>?_);cases e with
  | normal=>
    obtain⟨s,h1,h2,h3⟩:=h;exact AWp.weaken (hy s st' h1) h2 h3 (Store.Has.refl st')
  |_=>exact h
section
variable {P:Program} {c:Cfg} {I:Info} {w:World} {T:Nat->Nat->Prop}
def zcz:Ty->Bool
  |.int _=>true
  |_=>false
def Pf(I:Info)(kt:TypeId)(k:AV):Bool:=
  match I kt with
  |none=>false
  | some i=>match i.ty,k with
    |.int _,_=>true
    |.bool,_=>true
    |.struct fs,.agg cs=>fs.all λf=>match I f.2 with|some j=>zcz j.ty&&(Dx j (cs.drop f.1)).isSome|none=>false
    |_,_=>false
theorem zfn{kt:TypeId}{k:IntKind}(h:P.underlying kt=some (.int k))(v:Value)(e:Bool)(n:Nat):(Instr.checkKey e (n+1) kt v).run P w=.ok () w:=by simp_all[Instr.checkKey,yn]
theorem yq3{kt:TypeId}(h:P.underlying kt=some .bool)(v:Value)(e:Bool)(n:Nat):(Instr.checkKey e (n+1) kt v).run P w=.ok () w:=by simp_all[Instr.checkKey,yn]
theorem n8(hI:y9 P I){kt:TypeId}{k:AV}{kv:Value}(h:Pf I kt k=true)(hv:VRel w T k kv)(e:Bool):(Instr.checkKey e 10000 kt kv).run P w=.ok () w:=by
  unfold Pf at h;cases hi:I kt with
  |none=>grind
  | some i=>
    rw[hi]at h;have ht:=hI kt i hi;simp only at h;split at h
    · rename_i k' hy;exact zfn (L4 ht hy) kv e 9999
    · grind[yq3,rx]
    · rename_i fs cs hy
      obtain⟨cv,rfl,hr⟩:=G9 hv;obtain⟨a,ha1,ha2⟩:=Oc ht hy;rw[show(10000:Nat)=9999+1 from rfl,Instr.checkKey];simp only[Sem.run_bind,yn ha1,Result.andThen_ok];rw[<-Array.forIn_toList];subst ha2;clear ha1 hy;generalize a.toList=L at h;induction L with
      |nil=>simp
      | cons f L ih=>
        simp only[Fb7,List.all_cons,Fay]at h;obtain⟨h1,h2⟩:=h;cases hj:I f.type with
        |none=>grind
        | some j=>
          simp only[hj,Fay]at h1;obtain⟨h3,h4⟩:=h1;obtain⟨x,hx⟩:=Option.isSome_iff_exists.1 h4;obtain⟨v,r1,r2⟩:=O5 (hI _ _ hj) hr hx;have hk:∃k,j.ty=.int k:=by unfold zcz at h3;grind
          obtain⟨k,hk⟩:=hk;have r3:=zfn (w:=w) (L4 (hI _ _ hj) hk) v e 9998;simp_all
    · cases h
theorem yd1{kt:TypeId}{d:TypeDesc}(hd:P.underlying kt=some d){a b:Value}{r:Bool}(h:Instr.sameNow d a b=some r)(D:Nat):(Op.equalIn (D+1) kt a b).run P w=.ok r w:=by
  unfold Instr.sameNow at h;split at h
  · simp_all[Op.equalIn,yn]
  · simp_all[Op.equalIn,yn]
  · simp_all[Op.equalIn,yn]
  · cases h
theorem mr(hI:y9 P I){kt:TypeId}{k:AV}{kv:Value}(hv:VRel w T k kv)(q:AV×AV->Bool){es:List (AV×AV)}{ms:List MapEntry}(hl:es.length=ms.length)
    (hr:∀(i:Nat) (x:AV×AV) (y:MapEntry),es[i]?=some x->ms[i]?=some y->VRel w T x.1 y.key) (hq:∀e∈es,F0 I 5 kt k e.1=some (q e)) (hkt:(I kt).isSome):
    ∃r,(Instr.findKey kt kv ms).run P w=.ok r w/\((r=none/\es.findIdx? q=none)\/∃i e m,r=some (i,m.val)/\es.findIdx? q=some i/\es[i]?=some e/\ms[i]?=some m/\q e=true):=by
  have eqrun:∀(i:Nat) (e:AV×AV) (m:MapEntry),es[i]?=some e->ms[i]?=some m->(Op.equal kt kv m.key).run P w=.ok (q e) w:=λi e m he hm=>
    zeo hI 5 kt k e.1 (q e) (hq e (Fba he)) 10000 θ kv m.key hv (hr i e m he hm)
  obtain⟨ik,hik⟩:=Option.isSome_iff_exists.1 hkt;obtain⟨d,hd,_⟩:=(hI kt ik hik).und;have same:∀(i:Nat) (e:AV×AV) (m:MapEntry) (b:Bool),es[i]?=some e->ms[i]?=some m->Instr.sameNow d kv m.key=some b->b=q e:=by intro i e m b he hm hs;have h1:=eqrun i e m he hm;have h2:(Op.equal kt kv m.key).run P w=.ok b w:=yd1 hd hs 9999;grind
  have res:∀(es:List (AV×AV)) (ms:List MapEntry) (i0:Nat),es.length=ms.length->
      (∀(i:Nat) (e:AV×AV) (m:MapEntry),es[i]?=some e->ms[i]?=some m->(Op.equal kt kv m.key).run P w=.ok (q e) w/\∀b,Instr.sameNow d kv m.key=some b->b=q e)->
      ∃ r,((r=none/\es.findIdx? q=none)\/∃i e m,r=some (i0+i,m.val)/\es.findIdx? q=some i/\es[i]?=some e/\ms[i]?=some m/\q e=true)/\(Instr.findAsking kt kv ms i0).run P w=.ok r w∧
        ∀r',Instr.findNow d kv ms i0=some r'->r'=r:=by
    intro es;induction es with
    | nil=>
      intro ms i0 hl _;cases ms with
      |cons m ms=>simp at hl
      |nil=>simp_all[Instr.findAsking,Instr.findNow]
    | cons e es ih=>
      intro ms i0 hl hall;cases ms with
      |nil=>simp at hl
      | cons m ms=>
        obtain⟨h1,h2⟩:=hall 0 e m rfl rfl;cases hqe:q e with
        | true=>
          rw[hqe]at h1 h2;refine⟨some (i0,m.val),.inr ⟨0,e,m,rfl,δ,rfl,rfl,hqe⟩,?_,λr' h=>?_⟩
          · simp_all[Instr.findAsking]
          · unfold Instr.findNow at h
            grind
        | false=>
          rw[hqe]at h1 h2;obtain⟨r,h3,h4,h5⟩:=ih ms (i0+1) δ λi e' m' he hm=>hall (i+1) e' m' he hm;refine⟨r,?_,?_,λr' h=>?_⟩
          · rcases h3 with⟨h6,h7⟩|⟨i,e',m',h6,h7,h8,h9,h10⟩
            · grind
            · exact .inr ⟨i+1,e',m',δ,δ,h8,h9,h10⟩
          · simp_all[Instr.findAsking]
          · unfold Instr.findNow at h
            grind
  obtain⟨r,h1,h2,h3⟩:=res es ms 0 hl λi e m he hm=>⟨eqrun i e m he hm,λb=>same i e m b he hm⟩
  refine⟨r,?_,?_⟩
  · unfold Instr.findKey
    simp only[Sem.run_bind,yn hd,Result.andThen_ok];cases hf:Instr.findNow d kv ms 0 with
    |none=>exact h2
    |some r'=>simp_all
  grind
def Dq(i:TI):AV:=bif Cy i.ty then .agg (i.zero.map AV.s)else match i.zero with|v::_=>.s v|[]=>.any
theorem zha{t:TypeId}{i:TI}(h:TIok P t i)(w:World)(T:Nat->Nat->Prop):∃z,(zeroValue t).run P w=.ok z w/\VRel w T (Dq i) z:=by
  obtain⟨inf,h1,_,_,z,h2,h3⟩:=h.info;refine⟨z,by simp[zeroValue,typeInfo,h1,h2],?_⟩;unfold Dq;rcases h.zag inf z h1 h2 with⟨h4,cs,rfl⟩|⟨h4,h5⟩
  · rw[h4]
    refine Oa ?_;have:i.zero=cs.toList:=h3.symm;rw[this];exact Reads.map_s _
  · rw[h4,h5]
    exact .s _
end
section
variable {P:Program} {c:Cfg} {w:World} {st:Store} {Oth M:Nat->Nat->Prop}
theorem M5{b:Nat}{old:Obj}(new:Obj)(hb:w.heap[b]?=some old):(w.heap.setIfInBounds b new)[b]?=some new:=δ
theorem ymb{b b':Nat}(new:Obj)(h:b'≠b):(w.heap.setIfInBounds b new)[b']?=w.heap[b']?:=δ
theorem Dd{r:Nat}{es:Array MapEntry}{clock:Nat}(hb:w.heap[r]?=some (.map es clock)):(getObj r).run P w=.ok (.map es clock) w:=by simp[getObj,Sem.run,hb]
theorem Ov{r:Nat}{es:Array MapEntry}{clock:Nat}(o:Obj)(hb:w.heap[r]?=some (.map es clock)):(setObj r o).run P w=.ok () {w with heap:=w.heap.setIfInBounds r o}:=by simp[setObj,Sem.run,hb]
def Ln:Obj->Prop
  |.cells ..=>False
  |_=>True
theorem zfs{b:Nat}{old new:Obj}(hb:w.heap[b]?=some old)(ho:Ln old)(hn:Ln new)(a:Addr):World.cell? {w with heap:=w.heap.setIfInBounds b new} a=w.cell? a:=by grind[World.cell?,Ln]
theorem Lc{b:Nat}{old new:Obj}(hb:w.heap[b]?=some old)(ho:Ln old)(hn:Ln new)(T:Nat->Nat->Prop):Keeps w T {w with heap:=w.heap.setIfInBounds b new} T where
  cell b' o c hc _:=by rw[zfs hb ho hn];exact hc
  out _ _ _ _ h:=h
  shp b' c e fr h:=by
    by_cases hbb:b'=b
    · subst hbb;rw[hb]at h;cases h;trivial
    grind
theorem L8(sto:StoreOK st Oth M w){b:Nat}{old new:Obj}{x y:AObj}(hx:st.obj b=some x)(hb:w.heap[b]?=some old)(ho:Ln old)(hn:Ln new)
    (hy:ObjRel {w with heap:=w.heap.setIfInBounds b new} (λb o=>M b o\/Oth b o) y b):
    StoreOK (st.sO b y) Oth M {w with heap:=w.heap.setIfInBounds b new}/\Chg M w M {w with heap:=w.heap.setIfInBounds b new}:=by
  have hk:=Lc hb ho hn (λb o=>M b o\/Oth b o);have hM:=(sto.obj b x hx).2;refine⟨{obj:=λb' z hz=>?_,tok:=λb' top ht=>?_,mlt:=λb' o hm=>?_,olt:=λb' o hm=>?_,dis:=sto.dis},?_⟩
  · by_cases hbb:b'=b
    · grind[zd]
    · rw[zg hbb]at hz
      exact⟨ObjRel.same (sto.obj b' z hz).1 hk (ymb new hbb),(sto.obj b' z hz).2⟩
  · obtain⟨c,e,fr,h1,h2⟩:=sto.tok b' top ht
    have hbb:b'≠b:=λe=>by rw[e,hb]at h1;cases h1;trivial
    grind
  · have:=sto.mlt b' o hm;grind
  · have:=sto.olt b' o hm;grind
  · exact { size:=φ
            keep:=λb' o hb' _=>zfs hb ho hn _
            blk:=λb' hb' hm=>by have hbb:b'≠b:=λe=>hm 0 (e▸hM 0);grind
            shp:=λb' c e fr h=>(Lc hb ho hn (λ_ _=>False)).shp b' c e fr h
            sub:=λ_ _ h _=>h
            tape:=rfl,os:=rfl,output:=rfl}
theorem zd4{α:Type}{q:α->Bool}:∀{l:List α} {i:Nat} {e:α},l.findIdx? q=some i->l[i]?=some e->l.find? q=some e:=by
  intro l;induction l with
  |nil=>simp
  | cons a l ih=>
    intro i e h he;rw[List.findIdx?_cons]at h;cases hq:q a with
    |true=>grind
    | false=>
      rw[hq]at h;simp only[Fah,if_false,Option.map_eq_some_iff]at h;grind
theorem yoe{α:Type}{q:α->Bool}{l:List α}(h:l.findIdx? q=none):l.find? q=none:=δ
def Ft(ok:Bool)(z:AV)(r:Option (AV×AV)):AV:=
  match ok,r with
  |true,some e=>.tup [e.2,.s (.bool true)]
  |true,none=>.tup [z,.s (.bool false)]
  |false,some e=>e.2
  |false,none=>z
theorem ra{T:Nat->Nat->Prop}{x:AV}{v:Value}(b:Bool)(h:VRel w T x v):VRel w T (.tup [x,.s (.bool b)]) (.tuple #[v,.bool b]):=
  vx (Reads.cons h (Reads.cons (.s _) Reads.nil))
theorem O0{T:Nat->Nat->Prop}{x y:AV}{vs:List Value}(h:Reads w T [x,y] vs):∃u v,vs=[u,v]/\VRel w T x u/\VRel w T y v:=by
  obtain⟨h1,h2⟩:=h
  match vs,h1 with
  |[u,v],_=>exact⟨u,v,rfl,h2 0 x u rfl rfl,h2 1 y v rfl rfl⟩
theorem zam{T:Nat->Nat->Prop}{x y z:AV}{vs:List Value}(h:Reads w T [x,y,z] vs):∃u v t,vs=[u,v,t]/\VRel w T x u/\VRel w T y v/\VRel w T z t:=by
  obtain⟨h1,h2⟩:=h
  match vs,h1 with
  |[u,v,t],_=>exact⟨u,v,t,rfl,h2 0 x u rfl rfl,h2 1 y v rfl rfl,h2 2 z t rfl rfl⟩
theorem Kr{T:Nat->Nat->Prop}{x:AV}{vs:List Value}(h:Reads w T [x] vs):∃u,vs=[u]/\VRel w T x u:=by
  obtain⟨h1,h2⟩:=h
  match vs,h1 with
  |[u],_=>exact⟨u,rfl,h2 0 x u rfl rfl⟩
theorem Ak{o:Oper}{t kt e:TypeId}{x ix:Operand}{ok:Bool}(ho:o.op=.lookup t x ix ok){it ie ik:TI}(hit:c.I t=some it)(hty:it.ty=.map kt e)(hie:c.I e=some ie)(hik:c.I kt=some ik)
    {m clk:Nat} {es:List (AV×AV)} {bs:List Nat} {k:AV} (hm:st.obj m=some (.map es bs clk)) (hk:Pf c.I kt k=true) (q:AV×AV->Bool) (hq:∀e∈es,F0 c.I 5 kt k e.1=some (q e))
    {R:Ja} (h:R (Ft ok (Dq ie) (es.find? q)) st):AEff P c o [.s (.map (some m)),k] st R:=by
  refine⟨λOth M w ρ hI sto hr=>?_⟩;rw[ho]at hr;have hr:Reads w (λb o=>M b o\/Oth b o) [.s (.map (some m)),k] [ρ x,ρ ix]:=θr;obtain⟨u,v,he,h1,h2⟩:=O0 hr;simp only[Fcf,and_true]at he;obtain⟨hu,hv⟩:=he;rw[<-hu]at h1;rw[<-hv]at h2;have h1:=VRel.eq_s h1;obtain⟨⟨ms,g1,g2,g3,g4⟩,hM⟩:=sto.obj m _ hm;obtain⟨r,r1,r2⟩:=mr (kt:=kt) (k:=k) (kv:=ρ ix) hI h2 q (es:=es) (ms:=ms.toList) θ (λi x y hx hy=>(g3 i x y hx δ).1) hq δ;obtain⟨z,z1,z2⟩:=zha (hI _ _ hie) w (λb o=>M b o\/Oth b o);have hck:=n8 hI hk h2 ms.isEmpty;have hu:=yn (P:=P) (Ke (hI _ _ hit) hty)
  have done:∀val:Value,VRel w (λb o=>M b o\/Oth b o) (Ft ok (Dq ie) (es.find? q)) val->(execOp ρ o).run P w=.ok (.value val) w->
      match(execOp ρ o).run P w with
      |.ok (.value v) w'=>qy st R Oth M w v w'
      |.ok .skip w'=>o.dst=none/\qy st R Oth M w (.tuple #[]) w'
      |_=>False:=by
    intro val hval hrun;rw[hrun];exact⟨_,st,M,h,hval,sto,Chg.refl _ _⟩
  rcases r2 with⟨rfl,r3⟩|⟨i,en,me,rfl,r3,r4,r5,r6⟩
  · rw[yoe r3]at done
    cases ok with
    |true=>exact done _ (ra false z2) (by simp[execOp,ho,Instr.lookup,hu,h1,Dd g1,hck,r1,z1])
    |false=>exact done _ z2 (by simp[execOp,ho,Instr.lookup,hu,h1,Dd g1,hck,r1,z1])
  · have hval:=(g3 i en me r4 δ).2
    rw[zd4 r3 r4]at done;cases ok with
    |true=>exact done _ (ra true hval) (by simp[execOp,ho,Instr.lookup,hu,h1,Dd g1,hck,r1])
    |false=>exact done _ hval (by simp[execOp,ho,Instr.lookup,hu,h1,Dd g1,hck,r1])
def lk:AV->Bool
  |.s (.int _ _)=>true
  |.s (.bool _)=>true
  |.agg cs=>cs.all λ|.s (.int _ _)=>true|_=>false
  |_=>false
theorem zcu{T T':Nat->Nat->Prop}{w':World}{k:AV}{u v:Value}(hk:lk k=true)(hu:VRel w T k u)(hv:VRel w' T' k v):u=v/\∀n,Instr.sameBits (n+1) u u=true:=by
  unfold lk at hk;split at hk
  · rw[VRel.eq_s hu,VRel.eq_s hv];simp_all[Instr.sameBits]
  · rw[VRel.eq_s hu,VRel.eq_s hv];simp_all[Instr.sameBits]
  · rename_i cs
    obtain⟨c1,rfl,h1⟩:=G9 hu;obtain⟨c2,rfl,h2⟩:=G9 hv;have hint:∀(i:Nat) (y:AV),cs[i]?=some y->∃k n,y=.s (.int k n):=by intro i y hy;have:=Fci.1 hk y (Fba hy);grind
    have heq:c1=c2:=by
      apply Array.ext_getElem?;intro i;have e1:=h1.1;have e2:=h2.1;simp only[Fco]at e1 e2;by_cases hi:i<cs.length
      · obtain⟨k,n,hy⟩:=hint i cs[i] (Fac hi)
        have h3:=h1.2 i cs[i] c1[i] (Fac hi) φ;have h4:=h2.2 i cs[i] c2[i] (Fac hi) φ;grind[VRel.eq_s]
      grind
    refine⟨by rw[heq],λn=>?_⟩;have hall:∀y∈c1.toList,∃k n,y=.int k n:=by
      intro y hy;obtain⟨i,hi,rfl⟩:=Faj hy;have hi':i<cs.length:=by rw[h1.1];exact hi
      obtain⟨k,n,hx⟩:=hint i cs[i] (Fac hi');have h3:=h1.2 i cs[i] _ (Fac hi') (Fac hi);grind[VRel.eq_s]
    rw[Instr.sameBits];simp only[beq_self_eq_true,Bool.true_and];generalize c1.toList=L at hall;clear heq h1 h2 hu hv;induction L with
    |nil=>simp
    | cons a L ih=>
      obtain⟨k,m,rfl⟩:=hall a φ;simp_all[Instr.sameBits]
  grind
def vq(es:List (AV×AV))(bs:List Nat)(clk:Nat)(q:AV×AV->Bool)(k v:AV):AObj:=
  match es.findIdx? q with
  |some i=>.map (es.set i (k,v)) bs clk
  |none=>.map (es++[(k,v)]) (bs++[clk]) (clk+1)
theorem Fg{o:Oper}{t kt e:TypeId}{x ix y:Operand}(ho:o.op=.mapUpdate t x ix y\/o.op=.insert t x ix y)(hd:o.dst=none){it ik:TI}(hit:c.I t=some it)(hty:it.ty=.map kt e)(hik:c.I kt=some ik)
    {m clk:Nat} {es:List (AV×AV)} {bs:List Nat} {k v:AV} (hm:st.obj m=some (.map es bs clk)) (hk:Pf c.I kt k=true) (hdet:lk k=true) (q:AV×AV->Bool) (hq:∀e∈es,F0 c.I 5 kt k e.1=some (q e))
    (hsame:∀e∈es,q e=true->e.1=k) {R:Ja} (h:R (.tup []) (st.sO m (vq es bs clk q k v))):AEff P c o [.s (.map (some m)),k,v] st R:=by
  refine⟨λOth M w ρ hI sto hr=>?_⟩;have hops:o.op.operands=#[x,ix,y]:=by rcases ho with ho|ho<;>rw[ho]<;>rfl
  rw[hops]at hr;have hr:Reads w (λb o=>M b o\/Oth b o) [.s (.map (some m)),k,v] [ρ x,ρ ix,ρ y]:=δ;obtain⟨u,v',t',he,h1,h2,h3⟩:=zam hr;simp only[Fcf,and_true]at he;obtain⟨hu,hv,ht'⟩:=he;rw[<-hu]at h1;rw[<-hv]at h2;rw[<-ht']at h3;have h1:=VRel.eq_s h1;obtain⟨⟨ms,g1,g2,g3,g4,g5,g6⟩,hM⟩:=sto.obj m _ hm;obtain⟨r,r1,r2⟩:=mr (kt:=kt) (k:=k) (kv:=ρ ix) hI h2 q (es:=es) (ms:=ms.toList) θ (λi x y hx hy=>(g3 i x y hx δ).1) hq δ;have hck:=n8 hI hk h2 false;have hund:=yn (P:=P) (Ke (hI _ _ hit) hty)
  have done:∀w',(execOp ρ o).run P w=.ok .skip w'->(StoreOK (st.sO m (vq es bs clk q k v)) Oth M w'/\Chg M w M w')->
      match(execOp ρ o).run P w with
      |.ok (.value v) w'=>qy st R Oth M w v w'
      |.ok .skip w'=>o.dst=none/\qy st R Oth M w (.tuple #[]) w'
      |_=>False:=by
    intro w' hrun hok;rw[hrun];exact⟨hd,_,_,M,h,vx Reads.nil,hok.1,hok.2⟩
  have hexec:(execOp ρ o).run P w=((Instr.mapUpdate t (ρ x) (ρ ix) (ρ y)).run P w).andThen λ_ w'=>.ok .skip w':=by rcases ho with ho|ho<;>simp[execOp,ho]
  rcases r2 with⟨rfl,r3⟩|⟨i,en,me,rfl,r3,r4,r5,r6⟩
  · refine done {w with heap:=w.heap.setIfInBounds m (.map (ms.push {key:=ρ ix,val:=ρ y,born:=clk}) (clk+1))} ?_ ?_
    · rw[hexec]
      simp[Instr.mapUpdate,hund,h1,Dd g1,hck,r1,Ov _ g1]
    · refine L8 sto hm g1 trivial trivial ?_
      unfold vq;rw[r3];have hkp:=Lc (new:=.map (ms.push {key:=ρ ix,val:=ρ y,born:=clk}) (clk+1)) g1 trivial trivial (λb o=>M b o\/Oth b o);refine⟨_,M5 _ g1,by simp[g2],λi x' y' hx hy=>?_,by simp[g4],λt ht=>?_,?_⟩
      · by_cases hi:i<es.length
        · rw[Fau hi]at hx
          rw[Array.getElem?_push_lt θ]at hy;have hy:ms[i]?=some y':=δ;exact⟨(g3 i x' y' hx hy).1.keep hkp,(g3 i x' y' hx hy).2.keep hkp⟩
        · rw[Fa0 θ]at hx
          have hi2:i=es.length:=δ;subst hi2;rw[g2,Array.getElem?_push_size]at hy;simp at hx hy;subst hx hy;exact⟨h2.keep hkp,h3.keep hkp⟩
      · grind
      grind
  · have hme:ms[i]?=some me:=by grind
    have hkey:me.key=ρ ix:=by grind[zcu]
    have hsb:=(zcu hdet h2 h2).2 9999;have hstay:(Instr.keyThatStays (((ms[i]?).map (·.key)).getD (ρ ix)) (ρ ix)).run P w=.ok (ρ ix) w:=by simp_all[Instr.keyThatStays]
    refine done {w with heap:=w.heap.setIfInBounds m (.map (ms.modify i λe=>{e with key:=ρ ix,val:=ρ y}) clk)} ?_ ?_
    · rw[hexec]
      simp only[Instr.mapUpdate,Sem.run_bind,hund,Result.andThen_ok,h1,Dd g1,hck,r1,hstay,Ov _ g1]
    · refine L8 sto hm g1 trivial trivial ?_
      unfold vq;rw[r3];have hkp:=Lc (new:=.map (ms.modify i λe=>{e with key:=ρ ix,val:=ρ y}) clk) g1 trivial trivial (λb o=>M b o\/Oth b o);refine⟨_,M5 _ g1,by simp[g2],λj x' y' hx hy=>?_,?_,g5,g6⟩
      · rw[Fcv]at hy
        by_cases hij:i=j
        · subst hij
          rw[if_pos rfl,hme]at hy;simp at hy;rw[Fdl (Fa2.1 r4).1]at hx;simp at hx;subst hx hy;exact⟨h2.keep hkp,h3.keep hkp⟩
        · rw[if_neg hij]at hy
          rw[Fdz hij]at hx;exact⟨(g3 j x' y' hx hy).1.keep hkp,(g3 j x' y' hx hy).2.keep hkp⟩
      · rw[g4]
        apply Fb8;grind
end
end Go.V
