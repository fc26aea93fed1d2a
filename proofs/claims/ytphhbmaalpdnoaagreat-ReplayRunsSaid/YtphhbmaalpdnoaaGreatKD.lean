/- Lemmas of thronglaw29; no conditions. -/
import Derived.Shelf.Sort.Plain
import Derived.Shelf.Slices.SearchI
import Derived.Shelf.Slices.Empties
import Derived.Shelf.Slices.Delete
import Derived.Shelf.Slices.In.SortNone
import Derived.Shelf.Spec.SlicesInsertGrow
import Derived.Shelf.Spec.BitsCarry
import Derived.Test.YtphhbmaalpdnoaaGreatKC
set_option linter.unusedSimpArgs false
set_option linter.unusedVariables false
set_option linter.defProp false
open List renaming length→Γ
open Option renaming some→Δ,none→Θ
namespace Go.V
section
variable {P:Program} {c:Cfg} {w:World} {st:Store} {Oth M:BB}
def lv(sto:StoreOK st Oth M w)(a:Obj){y:AObj}(f:ObjRel (w.alloc a) (λb o=>we M w.heap.size b o\/Oth b o) y w.heap.size):
    Fresh st w.heap.size/\StoreOK (st.sO w.heap.size y) Oth (we M w.heap.size) (w.alloc a)/\Chg M w (we M w.heap.size) (w.alloc a):=by
  refine⟨sto.fresh (Fai _),?_,Kw w a M⟩;have h:=sto.alloc a;refine{obj:=λb z d=>?_,tok:=h.tok,mlt:=h.mlt,olt:=h.olt,dis:=h.dis};by_cases e:b=w.heap.size
  . subst e
    rw[zd]at d;cases d;exact⟨f,λo=>.inr rfl⟩
  . rw[zi e]at d
    exact h.obj b z d
def Iy{o:Oper}{t:TypeId}(a:o.op=.makeMap t Θ){R:Ja}
    (h:∀b,Fresh st b->R (.s (.map (Δ b))) (st.sO b (.map [] [] 0))):AEff P c o [] st R:=by
  refine⟨λOth M w ρ k sto j=>?_⟩;have hrun:(execOp ρ o).run P w=.ok (.value (.map (Δ w.heap.size))) (w.alloc (.map #[] 0)):=by simp[execOp,a,Instr.makeMap]
  rw[hrun];obtain⟨f,e,d⟩:=lv sto (.map #[] 0) (y:=.map [] [] 0) ⟨#[],Ko w _,rfl,λi x y g=>φ,rfl,φ,List.Pairwise.nil⟩;exact⟨_,_,_,h _ f,.s _,e,d⟩
def Fs(b:List (AV×AV))(d:List Nat)(a:Nat)(q:AV×AV->Bool):AObj:=
  match b.findIdx? q with
  |some i=>.map (b.eraseIdx i) (d.eraseIdx i) a
  |none=>.map b d a
theorem getElem?_eraseIdx'{α:Type}(l:List α)(i j:Nat):(l.eraseIdx i)[j]?=if j<i then l[j]? else l[j+1]?:=List.getElem?_eraseIdx
theorem ci{α β:Type}(f:α->β):∀(l:List α) (i:Nat),(l.map f).eraseIdx i=(l.eraseIdx i).map f
  |[],_=>rfl
  |_::_,0=>rfl
  |a::l,i+1=>by simp[ci f l i]
def ed{o:Oper}{S:Call}{t A e:TypeId}{x D:Operand}(ho:o.op=.call S)(ι:S.callee=.builtin .delete)(ε:S.args=#[x,D])(K:S.argTypes[0]?=Δ t)
    {it ik:TI} (hit:c.I t=Δ it) (V:it.ty=.map A e) (η:c.I A=Δ ik)
    {m d:Nat} {B:List (AV×AV)} {T:List Nat} {k:AV} (hm:st.obj m=Δ (.map B T d)) (hk:Rr c.I A k=true) (q:AV×AV->Bool) (hq:∀e∈B,Gt c.I 5 A k e.1=Δ (q e))
    {R:Ja} (h:R (.tup []) (st.sO m (Fs B T d q))):AEff P c o [.s (.map (Δ m)),k] st R:=by
  refine⟨λOth M w ρ hI sto X=>?_⟩;have hops:o.op.operands=#[x,D]:=ψu;rw[hops]at X;have X:Reads w (λb o=>M b o\/Oth b o) [.s (.map (Δ m)),k] [ρ x,ρ D]:=δ;obtain⟨u,v',he,L,h2⟩:=Hg X;simp only[Fck,and_true]at he;obtain⟨hu,hv⟩:=he;rw[<-hu]at L;rw[<-hv]at h2;have L:=VRel.eq_s L;obtain⟨⟨f,n,g2,Q,g4,g5,g6⟩,hM⟩:=sto.obj m _ hm;obtain⟨r,r1,r2⟩:=oi (kt:=A) (k:=k) (kv:=ρ D) hI h2 q (es:=B) (ms:=f.toList) Z (λi x y l p=>(Q i x y l δ).1) hq δ;have H:=pk hI hk h2 f.isEmpty;have hund:=yy (P:=P) (Li (hI _ _ hit) V);have hexec:(execOp ρ o).run P w=((Builtin.delete_ S.argTypes o.type #[ρ x,ρ D]).run P w).andThen λv g=>.ok (.value v) g:=by simp_all[execOp,resolve,invoke,builtin]
  have done:∀g,(execOp ρ o).run P w=.ok (.value (.tuple #[])) g->(StoreOK (st.sO m (Fs B T d q)) Oth M g/\Chg M w M g)->
      match(execOp ρ o).run P w with
      |.ok (.value v) g=>xg st R Oth M w v g
      |.ok .skip g=>o.dst=Θ/\xg st R Oth M w (.tuple #[]) g
      |_=>False:=by
    intro g E G;rw[E];exact⟨_,_,M,h,Ah Reads.nil,G.1,G.2⟩
  rcases r2 with⟨rfl,U⟩|⟨i,en,me,rfl,U,r4,r5,r6⟩
  . refine done {w with heap:=w.heap.setIfInBounds m (.map f d)} ?_ ?_
    . rw[hexec]
      simp[Builtin.delete_,K,hund,L,D2 n,H,r1,Ps _ n]
    . refine M4 sto hm n trivial trivial ?_
      unfold Fs;rw[U];have a:=Mb (new:=.map f d) n trivial trivial (λb o=>M b o\/Oth b o);exact⟨_,Ob _ n,g2,λi C z l p=>⟨(Q i C z l p).1.keep a,(Q i C z l p).2.keep a⟩,g4,g5,g6⟩
  . refine done {w with heap:=w.heap.setIfInBounds m (.map (f.eraseIdxIfInBounds i) d)} ?_ ?_
    . rw[hexec]
      simp[Builtin.delete_,K,hund,L,D2 n,H,r1,Ps _ n]
    . refine M4 sto hm n trivial trivial ?_
      unfold Fs;rw[U];have a:=Mb (new:=.map (f.eraseIdxIfInBounds i) d) n trivial trivial (λb o=>M b o\/Oth b o);have hi:i<f.size:=δ;have W:(f.eraseIdxIfInBounds i).toList=f.toList.eraseIdx i:=φ;have hsub:(T.eraseIdx i).Sublist T:=List.eraseIdx_sublist ..;refine⟨_,Ob _ n,?_,λj C z l p=>?_,?_,λt ht=>g5 t (hsub.subset ht),g6.sublist hsub⟩
      . grind
      . have p:(f.toList.eraseIdx i)[j]?=Δ z:=by grind
        rw[getElem?_eraseIdx']at l p;by_cases hj:j<i
        . rw[if_pos hj]at l p
          have:=Q j C z l δ;exact⟨this.1.keep a,this.2.keep a⟩
        . rw[if_neg hj]at l p
          have:=Q (j+1) C z l δ;exact⟨this.1.keep a,this.2.keep a⟩
      . rw[W,g4,ci]
def yvc{o:Oper}{t j e:TypeId}{x:Operand}(g:o.op=.range t x){it:TI}(hit:c.I t=Δ it)(f:it.ty=.map j e)
    {m a:Nat} {A:List (AV×AV)} {B:List Nat} (k:st.obj m=Δ (.map A B a)) {R:Ja}
    (h:∀b,Fresh st b->R (.s (.pointer (Δ ⟨b,0,Θ⟩))) (st.sO b (.iter m a [] a))):AEff P c o [.s (.map (Δ m))] st R:=by
  refine⟨λOth M w ρ l sto hr=>?_⟩;rw[g]at hr;have hr:Reads w (λb o=>M b o\/Oth b o) [.s (.map (Δ m))] [ρ x]:=θ1;obtain⟨u,i,d⟩:=Lq hr;simp only[Fck,and_true]at i;rw[<-i]at d;have d:=VRel.eq_s d;obtain⟨⟨C,z,E⟩,D⟩:=sto.obj m _ k;have hund:=yy (P:=P) (Li (l _ _ hit) f);have hrun:(execOp ρ o).run P w=.ok (.value (.pointer (Δ ⟨w.heap.size,0,Θ⟩))) (w.alloc (.mapIter (Δ m) a #[] a)):=by simp[execOp,g,Instr.range,hund,d,D2 z]
  rw[hrun];obtain⟨v,p,n⟩:=lv sto (.mapIter (Δ m) a #[] a) (y:=.iter m a [] a) (Ko w _);exact⟨_,_,_,h _ v,.s _,p,n⟩
def ygm(n:Nat)(b:0<n)(w:World):∃i a,i<n/\Grow w a/\a.heap=w.heap/\(choose (.mapNext n)).run P w=.ok i a:=by
  by_cases d:n<=1
  . refine⟨0,w,b,Grow.refl w,rfl,?_⟩
    simp_all[Question.forced]
  . refine⟨w.tape w.drawn (.mapNext n)%n,w.drew,Nat.mod_lt _ b,Grow.drew w,rfl,?_⟩
    simp only[choose,Sem.run];rw[if_neg (by simpa [Question.forced]using d)];rfl
def yvd{o:Oper}{x:Operand}(ho:o.op=.next x false)
    {b m d:Nat} {K:List (AV×AV)} {Q a:List Nat} (hb:st.obj b=Δ (.iter m d a d)) (hm:st.obj m=Δ (.map K Q d)) {R:Ja}
    (h1:(∀t∈Q,t∈a)->R (.tup [.s (.bool false)]) st)
    (h2:∀(i:Nat) (e:AV×AV) (t:Nat),K[i]?=Δ e->Q[i]?=Δ t->t∉a->R (.tup [.s (.bool true),e.1,e.2]) (st.sO b (.iter m d (a++[t]) d))):AEff P c o [.s (.pointer (Δ ⟨b,0,Θ⟩))] st R:=by
  refine⟨λOth M w ρ hI sto hr=>?_⟩;rw[ho]at hr;have hr:Reads w (λb o=>M b o\/Oth b o) [.s (.pointer (Δ ⟨b,0,Θ⟩))] [ρ x]:=θ1;obtain⟨u,he,l⟩:=Lq hr;simp only[Fck,and_true]at he;rw[<-he]at l;have l:=VRel.eq_s l;obtain⟨⟨f,g1,g2,g3,g4,g5,g6⟩,hM⟩:=sto.obj m _ hm;obtain⟨hit,τ⟩:=sto.obj b _ hb;have hit:w.heap[b]?=Δ (.mapIter (Δ m) d a.toArray d):=hit;have born:∀y∈f,y.born<d:=λy hy=>g5 _ δ;have hall:(!a.toArray.isEmpty&& !f.isEmpty&&f.all (λe=>decide (e.born>=d)))=false:=by
    cases h:f.isEmpty with
    |true=>simp
    | false=>
      have ν:0<f.size:=δ;grind
  have hnew:(Array.filter (λe=> !a.toArray.contains e.born) f).filter (λe=>decide (e.born>=d))=#[]:=by grind[Array.filter_eq_empty_iff]
  have hold:(Array.filter (λe=> !a.toArray.contains e.born) f).filter (λe=>decide (e.born<d))=Array.filter (λe=> !a.toArray.contains e.born) f:=by grind[Array.filter_eq_self]
  have D:(getObj b).run P w=.ok (.mapIter (Δ m) d a.toArray d) w:=by simp[getObj,Sem.run,hit]
  generalize hleft:Array.filter (λe=> !a.toArray.contains e.born) f=left at hnew hold;have T:∀y∈left,y∈f/\y.born∉a:=δ
  let cands:Array (Option MapEntry):=(if left.isEmpty then #[Θ]else #[])++(left++#[]).map Δ
  have ε:0<cands.size:=δ;obtain⟨i,g,L,E,k,G⟩:=ygm (P:=P) cands.size ε w;have hexec:(execOp ρ o).run P w=((Instr.next (ρ x) false o.type).run P w).andThen λv w'=>.ok (.value v) w':=by simp[execOp,ho]
  cases U:left.isEmpty with
  | true=>
    have I:cands=#[Θ]:=by
      have:left=#[]:=by simpa using U
      simp[cands,this]
    have X:i=0:=by rw[I]at L;simpa using L
    have hrun:(execOp ρ o).run P w=.ok (.value (.tuple #[.bool false])) g:=by rw[hexec];simp only[Instr.next,l,Sem.run_bind,D,Result.andThen_ok,D2 g1,hall,Fan,if_false,hleft,hold,hnew,Sem.run_pure];show((((choose (.mapNext cands.size)).run P w).andThen _).andThen _)=_;rw[G];simp only[Result.andThen_ok];rw[show((if left.isEmpty=true then #[Θ]else #[])++Array.map Δ (left++#[]):Array (Option MapEntry))=cands from rfl,I,X];simp
    rw[hrun];refine⟨_,st,M,h1 λt ht=>?_,Ah (Reads.cons (.s _) Reads.nil),sto.grow E,E.chg M⟩;rw[g4]at ht;obtain⟨y,hy,rfl⟩:=Fag.1 ht;have z:left=#[]:=by simpa using U
    rw[<-hleft,Array.filter_eq_empty_iff]at z;have:=z _ (Array.mem_toList_iff.1 hy);simpa using this
  | false=>
    have H:cands=left.map Δ:=by simp[cands,U]
    have W:i<left.size:=by rw[H]at L;simpa using L
    have η:cands[i]?=Δ (Δ left[i]):=by rw[H];simp[W]
    have hgo1:g.heap[b]?=Δ (.mapIter (Δ m) d a.toArray d):=by rw[k];exact hit
    have hset:∀S:Obj,(setObj b S).run P g=.ok () {g with heap:=g.heap.setIfInBounds b S}:=λS=>by simp[setObj,Sem.run,hgo1]
    have hrun:(execOp ρ o).run P w=.ok (.value (.tuple #[.bool true,left[i].key,left[i].val])) {g with heap:=g.heap.setIfInBounds b (.mapIter (Δ m) d (a.toArray.push left[i].born) d)}:=by rw[hexec];simp only[Instr.next,l,Sem.run_bind,D,Result.andThen_ok,D2 g1,hall,Fan,if_false,hleft,hold,hnew,Sem.run_pure];show((((choose (.mapNext cands.size)).run P w).andThen _).andThen _)=_;rw[G];simp only[Result.andThen_ok];rw[show((if left.isEmpty=true then #[Θ]else #[])++Array.map Δ (left++#[]):Array (Option MapEntry))=cands from rfl,η];simp only[Sem.run_bind,hset,Result.andThen_ok,Sem.run_pure]
    rw[hrun];obtain⟨p,n⟩:=T left[i] φ;obtain⟨j,hj,V⟩:=Array.mem_iff_getElem.1 p;have C:j<Γ K:=Z;have h:f[j]?=Δ left[i]:=by rw[Fby hj,V]
    have hrel:=g3 j K[j] left[i] (Fac C) h;have ι:Q[j]?=Δ left[i].born:=by rw[g4,Fau,Fdg,h];rfl
    have sto1:=sto.grow E;have B:=E.keeps (λb o=>M b o\/Oth b o);have A:=Mb (new:=.mapIter (Δ m) d (a.toArray.push left[i].born) d) hgo1 trivial trivial (λb o=>M b o\/Oth b o);obtain⟨s1,s2⟩:=M4 (y:=.iter m d (a++[left[i].born]) d) sto1 hb hgo1 trivial trivial (new:=.mapIter (Δ m) d (a.toArray.push left[i].born) d) (by show _=_;rw[Ob _ hgo1];simp)
    exact⟨_,_,M,h2 j K[j] left[i].born (Fac C) ι n,
      Ah (Reads.cons (.s _) (Reads.cons ((hrel.1.keep B).keep A) (Reads.cons ((hrel.2.keep B).keep A) Reads.nil))),s1,(E.chg M).trans s2⟩
end
section
variable {P:Program} {c:Cfg} {w:World} {st:Store} {Oth M:BB}
def Cp(sto:StoreOK st Oth M w){b o:Nat}{l xs:List AV}{j:List Value}{d:World}(k:st.obj b=Δ (.cells l))
    (t:Reads w (λb o=>M b o\/Oth b o) xs j) (hw:Wrote w b o j d):StoreOK (st.sO b (.cells (zu l o xs))) Oth M d/\Chg M w M d:=by
  have i:=(sto.obj b _ k).2;have n:∀o,M b o\/Oth b o:=λo=>.inl (i o);refine⟨{obj:=λb' x a=>?_,tok:=λb' f u=>?_,mlt:=λb' g h=>?_,olt:=λb' g h=>?_,dis:=sto.dis},hw.chg i⟩
  . by_cases he:b'=b
    . subst he
      rw[zd]at a;cases a;exact⟨CellsRel.wrote hw n (sto.obj b' _ k).1 t,i⟩
    . rw[zi he]at a
      exact⟨ObjRel.same (sto.obj b' x a).1 (hw.keeps n) (hw.other b' he),(sto.obj b' x a).2⟩
  . obtain⟨c,e,p,h1,z,y,v⟩:=sto.tok b' f u
    by_cases he:b'=b
    . subst he
      obtain⟨C,B,_,A⟩:=hw.blk c e p h1;grind
    . exact⟨c,e,p,ψd,z,y,v⟩
  . rw[hw.size];exact sto.mlt b' g h
  . rw[hw.size];exact sto.olt b' g h
def Hl(sto:StoreOK st Oth M w)(a:Array Value)(e:TypeId){l:List AV}(h:Reads w (λb o=>M b o\/Oth b o) l a.toList):
    Fresh st w.heap.size/\StoreOK (st.sO w.heap.size (.cells l)) Oth (we M w.heap.size) (w.alloc (.cells a e))/\Chg M w (we M w.heap.size) (w.alloc (.cells a e)):=
  lv sto (.cells a e) (y:=.cells l) (Sd w e M Oth h)
def zfn{T:BB}{b n cap k:Nat}{l:List AV}(h:CellsRel w T l b)(z:n*k<=Γ l):
    ∃a:Array Value,Reads w T (l.take (n*k)) a.toList/\a.size=n*k/\∀d,d.heap=w.heap->(Builtin.firstCells k n (.slice (Δ ⟨b,0,Θ⟩) n cap)).run P d=.ok a d:=by
  obtain⟨c,e,D,u,C,B,A⟩:=h;have t:n*k<=c.size:=Z;refine⟨((List.range' 0 (n*k)).map λi=>c.getD i undef).toArray,?_,φ,λd o=>?_⟩
  . refine⟨δ,λi x y j g=>?_⟩
    have f:i<n*k:=δ;rw[Fb2 f]at j;simp[f]at g;grind
  . have:=Lo (P:=P) ⟨b,0,Θ⟩ d (λi=>c.getD i undef) (n*k) 0 #[] (λp _ v=>by
      rw[wu,bg o];simp only[World.cell?,u];have:p<c.size:=Z;simp[this])
    grind[Builtin.firstCells,loadCells]
def zcv{T:BB}{xs:List AV}{b:List Value}(h:Reads w T xs b)(f:∀x∈xs,x.one=true):∀v∈b,xq v=true:=by
  intro v d;obtain⟨i,e⟩:=Fa6.1 d;have a:i<Γ xs:=by rw[h.1];grind
  exact Wo (h.2 i xs[i] v (Fac a) e) (f _ (Faa a))
def Sk{e:TypeId}{ie:TI}(R:c.I e=Δ ie){b n cap:Nat}{l:List AV}{x:AV}{rows:List (List AV)}(ho:st.obj b=Δ (.cells l))(u:cap*ie.size<=Γ l)(hn:n<=cap)
    (E:vw ie.size (.av x)=Δ rows) (z:room (n+Γ rows) ie.bytes) {K:Ja}
    (h1:n+Γ rows<=cap->K (.s (.slice (Δ ⟨b,0,Θ⟩) (n+Γ rows) cap)) (st.sO b (.cells (zu l (n*ie.size) rows.flatten))))
    (h2:cap<n+Γ rows->∀b' d,Fresh st b'->n+Γ rows<=d->d<=9223372036854775807->K (.s (.slice (Δ ⟨b',0,Θ⟩) (n+Γ rows) d)) (st.sO b' (.cells (l.take (n*ie.size)++rows.flatten++List.replicate ((d-(n+Γ rows))*ie.size) .any)))):
    AppX P c st e (.s (.slice (Δ ⟨b,0,Θ⟩) n cap)) x K:=by
  refine⟨⟨ie,R⟩,λie' p Oth M w sv xv f ty T t sto hs V π ι hu η h0 ς=>?_⟩;rw[R]at p;cases p;have hs:=VRel.eq_s hs;subst hs;have A:AppArgs P c f T t e ie (Δ ⟨b,0,Θ⟩) n cap xv:=⟨π,ι,hu,η,h0,ς⟩
  obtain⟨Q,hl2,v,o,G,H,S⟩:=I8 (P:=P) (β:=λ_=>0) (k:=ie.size) (x:=.av x) V E;have τ:n*ie.size<=Γ l:=Fb7 (Fa3 _ hn) u;by_cases D:n+Γ rows<=cap
  . obtain⟨⟨cs,e0,fr,ο,ε,L,υ⟩,hM⟩:=sto.obj b _ ho
    have hfit:n*ie.size+Γ v.toList<=cs.size:=by rw[Fco,H,<-Fch,<-L];exact Fb7 (Fa3 _ D) u
    obtain⟨w',X,W⟩:=Kb (P:=P) w b (n*ie.size) v.toList 0 w cs e0 fr ο (.inl ε) hfit G;have hrun:=K4 (w':=w') ty A Q (S w rfl) D (λa ha=>by cases ha;rw[wu,Fbd];exact X) (λh=>ω);obtain⟨k1,k2⟩:=Cp sto ho o W;exact⟨_,_,hrun,_,_,M,h1 D,.s _,k1,k2⟩
  . have D:cap<n+Γ rows:=Z
    obtain⟨U,C,ν,B⟩:=zfn (P:=P) (cap:=cap) (sto.obj b _ ho).1 τ;obtain⟨g,j,g1,g0,g2,g3⟩:=K5 ty A Q (S w.drew rfl) (B w.drew rfl) D z;have gd:Grow w w.drew:=Grow.drew w;have sto1:=sto.grow gd;obtain⟨f1,f2,f3⟩:=Hl sto1 (U++v++j) e (l:=l.take (n*ie.size)++rows.flatten++List.replicate j.size .any) (by
      rw[Fbc,Fbc];refine((C.append o).append ⟨φ,λi x y E hy=>?_⟩).keep (gd.keeps _);rw[Fbv]at E;split at E
      . cases E;exact .any _
      grind)
    have e1:w.drew.heap.size=w.heap.size:=rfl;rw[g2]at f2;exact⟨_,_,g3,_,_,_,h2 D _ g f1 g1 g0,.s _,f2,(gd.chg M).trans f3⟩
def zh8{e:TypeId}{ie:TI}(o:c.I e=Δ ie){x:AV}{rows:List (List AV)}(j:vw ie.size (.av x)=Δ rows)(C:room (Γ rows) ie.bytes)(ε:0<Γ rows){K:Ja}
    (h2:∀Q a,Fresh st Q->Γ rows<=a->a<=9223372036854775807->K (.s (.slice (Δ ⟨Q,0,Θ⟩) (Γ rows) a)) (st.sO Q (.cells (rows.flatten++List.replicate ((a-Γ rows)*ie.size) .any)))):
    AppX P c st e (.s (.slice Θ 0 0)) x K:=by
  refine⟨⟨ie,o⟩,λW g Oth M w sv V b ty p t sto B u G z X v h0 H=>?_⟩;rw[o]at g;cases g;have B:=VRel.eq_s B;subst B;have A:AppArgs P c b p t e ie Θ 0 0 V:=⟨G,z,X,v,h0,H⟩
  obtain⟨D,η,h,n,R,S,E⟩:=I8 (P:=P) (β:=λ_=>0) (k:=ie.size) (x:=.av x) u j;obtain⟨d,f,U,g0,g2,T⟩:=K5 (old:=#[]) ty A D (E w.drew rfl) ξ Z δ;have gd:Grow w w.drew:=Grow.drew w;have sto1:=sto.grow gd;obtain⟨f1,L,f3⟩:=Hl sto1 (#[]++h++f) e (l:=rows.flatten++List.replicate f.size .any) (by
    rw[Fbc,Fbc];refine((show Reads w _ rows.flatten ([]++h.toList)from n).append ⟨φ,λi x y j hy=>?_⟩).keep (gd.keeps _);rw[Fbv]at j;split at j
    . cases j;exact .any _
    grind)
  rw[g2]at L;simp only[Fbd]at U T L;exact⟨_,_,T,_,_,_,h2 _ d f1 U g0,.s _,L,(gd.chg M).trans f3⟩
def Ints(st:Store)(v:AV)(d:List Int):Prop:=
  (v=.s (.slice Θ 0 0)/\d=[])\/∃b a L,v=.s (.slice (Δ ⟨b,0,Θ⟩) (Γ d) a)/\st.obj b=Δ (.cells (d.map (λn=>AV.s (.int .i64 n))++L))/\Γ d<=a/\a<=Γ d+Γ L/\a<=9223372036854775807
end
open Go.Proofs Go.Shelf Go.Sort Go.RowKit
section
variable {P:Program} {ρ:Ren} {w:World} {st:Store} {Oth M:BB}
def vI(n:Int):Value:=.int .i64 n
def aI(n:Int):AV:=.s (.int .i64 n)
def Hf(T:BB)(a:List Int):Reads w T (a.map aI) (a.map vI):=by
  have:=Reads.map_s (w:=w) (T:=T) (a.map vI)
  rwa [List.map_map]at this
def rm{w:World}{b q:Nat}{c:Array Value}{e:TypeId}{g:Nat×Nat}(f:w.heap[b]?=Δ (.cells c e g))(a:List Int)(j:Γ a<=c.size):
    Wrote w b 0 (a.map vI) (putRow (Value.int .i64) (Sort.ahead w q) b 0 a.toArray) where
  size:=φ
  other o d:=by simp_all[putRow,mapBlock,Fc4,Ne.symm]
  blk n l fr' h:=by
    rw[f]at h;cases h;refine⟨putCells (Value.int .i64) 0 a.toArray c,?_,?_,by simp[putCells]⟩
    . simp_all[putRow,mapBlock,Fc4,onCells]
    . apply Fcd
      intro i;simp only[putCells,Fdg,Fcp,Fde,Fbd,Fas,Array.getElem?_mapIdx];by_cases k:i<Γ a
      . grind[vI]
      grind
  tape:=rfl
  os:=rfl
  output:=rfl
def yom(w:World)(a:Array Obj):Grow w (Sort.grow w a) where
  size:=φ
  blk b c:=by grind[Sort.grow]
  tape:=rfl
  os:=rfl
  output:=rfl
def N8{T:BB}{b:Nat}{ns:List Int}{L:List AV}(h:CellsRel w T (ns.map aI++L) b):
    ∃c e a,w.heap[b]?=Δ (.cells c e a)/\a.2=a.1/\Γ ns+Γ L=c.size/\∀j,j<Γ ns->c[j]?=Δ (vI (ns.getD j 0)):=by
  obtain⟨c,e,a,l,k,n,i⟩:=h;refine⟨c,e,a,l,k,δ,λj f=>?_⟩;have d:j<c.size:=δ;have g:=i j (aI ns[j]) c[j] δ φ;rw[Fby d,VRel.eq_s g];simp[f,vI]
def zer{T:BB}{b:Nat}{a:List Int}{L:List AV}(h:CellsRel w T (a.map aI++L) b):Holds (Value.int .i64) w b 0 a.toArray:=by obtain⟨c,e,l,k,i,g,f⟩:=N8 h;intro j d;simp_all[World.cell?,vI,World.frozen?]
theorem ur{xs l L:List AV}(h:Γ xs=Γ l):zu (l++L) 0 xs=xs++L:=by simp_all[zu]
theorem Fh{A B xs:List AV}{o:Nat}(h:Γ A=o):zu (A++B) o xs=A++xs++B.drop (Γ xs):=by grind[zu,List.take_left,List.drop_append]
def zh6{x:AV}{a:Array Value}{T:BB}(h:Reads w T [x] a.toList):∃v,a=#[v]/\VRel w T x v:=by grind[Lq]
def yuk{x y:AV}{a:Array Value}{T:BB}(h:Reads w T [x,y] a.toList):∃u v,a=#[u,v]/\VRel w T x u/\VRel w T y v:=by grind[Hg]
def rb{x y z:AV}{a:Array Value}{T:BB}(h:Reads w T [x,y,z] a.toList):∃u v t,a=#[u,v,t]/\VRel w T x u/\VRel w T y v/\VRel w T z t:=by grind[zby]
def Rs{v:AV}{c:List Int}(h:Ints st v c):(v=.s (.slice Θ 0 0)/\c=[])\/∃b a L,v=.s (.slice (Δ ⟨b,0,Θ⟩) (Γ c) a)/\st.obj b=Δ (.cells (c.map aI++L))/\Γ c<=a/\a<=Γ c+Γ L/\a<=9223372036854775807:=h
def yal (I : Lays.n189 P ρ) {l : Func} {i : Code} (E : P.funcs[ρ.f 189]? = Δ l) (H : l.body = Δ i) (d : (l.name == "runtime.NumGoroutine") = false) {b j : Nat} {a : List Int} {L : List AV} (p : st.obj b = Δ (.cells (a.map aI ++ L)))
    (g:Γ a<4611686018427387904) {R:Ja} (h:R (.tup []) (st.sO b (.cells ((a.mergeSort λx y=>decide (x<=y)).map aI++L)))):
    ACalls P (ρ.f 189) [.s (.slice (Δ ⟨b,0,Θ⟩) (Γ a) j)] st R:=by
  refine ACalls.of_calls E H d λOth M w Q sto D=>?_;obtain⟨v,rfl,B⟩:=zh6 D;cases B;have hobj:=(sto.obj b _ p).1;obtain⟨c,e,V,u,U,T,S⟩:=N8 hobj;refine Calls.mono (Any.slices_Sort_int I b 0 j a w (zer hobj) (Ho u) g) λW K ⟨G,n,os,k⟩=>⟨_,G,?_⟩
  subst k;have C:(a.mergeSort λx y=>decide (x<=y)).length=Γ a:=List.length_mergeSort a;have A:=rm (q:=n) u (a.mergeSort λx y=>decide (x<=y)) Z;obtain⟨o,z⟩:=Cp sto p (Hf _ _) A;have t:=yom (putRow (Value.int .i64) (Sort.ahead w n) b 0 (a.mergeSort λx y=>decide (x<=y)).toArray) os;refine⟨.tup [],_,M,h,Ah Reads.nil,?_,z.trans (t.chg M)⟩;rw[ur φ]at o;exact o.grow t
def yak (Ly : Lays.n189 P ρ) {fn : Func} {code : Code} (hf : P.funcs[ρ.f 189]? = Δ fn) (hb : fn.body = Δ code) (hname : (fn.name == "runtime.NumGoroutine") = false) {R : Ja} (h : R (.tup []) st) :
    ACalls P (ρ.f 189) [.s (.slice Θ 0 0)] st R:=by
  refine ACalls.of_calls hf hb hname λOth M w vs sto hr=>?_;obtain⟨v,rfl,hv⟩:=zh6 hr;cases hv;refine Calls.mono (Any.slices_Sort_int_none Ly Θ 0 w) λe' w' ⟨he,hw'⟩=>⟨_,he,?_⟩
  subst hw';exact⟨.tup [],st,M,h,Ah Reads.nil,sto,Chg.refl _ _⟩
def ya3 (z : Lays2.n25 P ρ) {n : Func} {k : Code} (H : P.funcs[ρ.f 25]? = Δ n) (Q : n.body = Δ k) (g : (n.name == "runtime.NumGoroutine") = false) {v : AV} {a : List Int} (B : Ints st v a) (x : Int)
    (i:Γ a<4611686018427387904) (W:a.Pairwise (·<=·)) {R:Ja} (h:R (.tup [aI (a.countP (·<x):Nat),.s (.bool (a.contains x))]) st):
    ACalls P (ρ.f 25) [v,aI x] st R:=by
  refine ACalls.of_calls H Q g λOth M w V sto D=>?_;obtain⟨u,t,rfl,p,C⟩:=yuk D;cases C;rcases Rs B with⟨rfl,rfl⟩|⟨b,o,L,rfl,E,K,I⟩
  . cases p
    refine Calls.mono (Any.slices_BinarySearch_int_empty z Θ 0 x w) λU A ⟨l,d⟩=>⟨_,l,?_⟩
    subst d;refine⟨_,st,M,h,Ah (Reads.cons (.s _) (Reads.cons (.s _) Reads.nil)),sto,Chg.refl _ _⟩
  . cases p
    have hobj:=(sto.obj b _ E).1;obtain⟨c,e,fr,T,h2,X,S⟩:=N8 hobj;refine Calls.mono (Any.slices_BinarySearch_int z b 0 (Γ a) o a x w (Fai _) i (λj G=>?_) δ) λU A ⟨l,q,d⟩=>⟨_,l,?_⟩
    . rw[Fbd]
      simp only[World.cell?,T];exact S j G
    . subst d
      rw[Fal];have y:Grow w (w.drewN q):=⟨Fai _,λ_ _=>rfl,rfl,rfl,rfl⟩
      exact⟨_,st,M,h,Ah (Reads.cons (.s _) (Reads.cons (.s _) Reads.nil)),sto.grow y,y.chg M⟩
def ysd (V : Lays2.n23 P ρ) {z : Func} {k : Code} (Q : P.funcs[ρ.f 23]? = Δ z) (T : z.body = Δ k) (g : (z.name == "runtime.NumGoroutine") = false) {b d i j : Nat} {a : List Int} {L : List AV} (A : st.obj b = Δ (.cells (a.map aI ++ L)))
    (y:Γ a<=d) (p:d<=9223372036854775807) (o:i<=j) (K:j<=Γ a) {R:Ja}
    (h:R (.s (.slice (Δ ⟨b,0,Θ⟩) (a.take i++a.drop j).length d)) (st.sO b (.cells ((a.take i++a.drop j).map aI++(List.replicate (j-i) (aI 0)++L))))):
    ACalls P (ρ.f 23) [.s (.slice (Δ ⟨b,0,Θ⟩) (Γ a) d),aI i,aI j] st R:=by
  refine ACalls.of_calls Q T g λOth M w X sto H=>?_;obtain⟨u,v,t,rfl,E,D,G⟩:=rb H;cases E;cases D;cases G;have hobj:=(sto.obj b _ A).1;obtain⟨c,e,fr,U,h2,h3,h4⟩:=N8 hobj;have I:(a.take i++a.drop j++List.replicate (j-i) 0).length=Γ a:=δ;have n:(a.take i++a.drop j).length=Γ a-(j-i):=δ;refine Calls.mono (Any.slices_Delete_int V b 0 d i j a w (zer hobj) y p o K) λe' W ⟨S,q,l⟩=>⟨_,S,?_⟩
  subst l;have C:=rm (q:=q) U (a.take i++a.drop j++List.replicate (j-i) 0) Z;obtain⟨k1,B⟩:=Cp sto A (Hf _ _) C;rw[<-n];refine⟨_,_,M,h,.s _,?_,B⟩;grind[ur,List.map_replicate]
def yvi(i:Lays7.n25 P ρ)(x y c:Nat)(g:c<=1){R:Ja}
    (h:R (.tup [.s (.int .u64 ((x+y+c)%18446744073709551616:Nat)),.s (.int .u64 ((x+y+c)/18446744073709551616:Nat))]) st):
    ACalls P (ρ.f 25) [.s (.int .u64 x),.s (.int .u64 y),.s (.int .u64 c)] st R:=by
  refine ACalls.of_value λOth M w j sto e=>?_;obtain⟨u,v,t,rfl,b,a,d⟩:=rb e;cases b;cases a;cases d;exact⟨_,w,Any7.bits_Add64 i x y c g w,_,st,M,h,Ah (Reads.cons (.s _) (Reads.cons (.s _) Reads.nil)),sto,Chg.refl _ _⟩
def Mr{b:Nat}:∀(a:List Value) (o:Nat) (w:World) (c:Array Value) (e:TypeId) (d:Nat×Nat),w.heap[b]?=Δ (.cells c e d)->o+Γ a<=c.size->Wrote w b o a (w.setCells b o a):=by
  intro a;induction a with
  |nil=>intro o w c e d h _;exact⟨rfl,λ_ _=>rfl,λc e d h=>⟨c,h,φ,rfl⟩,rfl,rfl,rfl⟩
  | cons v a l=>
    intro o w c e d h n;simp only[Fbb]at n;have j:(w.setCell ⟨b,o,Θ⟩ v).heap[b]?=Δ (.cells (c.setIfInBounds o v) e d):=by rw[bf,if_pos rfl,h];rfl
    have k:=l (o+1) (w.setCell ⟨b,o,Θ⟩ v) _ e d j δ;refine⟨by rw[World.setCells,k.size];simp,λA i=>by rw[World.setCells,k.other A i,bf,if_neg i],λG E y f=>?_,by rw[World.setCells,k.tape];rfl,by rw[World.setCells,k.os];rfl,by rw[World.setCells,k.output];rfl⟩;rw[h]at f;cases f;obtain⟨z,u,t,D⟩:=k.blk _ _ _ j;refine⟨z,u,?_,δ⟩;rw[t,Array.toList_setIfInBounds];have g:o<Γ c.toList:=δ;have p:(c.toList.take o).length=o:=δ;rw[List.set_eq_take_append_cons_drop,if_pos g];have C:(c.toList.take o++v::c.toList.drop (o+1)).take (o+1)=c.toList.take o++[v]:=δ;have B:(c.toList.take o++v::c.toList.drop (o+1)).drop (o+1+Γ a)=c.toList.drop (o+(Γ a+1)):=by rw[List.drop_append,p,show o+1+Γ a-o=Γ a+1 by omega,Fcy Z,Fde,List.drop_succ_cons,Fdb];grind
    grind
def yno (Ly : Lays2.n21 P ρ) {fn : Func} {ν : Code} (hf : P.funcs[ρ.f 21]? = Δ fn) (hb : fn.body = Δ ν) (T : (fn.name == "runtime.NumGoroutine") = false) {v : AV} {d : List Int} (X : Ints st v d) {A : Nat} (x : Int) (i : Nat) (hi : i <= Γ d)
    (ο:st.obj A=Δ (.cells [aI x])) (ς:∀b g,v=.s (.slice (Δ ⟨b,0,Θ⟩) (Γ d) g)->b≠A) (K:(Γ d+1)*8<=140737488355328) {R:Ja}
    (h:∀b g L,(Fresh st b\/∃c0,v=.s (.slice (Δ ⟨b,0,Θ⟩) (Γ d) c0))->(d.take i++x::d.drop i).length<=g->g<=(d.take i++x::d.drop i).length+Γ L->g<=9223372036854775807->
      R (.s (.slice (Δ ⟨b,0,Θ⟩) (d.take i++x::d.drop i).length g)) (st.sO b (.cells ((d.take i++x::d.drop i).map aI++L)))):
    ACalls P (ρ.f 21) [v,aI i,.s (.slice (Δ ⟨A,0,Θ⟩) 1 1)] st R:=by
  refine ACalls.of_calls hf hb T λOth M w vs sto hr=>?_;obtain⟨u,t,s,rfl,hu,ht,hs⟩:=rb hr;cases ht;cases hs;have τ:=(sto.obj A _ ο).1;obtain⟨cv,ev,frv,v1,v2,v3,v4⟩:=N8 (ns:=[x]) (L:=[]) (show CellsRel w _ ([x].map aI++[]) A from τ);have C:∀j v,([vI x]:List Value)[j]?=Δ v->w.cell? ⟨A,0+j,Θ⟩=Δ v:=by grind[World.cell?]
  have E:∀v∈([vI x]:List Value),v.oneCell'=true:=by intro v X;simp at X;subst X;rfl
  have D:(d.take i++x::d.drop i).length=Γ d+1:=δ;have hcut:∀(w:World) (k G:Nat) (e:TypeId),k<=140737488355328->k<=grownCap w k G e/\grownCap w k G e<=9223372036854775807:=by intro w k G e hn;unfold grownCap;simp only[Question.cut];have:=Nat.mod_lt (w.tape w.drawn (.appendCap k G e)) (show 0<2^63-k by omega);omega
  rcases Rs X with⟨rfl,rfl⟩|⟨b,g,L,rfl,ho,ε,hc2,I⟩
  . cases hu
    simp only[Fcj,Nat.le_zero]at hi;subst hi;refine Calls.mono (Any2.slices_Insert_int_end_grow Ly Θ 0 0 A 0 1 1 [] [vI x] w Z (Fai _) Z Z rfl rfl (λ_=>rfl) (λa ha=>by cases ha) C E) λe' w' ⟨H,p⟩=>⟨_,H,?_⟩
    obtain⟨g1,g2⟩:=hcut w (0+1) 0 (ρ.t 3) Z;generalize grownCap w (0+1) 0 (ρ.t 3)=gc at*;subst p;have gd:Grow w w.drew:=Grow.drew w;obtain⟨f1,f2,f3⟩:=Hl (sto.grow gd) ((([]:List Value)++[vI x]).toArray++Builtin.zeroCells (Value.int .i64 0).cells (gc-(0+1))) (ρ.t 3) (l:=[x].map aI++List.replicate (gc-(0+1)) .any) (by
      rw[Fbc];refine Reads.append (Hf _ [x]) ⟨ψv,λi x y z hy=>?_⟩;rw[Fbv]at z;split at z
      . cases z;exact .any _
      grind)
    have:=h w.heap.size gc (List.replicate (gc-(0+1)) .any) (.inl f1) δ δ g2;exact⟨_,_,_,this,.s _,f2,(gd.chg M).trans f3⟩
  . cases hu
    have υ:b≠A:=ς b g rfl;have hobj:=(sto.obj b _ ho).1;obtain⟨c,e,fr,h1,h2,h3,h4⟩:=N8 hobj;have cell:∀j,j<c.size->w.cell? ⟨b,0+j,Θ⟩=c[j]?:=λj hj=>by simp_all[World.cell?]
    have froz:∀o,w.frozen? ⟨b,o,Θ⟩=false:=λo=>by grind[World.frozen?]
    have V:∀j v,(d.map vI)[j]?=Δ v->w.cell? ⟨b,0+j,Θ⟩=Δ v:=δ;have ι:∀v∈d.map vI,v.oneCell'=true:=by intro v X;obtain⟨n,_,rfl⟩:=Fag.1 X;rfl
    by_cases hroom:Γ d+1<=g
    . obtain⟨L0,hL⟩:∃L0,L=L0:=⟨_,rfl⟩
      by_cases U:i=Γ d
      . subst U
        refine Calls.mono (Any2.slices_Insert_int_end_room Ly b 0 (Γ d) g A 0 1 1 [vI x] w Z hroom I rfl (λj hj=>?_) (λj hj=>froz _) C E) λe' w' ⟨H,p⟩=>⟨_,H,?_⟩
        . grind
        . subst p
          rw[Fbd];have hw:=Mr [vI x] (Γ d) w c e fr h1 δ;obtain⟨W,k2⟩:=Cp sto ho (Hf _ [x]) hw;rw[Fh φ]at W;have e2:(d.take (Γ d)++x::d.drop (Γ d)).map aI=d.map aI++[x].map aI:=φ;have:=h b g (L.drop 1) (.inr ⟨g,rfl⟩) Z δ I;rw[D,e2]at this;exact⟨_,_,M,this,.s _,W,k2⟩
      . have π:∀j,j<Γ d+1->(w.cell? ⟨b,0+j,Θ⟩).isSome=true:=λj hj=>by grind
        refine Calls.mono (Any2.slices_Insert_int_shift Ly b 0 (Γ d) g i A 0 1 1 (d.map vI) [vI x] w Z Z hroom I (Ne.symm υ) φ rfl V π (λj _=>froz _) C ι E ev e cv.size c.size
          (by simp[World.shape?,v1]) (by simp[World.shape?,h1]) Z ?_ ?_) λe' w' ⟨H,p⟩=>⟨_,H,?_⟩
        . grind[World.frozen?]
        . grind[World.frozen?]
        . subst p
          rw[Fbd,Fbd,<-List.map_drop];have gd:Grow w w.drew:=Grow.drew w;have B:=Mr ((d.drop i).map vI) (i+1) w.drew c e fr h1 δ;obtain⟨W,k2⟩:=Cp (sto.grow gd) ho (Hf _ _) B;obtain⟨c',m1,_,m2⟩:=B.blk c e fr h1;have S:=Mr [vI x] i _ c' e fr m1 δ;obtain⟨Q,k4⟩:=Cp W (zd _ _ _) (Hf _ [x]) S;rw[ym]at Q;have e1:zu (zu (d.map aI++L) (i+1) ((d.drop i).map aI)) i ([x].map aI)=(d.take i++x::d.drop i).map aI++L.drop 1:=by
            have hL1:1<=Γ L:=Z;cases L with
            |nil=>grind
            | cons y L=>
              have q1:d.map aI++y::L=(d.map aI++[y]).take (i+1)++((d.map aI++[y]).drop (i+1)++L):=by grind[List.take_append_drop]
              have q2:((d.map aI++[y]).take (i+1)).length=i+1:=δ;grind[Fh,List.map_take,List.take_succ_eq_append_getElem]
          rw[e1]at Q;have:=h b g (L.drop 1) (.inr ⟨g,rfl⟩) Z (by rw[D];simp;omega) I;rw[D]at this;exact⟨_,_,M,this,.s _,Q,((gd.chg M).trans k2).trans k4⟩
    . obtain⟨g1,g2⟩:=hcut w (Γ d+1) g (ρ.t 3) Z
      by_cases U:i=Γ d
      . subst U
        refine Calls.mono (Any2.slices_Insert_int_end_grow Ly (Δ ⟨b,0,Θ⟩) (Γ d) g A 0 1 1 (d.map vI) [vI x] w Z ε Z K φ rfl (λhh=>by cases hh) (λa ha j v hj=>?_) C E) λe' w' ⟨H,p⟩=>⟨_,H,?_⟩
        . cases ha;rw[wu];exact V j v hj
        . generalize grownCap w (Γ d+1) g (ρ.t 3)=gc at*
          subst p;have gd:Grow w w.drew:=Grow.drew w;obtain⟨f1,f2,f3⟩:=Hl (sto.grow gd) ((d.map vI++[vI x]).toArray++Builtin.zeroCells (Value.int .i64 0).cells (gc-(Γ d+1))) (ρ.t 3) (l:=(d++[x]).map aI++List.replicate (gc-(Γ d+1)) .any) (by
            rw[Fbc];refine Reads.append ?_ ⟨ψv,λi x y z hy=>?_⟩
            . have:=Hf (w:=w.drew) (λb o=>M b o\/Oth b o) (d++[x])
              rw[Fa8 (f:=vI)]at this;exact this
            . rw[Fbv]at z
              split at z
              . cases z;exact .any _
              . cases z)
          have e2:d.take (Γ d)++x::d.drop (Γ d)=d++[x]:=φ;rw[e2]at h;have:=h w.heap.size gc (List.replicate (gc-(Γ d+1)) .any) (.inl f1) (by simpa using g1) χ g2;rw[Fad]at this;exact⟨_,_,_,this,.s _,f2,(gd.chg M).trans f3⟩
      . refine Calls.mono (Any2.slices_Insert_int_grow Ly b 0 (Γ d) g i A 0 1 1 (d.map vI) [vI x] w Z Z ε Z K φ rfl V C ι E) λe' w' ⟨H,p⟩=>⟨_,H,?_⟩
        generalize grownCap w (Γ d+1) g (ρ.t 3)=gc at*;subst p;rw[<-List.map_take,<-List.map_drop];obtain⟨f1,f2,f3⟩:=Hl sto (((d.take i).map vI).toArray++Builtin.zeroCells (Value.int .i64 0).cells (Γ d+1-i)++Builtin.zeroCells (Value.int .i64 0).cells (gc-(Γ d+1))) (ρ.t 3) (l:=(d.take i).map aI++List.replicate (Γ d+1-i+(gc-(Γ d+1))) .any) (by
          rw[Array.append_assoc,Fbc];refine Reads.append (Hf _ _) ⟨ψv,λi x y z hy=>?_⟩;rw[Fbv]at z;split at z
          . cases z;exact .any _
          . cases z)
        generalize hArr:(((d.take i).map vI).toArray++Builtin.zeroCells (Value.int .i64 0).cells (Γ d+1-i)++Builtin.zeroCells (Value.int .i64 0).cells (gc-(Γ d+1)))=Arr at*;have hAs:Arr.size=gc:=by rw[<-hArr];simp[Builtin.zeroCells,Value.cells];omega
        have η:(w.alloc (.cells Arr (ρ.t 3))).drew.heap[w.heap.size]?=Δ (.cells Arr (ρ.t 3) (0,0)):=Ko w _;have gd1:Grow (w.alloc (.cells Arr (ρ.t 3))) (w.alloc (.cells Arr (ρ.t 3))).drew:=Grow.drew _;have B:=Mr [vI x] i _ _ _ _ η χ;obtain⟨W,k2⟩:=Cp (f2.grow gd1) (zd _ _ _) (Hf _ [x]) B;obtain⟨c',m1,_,m2⟩:=B.blk _ _ _ η;have gd2:Grow ((w.alloc (.cells Arr (ρ.t 3))).drew.setCells w.heap.size i [vI x]) ((w.alloc (.cells Arr (ρ.t 3))).drew.setCells w.heap.size i [vI x]).drew:=Grow.drew _;have S:=Mr ((d.drop i).map vI) (i+1) ((w.alloc (.cells Arr (ρ.t 3))).drew.setCells w.heap.size i [vI x]).drew c' _ _ m1 χ;obtain⟨Q,k4⟩:=Cp (W.grow gd2) (zd _ _ _) (Hf _ _) S;rw[ym,ym]at Q;have e1:zu (zu ((d.take i).map aI++List.replicate (Γ d+1-i+(gc-(Γ d+1))) .any) i ([x].map aI)) (i+1) ((d.drop i).map aI)=(d.take i++x::d.drop i).map aI++List.replicate (gc-(Γ d+1)) .any:=by rw[Fh χ,Fh χ,List.drop_replicate,List.drop_replicate];have q:Γ d+1-i+(gc-(Γ d+1))-([x].map aI).length-((d.drop i).map aI).length=gc-(Γ d+1):=χ;rw[q];simp
        rw[e1]at Q;have:=h w.heap.size gc (List.replicate (gc-(Γ d+1)) .any) (.inl f1) Z (by rw[D];simp;omega) g2;rw[D]at this;exact⟨_,_,_,this,.s _,Q,((((f3.trans (gd1.chg _)).trans k2).trans (gd2.chg _)).trans k4)⟩
end
section
variable {a g:Store} {b j:Nat} {x id:Int}
theorem z8(a g:Store)(b:Nat)(x:AObj):(a.un g).sO b x=a.un (g.sO b x):=by unfold Store.un Store.sO;grind
theorem Dx(a:Store):a.un Store.empty=a:=ξ
def yr4(a:Store):zl a Store.empty:=λb _ h=>h.elim (λh=>h rfl) (λh=>h rfl)
def fresh_un(h:Fresh (a.un g) b):Fresh a b/\Fresh g b:=by grind[fresh_iff,un_has]
theorem has_setObj_iff{i:Nat}{x:AObj}:(g.sO b x).has i↔i=b\/g.has i:=by grind[Store.has,zd,qp,Store.sO]
def disj_setR{x:AObj}(h:zl a g)(e:Fresh a b):zl a (g.sO b x):=by
 intro i d c;rcases has_setObj_iff.1 c with rfl|c
 .exact(fresh_iff.1 e) d
 .exact h i d c
theorem Oq{x y:AObj}(h:zl a g)(e:g.obj b=Δ y):zl a (g.sO b x):=by
 intro i d c;rcases has_setObj_iff.1 c with rfl|c
 .exact h i d (xk e)
 .exact h i d c
def z7(p:Vc):Int×Int:=(nrm p.1/131072,nrm p.2/131072)
abbrev Ent:=Int×Vc
def Bg(e:Ent):AV×AV:=(int e.1,.agg (zr e.2))
structure Grp where
 x:Int
 y:Int
 ns:List Int
 b:Nat
 cap:Nat
 L:List AV
def Grp.key(g:Grp):Int×Int:=(g.x,g.y)
def Bf(g:Grp):AV×AV:=(.agg [int g.x,int g.y],.s (.slice (Δ ⟨g.b,0,Θ⟩) (Γ g.ns) g.cap))
def Grp.fits(g:Grp):Prop:=Γ g.ns<=g.cap/\g.cap<=Γ g.ns+Γ g.L/\g.cap<=9223372036854775807
structure CellsAt(a:Store)(p ma mi:Nat)(l:List Ent)(bs1:List Nat)(c1:Nat)(G:List Grp)(bs2:List Nat)(c2:Nat):Prop where
 hp:a.obj p=Δ (.cells [.s (.map (Δ ma)),.s (.map (Δ mi))])
 ha:a.obj ma=Δ (.map (l.map Bg) bs1 c1)
 hi:a.obj mi=Δ (.map (G.map Bf) bs2 c2)
 ne:ma≠mi
 hg:∀g∈G,a.obj g.b=Δ (.cells (g.ns.map aI++g.L))/\g.fits/\g.b≠p
 nd:(G.map (·.b)).Nodup
structure Inv(l:List Ent)(G:List Grp):Prop where
 n1:(l.map (·.1)).Nodup
 n2:(G.map (·.key)).Nodup
 s:∀g∈G,g.ns.Pairwise (·<·)/\g.ns≠[]
 m1:∀g∈G,∀id,id∈g.ns↔∃e∈l,e.1=id/\z7 e.2=g.key
 m2:∀e∈l,∃g∈G,g.key=z7 e.2
def wv(a:Store)(p:Nat)(l:List Ent):Prop:=∃f e d i G c h,CellsAt a p f e l d i G c h/\Inv l G
def zgn(x:Int):∀{c:List Int},c.Pairwise (·<·)->c.take (c.countP (·<x))=c.filter (·<x)/\c.drop (c.countP (·<x))=c.filter (x<=·):=by
 intro c;induction c with
 |nil=>simp
 |cons a c d=>
  intro h;obtain⟨f,e⟩:=Fc1.1 h;grind
def ysq(x:Int)(c:List Int):c.countP (·<x)<=Γ c:=List.countP_le_length
def ynq{c:List Int}(h:c.Pairwise (·<·))(k:x∉c):
  (c.take (c.countP (·<x))++x::c.drop (c.countP (·<x))).Pairwise (·<·)/\∀y,y∈c.take (c.countP (·<x))++x::c.drop (c.countP (·<x))↔y=x\/y∈c:=by
 obtain⟨p,o⟩:=zgn x h;rw[p,o];refine⟨?_,λy=>?_⟩
 .rw[List.pairwise_append,Fc1];refine⟨h.filter _,⟨λy i=>?_,h.filter _⟩,λa l b f=>?_⟩
  .have d:=Fcc.1 i;have n:x<=y:=by simpa using d.2
   have t:y≠x:=λe=>k (e▸d.1);omega
  .have d:=(Fcc.1 l).2;have d:a<x:=by simpa using d
   rcases Fa7.1 f with rfl|f
   .exact d
   .have n:x<=b:=by simpa using(Fcc.1 f).2
    omega
 grind
def yse{c:List Int}(h:c.Pairwise (·<·))(d:x∈c):
  c.countP (·<x)+1<=Γ c/\(c.take (c.countP (·<x))++c.drop (c.countP (·<x)+1)).Pairwise (·<·)/\∀y,y∈c.take (c.countP (·<x))++c.drop (c.countP (·<x)+1)↔y≠x/\y∈c:=by
 obtain⟨i,e⟩:=zgn x h;have hsub:(c.take (c.countP (·<x))++c.drop (c.countP (·<x)+1)).Sublist c:=by grind[List.take_append_drop]
 have f:c.filter (x<=·)=x::c.filter (x<·):=by
  clear i e hsub;induction c with
  |nil=>cases d
  |cons a c n=>
   obtain⟨l,k⟩:=Fc1.1 h;rcases Fa7.1 d with rfl|d
   .grind[List.filter_congr]
   grind
 have o:c.drop (c.countP (·<x)+1)=c.filter (x<·):=by rw[<-Fdb,e,f];rfl
 grind
theorem Gj{α β:Type}{f:α->β}:∀{G:List α} {i j:Nat} {a b:α},(G.map f).Nodup->G[i]?=Δ a->G[j]?=Δ b->f a=f b->i=j:=by
 intro G i j a b hn hi hj h;have hi':(G.map f)[i]?=Δ (f a):=by simp[hi]
 have hj':(G.map f)[j]?=Δ (f b):=by simp[hj]
 grind[List.getElem?_inj]
def Gk{α β:Type}{f:α->β}{G:List α}{g k c:α}(hn:(G.map f).Nodup)(hj:G[j]?=Δ g):c∈G.set j k↔c=k\/(c∈G/\f c≠f g):=by
 have l:=(Fa1.1 hj).1;constructor
 .intro h;obtain⟨i,hi⟩:=Fa6.1 h;by_cases d:j=i
  .grind
  grind[Gj]
 .rintro(rfl|⟨n,o⟩)
  .grind[List.getElem?_set_self]
  .obtain⟨i,hi⟩:=Fa6.1 n;have d:j≠i:=λe=>by grind
   exact Fa6.2 ⟨i,δ⟩
def Wv{α β:Type}{f:α->β}{G:List α}{g c:α}(hn:(G.map f).Nodup)(hj:G[j]?=Δ g):c∈G.eraseIdx j↔(c∈G/\f c≠f g):=by
 constructor
 .grind[List.mem_iff_getElem?,Gj]
 .rintro⟨k,l⟩;obtain⟨i,hi⟩:=Fa6.1 k;have h:i≠j:=λe=>by grind
  refine Fa6.2 ?_;by_cases d:i<j
  .exact⟨i,δ⟩
  .refine⟨i-1,?_⟩;grind
theorem mn{α β:Type}(f:α->β){G:List α}{g g':α}(c:G[j]?=Δ g)(h:f g'=f g):(G.set j g').map f=G.map f:=by rw[List.map_set,h];apply Fcd;grind
def ynb{G:List Grp}(hn:(G.map (·.key)).Nodup){g c:Grp}(h:g∈G)(e:c∈G)(d:c.key=g.key):c=g:=by grind[List.mem_iff_getElem?,Gj]
theorem Rx{l:List Ent}(hn:(l.map (·.1)).Nodup){e c:Ent}(h:e∈l)(k:c∈l)(d:c.1=e.1):c=e:=by obtain⟨i,hi⟩:=Fa6.1 h;obtain⟨j,hj⟩:=Fa6.1 k;have:=Gj (f:=λ(e:Ent)=>e.1) hn hj hi d;grind
def qz(l:List Ent)(id:Int):List Ent:=l.filter λe=>e.1 != id
theorem mem_dropId{l:List Ent}{e:Ent}:e∈qz l id↔e∈l/\e.1≠id:=by simp[qz]
def zge{l:List Ent}(h:(l.map (·.1)).Nodup):((qz l id).map (·.1)).Nodup:=h.sublist ((List.filter_sublist).map _)
def ynh{l:List Ent}{G:List Grp}(h:Inv l G){e:Ent}(H:e∈l){g:Grp}(o:G[j]?=Δ g)(E:g.key=z7 e.2){k:List Int}(K:k.Pairwise (·<·))(D:∀y,y∈k↔y≠e.1/\y∈g.ns):
  (k=[]->Inv (qz l e.1) (G.eraseIdx j))/\(k≠[]->∀A:Grp,A.key=g.key->A.ns=k->Inv (qz l e.1) (G.set j A)):=by
 have w:=Fa4 o;have key:∀c∈G,c.key≠g.key->∀id,id∈c.ns↔∃i∈qz l e.1,i.1=id/\z7 i.2=c.key:=by
  intro c d n id;rw[h.m1 c d id];constructor
  .rintro⟨i,u,t,p⟩;refine⟨i,mem_dropId.2 ⟨u,λz=>n ?_⟩,t,p⟩;rw[<-p,Rx h.n1 H u z,E]
  grind[mem_dropId]
 refine⟨λC=>?_,λC A v B=>?_⟩
 .refine⟨zge h.n1,h.n2.sublist ((List.eraseIdx_sublist ..).map _),λc d=>?_,λc d=>?_,λi d=>?_⟩
  .exact h.s c ((Wv (f:=Grp.key) h.n2 o).1 d).1
  .obtain⟨n,u⟩:=(Wv (f:=Grp.key) h.n2 o).1 d;grind
  .obtain⟨n,u⟩:=mem_dropId.1 d;obtain⟨c,t,p⟩:=h.m2 i n;refine⟨c,(Wv (f:=Grp.key) h.n2 o).2 ⟨t,λz=>?_⟩,p⟩;have I:i.1∈g.ns:=(h.m1 g w i.1).2 ⟨i,n,rfl,δ⟩;grind
 .refine⟨zge h.n1,by rw[mn Grp.key o v];exact h.n2,λc d=>?_,λc d=>?_,λi d=>?_⟩
  .rcases(Gk (f:=Grp.key) h.n2 o).1 d with rfl|⟨n,_⟩
   .grind
   .exact h.s c n
  .rcases(Gk (f:=Grp.key) h.n2 o).1 d with rfl|⟨n,u⟩
   .intro id;rw[B,D,h.m1 g w,v];constructor
    .rintro⟨t,i,p,z,I⟩;grind[mem_dropId]
    grind[mem_dropId]
   grind
  .obtain⟨n,u⟩:=mem_dropId.1 d;obtain⟨c,t,p⟩:=h.m2 i n;by_cases z:c.key=g.key
   .exact⟨A,(Gk (f:=Grp.key) h.n2 o).2 (.inl rfl),δ⟩
   .exact⟨c,(Gk (f:=Grp.key) h.n2 o).2 (.inr ⟨t,z⟩),p⟩
def yni{l:List Ent}{G:List Grp}(h:Inv l G){e:Ent}(L:∀k∈l,k.1≠e.1):
  (∀j g i,G[j]?=Δ g->g.key=z7 e.2->i.key=g.key->i.ns.Pairwise (·<·)->(∀y,y∈i.ns↔y=e.1\/y∈g.ns)->Inv (l++[e]) (G.set j i))∧
  ((∀g∈G,g.key≠z7 e.2)->∀i,i.key=z7 e.2->i.ns=[e.1]->Inv (l++[e]) (G++[i])):=by
 have u:((l++[e]).map (·.1)).Nodup:=by rw[Fa8,Fdh];refine⟨h.n1,φ,λa E b D=>?_⟩;grind
 have key:∀d∈G,d.key≠z7 e.2->∀id,id∈d.ns↔∃k∈l++[e],k.1=id/\z7 k.2=d.key:=by
  intro d c o id;rw[h.m1 d c id];constructor
  .simp_all
  grind
 refine⟨λj g i p K n I C=>?_,λB i n v=>?_⟩
 .have w:=Fa4 p;refine⟨u,by rw[mn Grp.key p n];exact h.n2,λd c=>?_,λd c=>?_,λk c=>?_⟩
  .rcases(Gk (f:=Grp.key) h.n2 p).1 c with rfl|⟨o,_⟩
   .grind
   .exact h.s d o
  .rcases(Gk (f:=Grp.key) h.n2 p).1 c with rfl|⟨o,H⟩
   .intro id;rw[C,h.m1 g w,n];constructor
    .rintro(rfl|⟨k,t,z,M⟩)
     .grind
     grind
    grind
   grind
  .rcases Faw.1 c with c|c
   .obtain⟨d,A,t⟩:=h.m2 k c;by_cases z:d.key=g.key
    .exact⟨i,(Gk (f:=Grp.key) h.n2 p).2 (.inl rfl),δ⟩
    .exact⟨d,(Gk (f:=Grp.key) h.n2 p).2 (.inr ⟨A,z⟩),t⟩
   .simp at c;subst c;exact⟨i,(Gk (f:=Grp.key) h.n2 p).2 (.inl rfl),δ⟩
 .refine⟨u,?_,λd c=>?_,λd c=>?_,λk c=>?_⟩
  .rw[Fa8,Fdh];refine⟨h.n2,φ,λa E b D=>?_⟩;grind
  .rcases Faw.1 c with c|c
   .exact h.s d c
   grind
  .rcases Faw.1 c with c|c
   .grind
   .simp at c;subst c;intro id;rw[v,n];constructor
    .grind
    .rintro⟨k,o,H,A⟩;rcases Faw.1 o with o|o
     .obtain⟨P,t,z⟩:=h.m2 k o;grind
     grind
  .rcases Faw.1 c with c|c
   .obtain⟨d,A,t⟩:=h.m2 k c;grind
   grind
end
def qA(id:Int)(e:AV×AV):Bool:=match e.1 with|.s (.int _ n)=>id==n|_=>false
def qG(x y:Int)(e:AV×AV):Bool:=match e.1 with|.agg [.s (.int _ a),.s (.int _ b)]=>(x==a&&(y==b&&true))|_=>false
def Bv(id:Int)(e:Ent):Bool:=id==e.1
def Hz(k:Int×Int)(g:Grp):Bool:=(k.1==g.x&&(k.2==g.y&&true))
theorem atKey_iff{k:Int×Int}{g:Grp}:Hz k g=true↔g.key=k:=by grind[Hz,Grp.key]
theorem zfu(l:List Ent)(id:Int):(l.map Bg).find? (qA id)=(l.find? (Bv id)).map Bg:=by rw[List.find?_map];rfl
theorem ce(l:List Ent)(id:Int):(l.map Bg).findIdx? (qA id)=l.findIdx? (Bv id):=by rw[Fek];rfl
theorem R7(G:List Grp)(k:Int×Int):(G.map Bf).find? (qG k.1 k.2)=(G.find? (Hz k)).map Bf:=by rw[List.find?_map];rfl
theorem cd(G:List Grp)(k:Int×Int):(G.map Bf).findIdx? (qG k.1 k.2)=G.findIdx? (Hz k):=by rw[Fek];rfl
def bz{α:Type}{q:α->Bool}{l:List α}{e:α}(h:l.find? q=Δ e):e∈l/\q e=true:=⟨Fee h,List.find?_some h⟩
def yqs{α:Type}{q:α->Bool}{l:List α}{i:Nat}(h:l.findIdx? q=Δ i):∃e,l[i]?=Δ e/\q e=true/\l.find? q=Δ e:=by grind[List.findIdx?_eq_some_iff_getElem,zfp]
def og{α:Type}{q:α->Bool}{l:List α}{e:α}(h:l.find? q=Δ e):∃i,l.findIdx? q=Δ i/\l[i]?=Δ e:=by
 cases b:l.findIdx? q with
 |none=>grind
 |some i=>
  obtain⟨f,d,_,c⟩:=yqs b;grind
theorem yq4{l:List Ent}(b:(l.map (·.1)).Nodup){i:Nat}{e:Ent}(d:l[i]?=Δ e):l.eraseIdx i=qz l e.1:=by
 induction l generalizing i with
 |nil=>rfl
 |cons a l c=>
  rw[Fb5,List.nodup_cons]at b;grind[List.eraseIdx_cons_zero,qz,List.filter_eq_self]
theorem yri{l:List Ent}{id:Int}(h:l.find? (Bv id)=Θ):qz l id=l:=by grind[qz,List.filter_eq_self,Bv]
section
variable {a:Store} {p ma mi:Nat} {l:List Ent} {bs1:List Nat} {c1:Nat} {G:List Grp} {bs2:List Nat} {c2:Nat}
def CellsAt.p_ne(h:CellsAt a p ma mi l bs1 c1 G bs2 c2):ma≠p/\mi≠p:=by
 refine⟨λe=>?_,λe=>?_⟩
 .have:=h.ha;rw[e,h.hp]at this;cases this
 .have:=h.hi;rw[e,h.hp]at this;cases this
theorem CellsAt.g_ne(h:CellsAt a p ma mi l bs1 c1 G bs2 c2){g:Grp}(c:g∈G):g.b≠ma/\g.b≠mi/\g.b≠p:=by
 obtain⟨i,f,d⟩:=h.hg g c;refine⟨λe=>?_,λe=>?_,d⟩
 .have:=h.ha;grind
 .have:=h.hi;grind
theorem CellsAt.other(h:CellsAt a p ma mi l bs1 c1 G bs2 c2){b:Nat}(x:AObj)(f:b≠p)(e:b≠ma)(d:b≠mi)(i:∀g∈G,b≠g.b):CellsAt (a.sO b x) p ma mi l bs1 c1 G bs2 c2:=
 ⟨by rw[zi (Ne.symm f)];exact h.hp,by rw[zi (Ne.symm e)];exact h.ha,by rw[zi (Ne.symm d)];exact h.hi,h.ne,
  λg c=>by rw[zi (Ne.symm (i g c))];exact h.hg g c,h.nd⟩
def CellsAt.fresh(h:CellsAt a p ma mi l bs1 c1 G bs2 c2){b:Nat}(x:AObj)(c:Fresh a b):CellsAt (a.sO b x) p ma mi l bs1 c1 G bs2 c2:=
 h.other x (c.ne_obj h.hp) (c.ne_obj h.ha) (c.ne_obj h.hi) λg d=>c.ne_obj (h.hg g d).1
def CellsAt.setA(h:CellsAt a p ma mi l bs1 c1 G bs2 c2)(d:List Ent)(e:List Nat)(c:Nat):CellsAt (a.sO ma (.map (d.map Bg) e c)) p ma mi d e c G bs2 c2:=
 ⟨by rw[zi (Ne.symm h.p_ne.1)];exact h.hp,zd _ _ _,by rw[zi (Ne.symm h.ne)];exact h.hi,h.ne,
  λg b=>by rw[zi (h.g_ne b).1];exact h.hg g b,h.nd⟩
theorem CellsAt.setI(h:CellsAt a p ma mi l bs1 c1 G bs2 c2){G':List Grp}(f:List Nat)(c:Nat)(j:∀g∈G',a.obj g.b=Δ (.cells (g.ns.map aI++g.L))/\g.fits/\g.b≠p)(i:(G'.map (·.b)).Nodup):
  CellsAt (a.sO mi (.map (G'.map Bf) f c)) p ma mi l bs1 c1 G' f c:=
 ⟨by rw[zi (Ne.symm h.p_ne.2)];exact h.hp,by rw[zi h.ne];exact h.ha,zd _ _ _,h.ne,
  λg d=>by
   obtain⟨o,n,k⟩:=j g d;have:g.b≠mi:=λe=>by have:=h.hi;grind
   grind[zi],i⟩
structure CellsMid(a:Store)(p ma mi:Nat)(l:List Ent)(bs1:List Nat)(c1:Nat)(G:List Grp)(bs2:List Nat)(c2:Nat)(b:Nat):Prop where
 hp:a.obj p=Δ (.cells [.s (.map (Δ ma)),.s (.map (Δ mi))])
 ha:a.obj ma=Δ (.map (l.map Bg) bs1 c1)
 hi:a.obj mi=Δ (.map (G.map Bf) bs2 c2)
 ne:ma≠mi
 hg:∀g∈G,g.b≠b->a.obj g.b=Δ (.cells (g.ns.map aI++g.L))/\g.fits/\g.b≠p
 nd:(G.map (·.b)).Nodup
def CellsAt.mid(h:CellsAt a p ma mi l bs1 c1 G bs2 c2){b:Nat}(x:AObj)(i:b≠p)(e:b≠ma)(d:b≠mi):CellsMid (a.sO b x) p ma mi l bs1 c1 G bs2 c2 b:=
 ⟨by rw[zi (Ne.symm i)];exact h.hp,by rw[zi (Ne.symm e)];exact h.ha,by rw[zi (Ne.symm d)];exact h.hi,h.ne,
  λg f c=>by rw[zi c];exact h.hg g f,h.nd⟩
theorem CellsMid.setI{b:Nat}(h:CellsMid a p ma mi l bs1 c1 G bs2 c2 b){G':List Grp}(f:List Nat)(c:Nat)(k:∀g∈G',(g∈G/\g.b≠b)\/(a.obj g.b=Δ (.cells (g.ns.map aI++g.L))/\g.fits/\g.b≠p))(i:(G'.map (·.b)).Nodup):
  CellsAt (a.sO mi (.map (G'.map Bf) f c)) p ma mi l bs1 c1 G' f c:=by
 have d:mi≠p:=λe=>by have:=h.hi;rw[e,h.hp]at this;cases this
 refine⟨by rw[zi (Ne.symm d)];exact h.hp,by rw[zi h.ne];exact h.ha,zd _ _ _,h.ne,λg j=>?_,i⟩;have key:a.obj g.b=Δ (.cells (g.ns.map aI++g.L))/\g.fits/\g.b≠p:=by grind[hg]
 obtain⟨t,o,n⟩:=key;have:g.b≠mi:=λe=>by have:=h.hi;grind
 grind[zi]
end
def yj9{a:Store}{p ma mi:Nat}{l:List Ent}{bs1:List Nat}{c1:Nat}{G:List Grp}{bs2:List Nat}{c2:Nat}(D:CellsAt a p ma mi l bs1 c1 G bs2 c2)(hi:Inv l G){id:Int}{pos:Vc}(X:∀e∈l,e.1≠id):
  ∃B c,Gl false (.s (.slice Θ 0 0)) ((G.find? (Hz (z7 pos))).map Bf)=B/\Ints a B c/\c.Pairwise (·<·)/\(c=[]\/∃g∈G,c=g.ns)/\(∀b d,B=.s (.slice (Δ ⟨b,0,Θ⟩) (Γ c) d)->a.obj b≠Θ)∧
   ∀C k b d L,Fresh a C->(Fresh (a.sO C k) b\/∃c0,B=.s (.slice (Δ ⟨b,0,Θ⟩) (Γ c) c0))->
    (c.take (c.countP (·<id))++id::c.drop (c.countP (·<id))).length<=d->d<=(c.take (c.countP (·<id))++id::c.drop (c.countP (·<id))).length+Γ L->d<=9223372036854775807->
    ((a.sO C k).sO b (.cells ((c.take (c.countP (·<id))++id::c.drop (c.countP (·<id))).map aI++L))).obj mi=Δ (.map (G.map Bf) bs2 c2)∧
    ((a.sO C k).sO b (.cells ((c.take (c.countP (·<id))++id::c.drop (c.countP (·<id))).map aI++L))).obj p=Δ (.cells [.s (.map (Δ ma)),.s (.map (Δ mi))])∧
    ∃V A I,Aa (G.map Bf) bs2 c2 (qG (z7 pos).1 (z7 pos).2) (.agg [int (z7 pos).1,int (z7 pos).2]) (.s (.slice (Δ ⟨b,0,Θ⟩) (c.take (c.countP (·<id))++id::c.drop (c.countP (·<id))).length d))=.map (V.map Bf) A I∧
     CellsAt (((a.sO C k).sO b (.cells ((c.take (c.countP (·<id))++id::c.drop (c.countP (·<id))).map aI++L))).sO mi (.map (V.map Bf) A I)) p ma mi l bs1 c1 V A I/\Inv (l++[(id,pos)]) V:=by
 obtain⟨w1,w2⟩:=yni (e:=(id,pos)) hi X;cases hf:G.find? (Hz (z7 pos))with
 |none=>
  refine⟨_,[],rfl,.inl ⟨rfl,rfl⟩,List.Pairwise.nil,.inl rfl,λb d h=>?_,λC k b d L E t T h2 h3=>?_⟩
  .simp[Gl]at h
  have t:Fresh (a.sO C k) b:=by grind[Gl]
  simp only[List.countP_nil,List.take_nil,List.drop_nil,Fde]at*;have a1:=D.fresh k E;have a2:=a1.fresh (.cells ([id].map aI++L)) t;refine⟨a2.hi,a2.hp,G++[⟨(z7 pos).1,(z7 pos).2,[id],b,d,L⟩],bs2++[c2],c2+1,?_,?_,?_⟩
  .unfold Aa;have:G.findIdx? (Hz (z7 pos))=Θ:=by grind
   rw[cd,this,Fa8];rfl
  .refine a2.setI _ _ (λg n=>?_) ?_
   .rcases Faw.1 n with n|n
    .exact a2.hg g n
    .simp at n;subst n;exact⟨zd _ _ _,⟨T,h2,h3⟩,t.ne_obj a1.hp⟩
   .rw[Fa8,Fdh];refine⟨D.nd,φ,λx hx y hy=>?_⟩;obtain⟨g,n,rfl⟩:=Fag.1 hx;simp at hy;subst hy;exact Ne.symm (t.ne_obj (a1.hg g n).1)
  .refine w2 (λg n Q=>?_) _ rfl rfl;grind[atKey_iff]
 |some g=>
  obtain⟨n,Q⟩:=bz hf;have Q:=atKey_iff.1 Q;obtain⟨j,ι,w⟩:=og hf;obtain⟨k1,k2,k3⟩:=D.hg g n;obtain⟨s1,s2⟩:=hi.s g n;have hnin:id∉g.ns:=λh=>by obtain⟨e,o,T,_⟩:=(hi.m1 g n id).1 h;grind
  obtain⟨M,S⟩:=ynq s1 hnin;refine⟨_,g.ns,rfl,.inr ⟨g.b,g.cap,g.L,rfl,k1,k2⟩,s1,.inr ⟨g,n,rfl⟩,λb d h=>?_,λC k b d L E t T h2 h3=>?_⟩
  .grind[Gl,Bf]
  generalize g.ns.take (g.ns.countP (·<id))++id::g.ns.drop (g.ns.countP (·<id))=ins at*;have a1:=D.fresh k E;have hbne:b≠p/\b≠ma/\b≠mi/\∀z∈G,z≠g->z.b≠b:=by
   rcases t with t|⟨c0,t⟩
   .exact⟨t.ne_obj a1.hp,t.ne_obj a1.ha,t.ne_obj a1.hi,λz H _=>Ne.symm (t.ne_obj (a1.hg z H).1)⟩
   .have:g.b=b:=by simp[Gl,Bf]at t;exact t.1
    subst this;obtain⟨W,K,R⟩:=D.g_ne n;refine⟨R,W,K,λz H ε o=>ε ?_⟩;obtain⟨i,ν⟩:=Fa6.1 H;have:=Gj (f:=λg:Grp=>g.b) D.nd ν w o;grind
  obtain⟨R,W,K,n4⟩:=hbne;have mid:=a1.mid (.cells (ins.map aI++L)) R W K
  let U:Grp:=⟨g.x,g.y,ins,b,d,L⟩
  have hmem:∀z,z∈G.set j U->z=U\/(z∈G/\z≠g):=λz h=>by
   rcases(Gk (f:=Grp.key) hi.n2 w).1 h with h|⟨h,h'⟩
   .grind
   grind
  refine⟨mid.hi,mid.hp,G.set j U,bs2,c2,?_,?_,w1 j g U w Q rfl M S⟩
  .unfold Aa;rw[cd,ι,List.map_set];simp only
   congr 2
   show _=(AV.agg [int g.x,int g.y],_)
   rw[<-Q];rfl
  .refine mid.setI _ _ (λz τ=>?_) ?_
   .rcases hmem z τ with rfl|⟨q1,q2⟩
    .exact .inr ⟨zd _ _ _,⟨T,h2,h3⟩,R⟩
    grind
   .rw[List.map_set];have P:=(Fa1.1 w).1;unfold List.Nodup;rw[Fcq];intro M S ο u η o;replace o:=congrArg Δ o;rw[<-Fac,<-Fac]at o;rw[Fei,Fei]at o;simp only[Fas,Faf]at u o;have nd:=D.nd;by_cases e1:j=M
    .subst e1;rw[if_pos rfl,if_pos P,if_neg Z,Fau,Fac u]at o;simp at o;refine n4 G[S] (Faa u) (λe=>?_) o.symm;have:=Gj (f:=Grp.key) hi.n2 (Fac u) w (by rw[e]);omega
    .by_cases e2:j=S
     .subst e2;have v:M<Γ G:=Z;rw[if_neg e1,if_pos rfl,if_pos P,Fau,Fac v]at o;simp at o;refine n4 G[M] (Faa v) (λe=>?_) o;have:=Gj (f:=Grp.key) hi.n2 (Fac v) w (by rw[e]);omega
     .have v:M<Γ G:=Z;rw[if_neg e1,if_neg e2,Fau,Fau,Fac v,Fac u]at o;simp at o;have:=Gj (f:=λg:Grp=>g.b) nd (Fac v) (Fac u) o;omega
def Ints.fresh{c:Store}{v:AV}{e:List Int}(h:Ints c v e){b:Nat}(x:AObj)(g:Fresh c b):Ints (c.sO b x) v e:=by
 rcases h with h|⟨k,d,L,j,f,i⟩
 .exact .inl h
 .exact .inr ⟨k,d,L,j,by rw[zi (Ne.symm (g.ne_obj f))];exact f,i⟩
def dw{P:Program}{c:Cfg}{e:TypeId}{ie:TI}(f:c.I e=Δ ie)(l:ie.size=1)(A:ie.bytes=8){j:Store}{v:AV}{ns:List Int}(w:Ints j v ns)(x:Int)(o:Γ ns<=1000000000000){K:Ja}
  (h:∀b a L,(Fresh j b\/∃D,v=.s (.slice (Δ ⟨b,0,Θ⟩) (Γ ns) D))->(ns++[x]).length<=a->a<=(ns++[x]).length+Γ L->a<=9223372036854775807->
   K (.s (.slice (Δ ⟨b,0,Θ⟩) (ns++[x]).length a)) (j.sO b (.cells ((ns++[x]).map aI++L)))):appendK P c j e (.av v) (.av (.lst 1 [[aI x]] Θ)) K:=by
 have hrows:vw ie.size (.av (.lst 1 [[aI x]] Θ))=Δ [[aI x]]:=by simp[vw,l]
 refine⟨.inr ⟨v,_,rfl,rfl,?_⟩⟩;have z:(ns++[x]).length=Γ ns+1:=φ;rcases w with⟨rfl,rfl⟩|⟨b,a,L,rfl,y,C,E,B⟩
 .refine zh8 f hrows ⟨δ,φ⟩ φ (λu d p k g=>?_);grind
 .refine Sk f (cap:=a) y δ C hrows ⟨δ,δ⟩ (λk=>?_) (λk u d p i g=>?_)
  .have k:Γ ns+1<=a:=k;have t:zu (ns.map aI++L) (Γ ns*ie.size) ([[aI x]]:List (List AV)).flatten=(ns++[x]).map aI++L.drop 1:=by simp_all[Fh]
   have G:ns.map (λn=>AV.s (.int .i64 n))++L=ns.map aI++L:=rfl;have:=h b a (L.drop 1) (.inr ⟨a,rfl⟩) Z δ B;grind
  .have i:Γ ns+1<=d:=i;have t:(ns.map aI++L).take (Γ ns*ie.size)++([[aI x]]:List (List AV)).flatten++List.replicate ((d-(Γ ns+1))*ie.size) .any=(ns++[x]).map aI++List.replicate (d-(Γ ns+1)) .any:=by simp_all
   have:=h u d (List.replicate (d-(Γ ns+1)) .any) (.inl p) Z δ g;rw[z,<-t]at this;exact this
structure NearAt(N:Store)(b3 b4 b5 b6 p:Nat)(q:Vc)(r:Int)(v:AV)(acc:List Int):Prop where
 h3:N.obj b3=Δ (.cells [.s (.pointer (Δ ⟨p,0,Θ⟩))])
 h4:N.obj b4=Δ (.cells (zr q))
 h5:N.obj b5=Δ (.cells [int r])
 h6:N.obj b6=Δ (.cells [v])
 hv:Ints N v acc
 n36:b3≠b6
 n46:b4≠b6
 n56:b5≠b6
 nv:∀b n cap,v=.s (.slice (Δ ⟨b,0,Θ⟩) n cap)->b≠b3/\b≠b4/\b≠b5/\b≠b6
def NearAt.app{N:Store}{o l k g p:Nat}{q:Vc}{r:Int}{v:AV}{a:List Int}(h:NearAt N o l k g p q r v a){b d:Nat}{L:List AV}{x:Int}
  (f:Fresh N b\/∃t,v=.s (.slice (Δ ⟨b,0,Θ⟩) (Γ a) t)) (B:(a++[x]).length<=d) (A:d<=(a++[x]).length+Γ L) (j:d<=9223372036854775807):
  NearAt ((N.sO b (.cells ((a++[x]).map aI++L))).sO g (.cells [.s (.slice (Δ ⟨b,0,Θ⟩) (a++[x]).length d)])) o l k g p q r (.s (.slice (Δ ⟨b,0,Θ⟩) (a++[x]).length d)) (a++[x]):=by
 have i:b≠o/\b≠l/\b≠k/\b≠g:=by
  rcases f with f|⟨t,f⟩
  .exact⟨f.ne_obj h.h3,f.ne_obj h.h4,f.ne_obj h.h5,f.ne_obj h.h6⟩
  .exact h.nv b _ _ f
 obtain⟨z,y,w,u⟩:=i;refine⟨?_,?_,?_,zd _ _ _,.inr ⟨b,d,L,rfl,?_,B,A,j⟩,h.n36,h.n46,h.n56,λC n c e=>?_⟩
 .rw[zi h.n36,zi (Ne.symm z)];exact h.h3
 .rw[zi h.n46,zi (Ne.symm y)];exact h.h4
 .rw[zi h.n56,zi (Ne.symm w)];exact h.h5
 .rw[zi u,zd];rfl
 grind
theorem Ints.un{a g:Store}{v:AV}{c:List Int}(h:Ints g v c):Ints (a.un g) v c:=by
 rcases h with h|⟨i,b,L,f,e,d⟩
 .exact .inl h
 .exact .inr ⟨i,b,L,f,zh e,d⟩
section
variable {P:Program} {c:Cfg} {w:World} {st:Store} {Oth M:BB}
structure Stamps(es:List (AV×AV))(bs:List Nat)(clk:Nat):Prop where
  len:Γ es=Γ bs
  lt:∀t∈bs,t<clk
  inc:bs.Pairwise (·<·)
def yva{o:Oper}{a:List AV}{m b:Nat}{d:List (AV×AV)}{e:List Nat}(g:st.obj m=Δ (.map d e b)){R:Ja}(h:Stamps d e b->AEff P c o a st R):AEff P c o a st R:=by refine⟨λOth M w ρ i sto f=>?_⟩;obtain⟨⟨l,v,u,t,p,k,j⟩,n⟩:=sto.obj m _ g;exact(h ⟨δ,k,j⟩).out Oth M w ρ i sto f
def yqr{t:Nat}{me:MapEntry}:∀{L:List MapEntry} {i:Nat},(L.map (·.born)).Pairwise (·<·)->L[i]?=Δ me->me.born=t->L.find? (λe=>e.born==t)=Δ me:=by
  intro L;induction L with
  |nil=>simp
  | cons a L ih=>
    grind[List.pairwise_cons]
def yvg{o:Oper}{x:Operand}(y:o.op=.entry x){b m g a:Nat}{z:List (AV×AV)}{A d:List Nat}{i t:Nat}{e:AV×AV}(E:st.obj b=Δ (.iter m a (d++[t]) g))(B:st.obj m=Δ (.map z A g))
    (C:z[i]?=Δ e) (D:A[i]?=Δ t) {R:Ja} (h:R (.tup [e.1,e.2]) st):AEff P c o [.s (.pointer (Δ ⟨b,0,Θ⟩))] st R:=by
  refine⟨λOth M w ρ L sto hr=>?_⟩;rw[y]at hr;have hr:Reads w (λb o=>M b o\/Oth b o) [.s (.pointer (Δ ⟨b,0,Θ⟩))] [ρ x]:=θ1;obtain⟨u,j,l⟩:=Lq hr;simp only[Fck,and_true]at j;rw[<-j]at l;have l:=VRel.eq_s l;obtain⟨⟨f,I,U,H,T,S,Q⟩,K⟩:=sto.obj m _ B;obtain⟨hit,G⟩:=sto.obj b _ E;have hit:w.heap[b]?=Δ (.mapIter (Δ m) a (d++[t]).toArray g):=hit;have p:(getObj b).run P w=.ok (.mapIter (Δ m) a (d++[t]).toArray g) w:=by simp[getObj,Sem.run,hit]
  have n:i<f.size:=δ;have k:f[i]?=Δ f[i]:=Fby n;have v:f[i].born=t:=δ;have hfind:f.find? (λe=>e.born==t)=Δ f[i]:=by rw[<-Array.find?_toList];exact yqr δ (by rw[Fdg];exact k) v
  have hback:(d++[t]).toArray.back?=Δ t:=φ;have hrun:(execOp ρ o).run P w=.ok (.value (.tuple #[f[i].key,f[i].val])) w:=by simp only[execOp,y,Instr.entry,l,Sem.run_bind,p,Result.andThen_ok,hback,D2 I,bne_self_eq_false,Fan,if_false,hfind,Sem.run_pure]
  rw[hrun];have hrel:=H i e f[i] C k;exact⟨_,st,M,h,Ah (Reads.cons hrel.1 (Reads.cons hrel.2 Reads.nil)),sto,Chg.refl _ _⟩
end
section
variable {r:Int} {g:Store}
def zd2{x:Int}(b:0<=x)(d:0<r)(h:x*x<r*r):x<r:=by
 by_cases c:x<r
 .exact c
 .have a:r<=x:=Z;have e:r*r<=x*x:=Fa9 a a Z b;omega
def zgk{a b:Int}(f:yr a)(e:yr b)(d:0<r)(c:r<=9223372036854775807)(h:asz (qh a b)<r):qh a r<=nrm b/\nrm b<=qs a r:=by grind[Ba,Gi,nrm,qh,asz,qs,wo]
def ylr{q p:Vc}(e:q.ok)(f:p.ok)(b:0<r)(a:r<=9223372036854775807)(h:near q p r=true):
  ((z7 (qh q.1 r,qh q.2 r)).1<=(z7 p).1/\(z7 p).1<=(z7 (qs q.1 r,qs q.2 r)).1)/\((z7 (qh q.1 r,qh q.2 r)).2<=(z7 p).2/\(z7 p).2<=(z7 (qs q.1 r,qs q.2 r)).2):=by
 unfold near at h;have h:=(of_decide_eq_true h).2;have d:=K1 (Kr q.1 p.1);have c:=K1 (Kr q.2 p.2);have j:0<=asz (qh q.1 p.1)*asz (qh q.1 p.1):=Fax d.1 d.1;have i:0<=asz (qh q.2 p.2)*asz (qh q.2 p.2):=Fax c.1 c.1;have k:asz (qh q.1 p.1)*asz (qh q.1 p.1)+asz (qh q.2 p.2)*asz (qh q.2 p.2)<r*r:=h;have n:=zgk e.1 f.1 b a (zd2 d.1 b Z);have l:=zgk e.2 f.2 b a (zd2 c.1 b Z);grind[Gi,n7,z7]
def yit{q:Vc}(b:q.ok)(f:0<r)(c:r<=9223372036854775807):
  (z7 (qh q.1 r,qh q.2 r)).1<=(z7 (qs q.1 r,qs q.2 r)).1/\(z7 (qh q.1 r,qh q.2 r)).2<=(z7 (qs q.1 r,qs q.2 r)).2:=by
 have key:∀a:Int,yr a->qh a r<=qs a r:=by grind[qh,qs,wo,nrm]
 have e:=key q.1 b.1;have d:=key q.2 b.2;grind[Gi,n7,z7]
def zhc{p:Vc}(h:p.ok):(-70368744177664<=(z7 p).1/\(z7 p).1<=70368744177664)/\(-70368744177664<=(z7 p).2/\(z7 p).2<=70368744177664):=by have b:=Ba h.1;have a:=Ba h.2;unfold z7;omega
def NearIn(l:List Ent)(q:Vc)(r:Int)(D:Ent->Prop)(a:List Int):Prop:=a.Nodup/\∀id,id∈a↔∃e∈l,e.1=id/\near q e.2 r=true/\D e
def NearIn.congr{l:List Ent}{q:Vc}{D b:Ent->Prop}{a:List Int}(h:NearIn l q r D a)(c:∀e∈l,near q e.2 r=true->(D e↔b e)):NearIn l q r b a:=by refine⟨h.1,λid=>?_⟩;rw[h.2 id];grind
def NearIn.len{l:List Ent}{q:Vc}{D:Ent->Prop}{a:List Int}(h:NearIn l q r D a):Γ a<=Γ l:=by have:=Fbs (l₂:=l.map (·.1)) h.1 (λid b=>by obtain⟨e,d,c,_⟩:=(h.2 id).1 b;grind);grind
def NearIn.step{l:List Ent}(t:(l.map (·.1)).Nodup){q:Vc}{D:Ent->Prop}{c:List Int}(h:NearIn l q r D c){e:Ent}(u:e∈l)(v:¬D e):NearIn l q r (λd=>D d\/d=e) (if near q e.2 r then c++[e.1]else c):=by
 cases k:near q e.2 r with
 |false=>
  refine h.congr λd o n=>⟨.inl,λi=>i.elim id λi=>?_⟩
  grind
 |true=>
  refine⟨?_,λid=>?_⟩
  .rw[if_pos rfl,Fdh];refine⟨h.1,φ,λa p b j=>?_⟩;simp at j;subst j;intro f;subst f;obtain⟨d,z,y,_,w⟩:=(h.2 _).1 p;grind[Rx]
  .rw[if_pos rfl,Faw,h.2 id];grind
def yon{l:List Ent}{G:List Grp}(h:Inv l G):Γ G<=Γ l:=by
 have z:(G.map λg=>g.ns.headD 0).Nodup:=by
  unfold List.Nodup;rw[List.pairwise_map];have b:=h.n2;unfold List.Nodup at b;rw[List.pairwise_map]at b;have key:∀g∈G,g.ns.headD 0∈g.ns:=λg c=>by
   have:=(h.s g c).2;cases d:g.ns with
   |nil=>grind
   |cons a t=>simp
  rw[Fcq]at b⊢;intro i j o f k B;obtain⟨D,p,y,w⟩:=(h.m1 G[i] (Faa o) _).1 (key _ (Faa o));obtain⟨C,v,A,u⟩:=(h.m1 G[j] (Faa f) _).1 (key _ (Faa f));refine b i j o f k ?_;rw[<-w,<-u,Rx h.n1 v p Z]
 have:=Fbs (l₂:=l.map (·.1)) z (λid n=>by
  obtain⟨g,c,rfl⟩:=Fag.1 n;have:=(h.s g c).2;cases d:g.ns with
  |nil=>grind
  |cons a t=>
   obtain⟨e,p,y,_⟩:=(h.m1 g c a).1 δ;grind)
 grind
def yl5{xs:List Int}(h:xs.Nodup):(xs.mergeSort λx y=>decide (x<=y)).Pairwise (·<·)/\∀n,n∈(xs.mergeSort λx y=>decide (x<=y))↔n∈xs:=by have e:=List.pairwise_mergeSort (le:=λx y:Int=>decide (x<=y)) (λa b c e d=>δ) (λa b=>δ) xs;have d:(xs.mergeSort λx y=>decide (x<=y)).Nodup:=(List.mergeSort_perm xs _).nodup_iff.2 h;refine⟨?_,λn=>List.mem_mergeSort⟩;have f:=e.and d;grind
def Sq(l:List Ent)(q:Vc)(r:Int)(a:List Int):Prop:=a.Pairwise (·<·)/\∀id,id∈a↔∃e∈l,e.1=id/\near q e.2 r=true
theorem Bx{a:Store}{b:Nat}{x:AObj}(h:¬g.has b):(a.un g).sO b x=(a.sO b x).un g:=by obtain⟨d,c⟩:=jt h;unfold Store.un Store.sO;grind[qp]
def Cl{a:Store}{b:Nat}{x:AObj}(h:zl a g)(e:¬g.has b):zl (a.sO b x) g:=by
 intro i c d;rcases has_setObj_iff.1 c with rfl|c
 .grind
 .exact h i c d
def yr3{a:Store}{b:Nat}{x y:AObj}(h:zl (a.sO b x) g):zl (a.sO b y) g/\¬g.has b:=by
 have e:¬g.has b:=h b (has_setObj_iff.2 (.inl rfl));refine⟨λi c d=>?_,e⟩;rcases has_setObj_iff.1 c with rfl|c
 .grind
 .exact h i (has_setObj_iff.2 (.inr c)) d
def zfo{l:List Ent}(a:(l.map (·.1)).Nodup){e:Ent}(c:e∈l):l.find? (Bv e.1)=Δ e:=by
 cases b:l.find? (Bv e.1)with
 |none=>
  grind[Bv]
 |some d=>
  grind[Bv,Rx]
end
def Dp:Option Nat->Int|some i=>(i:Int)|none=>-1
theorem O8(a b c:Store):(a.un b).un c=a.un (b.un c):=by unfold Store.un;grind
theorem jx(a:Store):Store.empty.un a=a:=by
 unfold Store.un Store.empty
 congr<;>funext i
 .grind
 grind
def disj_un{a b c:Store}:zl (a.un b) c↔zl a c/\zl b c:=
 ⟨λh=>⟨λi d=>h i (un_has.2 (.inl d)),λi d=>h i (un_has.2 (.inr d))⟩,λ⟨d,e⟩ i h=>(un_has.1 h).elim (d i) (e i)⟩
def zj6{a g:Store}:(a.un g).Le g:=⟨λb y h=>⟨y,zh h,AObj.le_refl y⟩,λb x h=>H2 h⟩
def AWp.leS{P:Program}{c:Cfg}{e:Code}{Q:Exit->Fr->Store->Prop}{A:Fr}{l d:Store}(f:l.Le d)(h:AWp P c e Q A d):AWp P c e Q A l:=by
 refine⟨λj M a w ⟨β,s⟩=>h.out j M a w ⟨β,{tsz:=s.tsz,dfr:=s.dfr,tm:=s.tm,bx:=s.bx,inj:=s.inj,sep:=λk b n i=>s.sep k b n ?_,sto:=s.sto.weakenLe f}⟩⟩;rcases i with i|i
 .cases g:d.obj b with
  |none=>grind
  |some y=>
   obtain⟨x,o,_⟩:=f.obj b y g;grind
 .cases g:d.tok b with
  |none=>grind
  |some y=>exact .inr (by rw[f.tok b y g];simp)
theorem qq{c:Store}{x:AV}{a M:BB}{w:World}{v:Value}(h:VRel w (λb o=>M b o\/a b o) x v):VRel w (λb o=>(M b o\/a b o)/\c.obj b=Θ) x v:=
 h.mono λ_ _ h=>h.1
structure Bld where
 id:Int
 owner:Int
 x:Int
 y:Int
 w:Int
 h:Int
 deriving DecidableEq
structure Unt where
 id:Int
 owner:Int
 kind:Int
 pos:Vc
 goal:Int
 next:Int
 stuck:Int
 inn:Int
 state:Int
 deriving DecidableEq
structure Wld where
 tick:Int
 players:Int
 next:Int
 G:Gnd
 B:List Bld
 U:List Unt
 deriving DecidableEq
def zk(b:Bld):List AV:=[int b.id,int b.owner,int b.x,int b.y,int b.w,int b.h]
def zf(u:Unt):List AV:=[int u.id,int u.owner,int u.kind,int u.pos.1,int u.pos.2,int u.goal,int u.next,int u.stuck,int u.inn,int u.state]
def zo(w:Wld):List AV:=[int w.tick,int w.players,int w.next,int w.G.W,int w.G.H,yn w.G.T,lst 6 zk w.B,lst 10 zf w.U]
def Wld.fits(w:Wld):Prop:=w.G.fits/\Γ w.B<=1000000000000/\Γ w.U<=1000000000000
def zw(k:Int):Int:=if k=0 then 24576 else if k=2 then 81920 else 32768
def xa(k:Int):Int:=if k=0 then 16384 else if k=1 then 24576 else if k=2 then 8192 else 16384
def yk(k:Int):Int:=if k=0 then 0 else if k=1 then 1 else if k=2 then 0 else 2
def qn(k:Int):Int:=if k=2 then 1 else 0
def j6(k:Int):Int:=if k=0 then 0 else if k=1 then 0 else if k=2 then 0 else 4
def D6(k:Int):List AV:=[int (zw k),int (xa k),int (yk k),int (qn k),int (j6 k)]
def vd(k:Int):Prop:=0<=k/\k<=3
def Bo(c:Int)(t:Nat):Int:=((if c=0 then [2,1,3,5,0,0]else if c=1 then [2,1,6,0,0,0]else [2,1,0,3,2,0]):List Int).getD t 0
def yh(b:Bld):Prop:=(1<=b.id/\b.id<=1099511627776)/\(1<=b.owner/\b.owner<=8)/\(1<=b.w/\b.w<=4)/\(1<=b.h/\b.h<=4)
def onP(g:Gnd)(b:Bld):Prop:=(0<=b.x/\b.x+b.w<=g.W)/\(0<=b.y/\b.y+b.h<=g.H)
def ve(g:Gnd)(b:Bld)(t:Nat):Prop:=(b.x<=(t:Int)%g.W/\(t:Int)%g.W<b.x+b.w)/\(b.y<=(t:Int)/g.W/\(t:Int)/g.W<b.y+b.h)
instance(g:Gnd)(b:Bld)(t:Nat):Decidable (ve g b t):=inferInstanceAs (Decidable (_/\_))
def Fy(g:Gnd)(b:Bld):Prop:=∀t,t<Γ g.T->ve g b t->(g.T.getD t 0).toNat<=1
def vy(a b:Bld):Prop:=(a.x<b.x+b.w/\b.x<a.x+a.w)/\(a.y<b.y+b.h/\b.y<a.y+a.h)
def Pv(l:List Bld):Prop:=∀j,(h:j<Γ l)->0<j->(l[j-1]'Z).id<l[j].id
def yw(l:List Unt):Prop:=∀j,(h:j<Γ l)->0<j->(l[j-1]'Z).id<l[j].id
def dz(l:List Bld):Prop:=∀j,(h:j<Γ l)->∀i,(a:i<j)->¬vy l[j] (l[i]'Z)
def Iw(g:Gnd)(l:List Bld):Prop:=Γ l<=256/\Pv l/\(∀b∈l,yh b/\onP g b/\Fy g b)/\dz l
def xn(g:Gnd)(l:List Bld)(t:Nat):Bool:=l.any λb=>decide (ve g b t)
def yp(g:Gnd)(l:List Bld)(c:Int)(t:Nat):Bool:= !xn g l t&&decide (0<Bo c (g.T.getD t 0).toNat)
def tx(g:Gnd)(t:Nat):Int:=(t:Int)%g.W*65536
def ty(g:Gnd)(t:Nat):Int:=(t:Int)/g.W*65536
def off(x a:Int):Int:=if x<a then a-x else if x>a+65536 then x-(a+65536)else 0
def jg(g:Gnd)(t:Nat)(p:Vc)(r:Int):Prop:=off p.1 (tx g t)*off p.1 (tx g t)+off p.2 (ty g t)*off p.2 (ty g t)<r*r
instance(g:Gnd)(t:Nat)(p:Vc)(r:Int):Decidable (jg g t p r):=inferInstanceAs (Decidable (_<_))
def Cy(g:Gnd)(l:List Bld)(c:Int)(p:Vc)(r:Int):Prop:=
 ((r<=p.1/\p.1+r<=g.W*65536)/\(r<=p.2/\p.2+r<=g.H*65536))/\∀t,t<Γ g.T->yp g l c t=false->¬jg g t p r
def wt(p:Vc)(r:Int)(q:Vc)(s:Int):Bool:= !near p q (r+s)
def qi(w:Wld)(id k:Int)(p:Vc):Prop:=
 Cy w.G w.B (yk k) p (zw k)/\∀u∈w.U,u.inn=0->u.id≠id->wt p (zw k) u.pos (zw u.kind)=true
def Ak(g:Gnd)(t:Int):Prop:=t=-1\/(0<=t/\t<g.W*g.H)
def k9(w:Wld)(u:Unt):Prop:=
 ((1<=u.id/\u.id<w.next)/\(1<=u.owner/\u.owner<=w.players)/\vd u.kind)/\(Ak w.G u.goal/\Ak w.G u.next/\(0<=u.stuck/\u.stuck<8))∧
 ((0<=u.state/\u.state<=4)/\(u.state=1↔u.goal≠-1))/\(u.goal=-1->u.next=-1/\u.stuck=0)
def Kp(w:Wld):Prop:=
 ((0<=w.tick/\w.tick<=1099511627776)/\(1<=w.players/\w.players<=8)/\(1<=w.next/\w.next<=1099511627776))∧
 (zt w.G/\Iw w.G w.B/\Γ w.U<=4096)/\∀b∈w.B,b.owner<=w.players/\b.id<w.next
def Lg(w:Wld):Prop:=yw w.U/\∀u∈w.U,k9 w u/\∀b∈w.B,b.id≠u.id
def z6(l:List Unt)(id:Int):List Int:=(l.filter λu=>u.inn==id).map (·.id)
def Ce(w:Wld)(u:Unt):Prop:=
 ∃x∈w.U,x.id=u.inn/\(x.inn=0/\x.owner=u.owner)/\((z6 w.U u.inn).length:Int)<=j6 x.kind/\j6 u.kind=0/\u.pos=(0,0)/\u.goal=-1/\u.state=0
def yd(w:Wld):Prop:=(Kp w/\Lg w)/\(∀u∈w.U,u.inn=0->qi w u.id u.kind u.pos)/\∀u∈w.U,u.inn≠0->Ce w u
theorem zhw(a b:Int):(a==b)=decide (a=b):=ξ
def qg{g:Gnd}(h:zt g):1<=g.W*g.H/\g.W*g.H<=16384/\(Γ g.T:Int)=g.W*g.H:=by obtain⟨⟨d,c⟩,⟨b,a⟩,e,_⟩:=h;have:1*1<=g.W*g.H:=Fa9 d b ψ Z;have:g.W*g.H<=128*128:=Fa9 c a Z ψ;omega
section
variable {x r w lo a:Int} {g:Gnd} {t:Nat}
theorem sb{a b:Vc}(i:-2305843009213693952<=a.1/\a.1<=2305843009213693952)(h:-2305843009213693952<=a.2/\a.2<=2305843009213693952)(f:-2305843009213693952<=b.1/\b.1<=2305843009213693952)(e:-2305843009213693952<=b.2/\b.2<=2305843009213693952):
  q9 a b=(a.1-b.1,a.2-b.2):=by
 have n:∀x:Int,-4611686018427387904<=x/\x<=4611686018427387904->nrm x=x:=λx d=>by unfold nrm;omega
 have c:∀x:Int,-4611686018427387904<=x/\x<=4611686018427387904->wo x=x:=λx d=>by unfold wo;omega
 grind[q9,qh,qs]
theorem p8(h:-4611686018427387904<=x/\x<=4611686018427387904):asz x*asz x=x*x:=by
 have n:nrm x=x:=by unfold nrm;omega
 grind[asz]
theorem lx{a b:Vc}(f:-2305843009213693952<=a.1/\a.1<=2305843009213693952)(e:-2305843009213693952<=a.2/\a.2<=2305843009213693952)(d:-2305843009213693952<=b.1/\b.1<=2305843009213693952)(c:-2305843009213693952<=b.2/\b.2<=2305843009213693952)(h:0<r):
  near a b r=decide ((a.1-b.1)*(a.1-b.1)+(a.2-b.2)*(a.2-b.2)<r*r):=by
 unfold near sqr;rw[sb f e d c,p8 Z,p8 Z];grind
def Dc(b:zt g){t:Nat}(c:(t:Int)<g.W*g.H):(0<=(t:Int)%g.W/\(t:Int)%g.W<g.W)/\(0<=(t:Int)/g.W/\(t:Int)/g.W<g.H):=by obtain⟨⟨l,k⟩,⟨j,i⟩,_⟩:=b;have h:=Fcl (t:Int) (show g.W≠0 by omega);have f:=Fc2 (t:Int) (show 0<g.W by omega);have e:0<=(t:Int)/g.W:=Fb3 Z Z;have d:(t:Int)/g.W<g.H:=Fd2 Z δ;omega
def Gb(b:1<=w):(t:Int).tdiv w=(t:Int)/w:=Fat Z
def Ga(b:1<=w):(t:Int).tmod w=(t:Int)%w:=Fcn Z
def Mx(b:zt g){t:Nat}(c:(t:Int)<g.W*g.H):(0<=tx g t/\tx g t<=8323072)/\(0<=ty g t/\ty g t<=8323072):=by have:=Dc b c;obtain⟨⟨h,f⟩,⟨e,d⟩,_⟩:=b;unfold tx ty;omega
def Hy(x lo:Int):Int:=min2 (max2 x lo) (lo+65536)
theorem min2_eq(a b:Int):min2 a b=min a b:=by grind[min2]
theorem max2_eq(a b:Int):max2 a b=max a b:=by grind[max2]
theorem zg5(x lo:Int):Hy x lo=min (max x lo) (lo+65536):=by unfold Hy;rw[min2_eq,max2_eq]
theorem zg4(x lo:Int):(x-Hy x lo)*(x-Hy x lo)=off x lo*off x lo:=by rw[zg5];unfold off;grind
def dh(h:0<=lo/\lo<=8323072):0<=Hy x lo/\Hy x lo<=8388608:=by rw[zg5];omega
def zc3(h:0<=lo/\lo<=8323072)(b:-1099511627776<=x/\x<=1099511627776):0<=off x lo/\off x lo<=1099519950848:=by grind[off]
def ylt(f:zt g){t:Nat}(c:(t:Int)<g.W*g.H){p:Vc}(e:qv p.1 p.2)(d:0<r):
  near p (Hy p.1 (tx g t),Hy p.2 (ty g t)) r=decide (jg g t p r):=by
 have b:=Mx f c;have k:=dh (x:=p.1) b.1;have j:=dh (x:=p.2) b.2;obtain⟨i,h⟩:=e;rw[lx Z Z Z Z d];dsimp only;rw[zg4,zg4];rfl
theorem Pj(b:0<=a)(c:0<r)(h:a*a<r*r):a<r:=by apply Decidable.byContradiction;intro d;have:r*r<=a*a:=Fa9 Z Z Z b;omega
def yl7{c b:Int}(f:0<=c)(e:0<=b)(d:0<r):(c<r/\b<r/\c*c+b*b<r*r)↔c*c+b*b<r*r:=by grind[Pj,Int.mul_nonneg]
def gj(h:0<=a/\a<=262144):0<=a*a/\a*a<=68719476736:=
 ⟨Fax h.1 h.1,by have:a*a<=262144*262144:=Fa9 h.2 h.2 h.1 ψ;omega⟩
end
section
variable {b:Nat} {P:Program} {c:Cfg} {A:Fr}
def Store.dO(a:Store)(b:Nat):Store:={a with obj:=λi=>bif Nat.beq i b then Θ else a.obj i}
theorem Ot{d:Store}{a:Nat}{x:AObj}(h:(d.dO b).obj a=Δ x):a≠b/\d.obj a=Δ x:=by have h:(bif Nat.beq a b then Θ else d.obj a)=Δ x:=h;grind[Nat.beq_refl]
theorem AWp.freeze{E:Code}{Q:Exit->Fr->Store->Prop}{G:Store}{d n cap k:Nat}{rows:List (List AV)}{pad:List AV}
    (hA:A.t d=.av (.s (.slice (Δ ⟨b,0,Θ⟩) n cap))) (L:G.obj b=Δ (.cells (rows.flatten++pad))) (ht:G.tok b=Θ) (hn:Γ rows=n) (R:n<=cap)
    (hk:∀row∈rows,Γ row=k) (T:∀row∈rows,∀x∈row,∃v,x=AV.s v/\xq v=true)
    (h:AWp P c E Q (A.put d (.av (.lst k rows Θ))) (G.dO b)):AWp P c E Q A G:=by
  refine⟨λD M a w ⟨β,sim⟩=>?_⟩;have hs:∀f o,((M f o/\f≠b)\/D f o)->(M f o\/D f o):=λ_ _ h=>h.imp (·.1) id;have sim':SimB c.N D β (A.put d (.av (.lst k rows Θ))) (G.dO b) (λf o=>M f o/\f≠b) a w:=by
    refine{tsz:=sim.tsz,dfr:=sim.dfr.sub λ_ _ h=>h.1,tm:=λi=>?_,bx:=λj l g=>⟨(sim.bx j l g).1.mono hs,λo=>⟨(sim.bx j l g).2 o,?_⟩⟩,inj:=sim.inj,sep:=λj f g C=>?_,sto:=?_}
    . by_cases u:i=d
      . subst u
        have e:(A.put i (.av (.lst k rows Θ))).t i=.av (.lst k rows Θ):=by show(bif Nat.beq i i then _ else A.t i)=_;simp
        rw[e];have h1:=sim.tm i;rw[hA]at h1;generalize a.tmps.getD i undef=v at h1;cases h1;obtain⟨⟨U,e0,fr,ι,η,ε,K⟩,hM⟩:=sim.sto.obj b _ L;subst hn;have at1:∀(i:Nat) (row:List AV) (j:Nat) (x:AV),rows[i]?=Δ row->row[j]?=Δ x->∃v,x=.s v/\xq v=true/\U[i*k+j]?=Δ v:=by
          intro i row j x u g;obtain⟨v,rfl,hv⟩:=T row (Fa4 u) x (Fa4 g);have V:=Kt hk u g;have h6:(rows.flatten++pad)[i*k+j]?=Δ (.s v):=δ;have hlt2:i*k+j<U.size:=δ;have h7:=K _ _ U[i*k+j] h6 (by simp[hlt2]);have:U[i*k+j]=v:=by cases h7;rfl
          grind
        refine VRel.lst rows Θ b 0 cap k (λp=>U.getD p undef) R (λi row u=>hk row (Fa4 u)) (λ_ h=>ω) (λi row j x u g=>?_) (λi row j x u g=>?_) (λi row j x u g=>?_)
        . obtain⟨v,rfl,hv,V⟩:=at1 i row j x u g
          refine⟨?_,?_⟩
          . simp_all[World.cell?]
          . rintro(⟨_,h⟩|h)
            . omega
            . exact sim.sto.dis _ _ h (hM _)
        . obtain⟨v,rfl,hv,V⟩:=at1 i row j x u g
          simp_all
        . obtain⟨v,rfl,hv,V⟩:=at1 i row j x u g
          rw[Fbf,V];exact .s _
      . have e:(A.put d (.av (.lst k rows Θ))).t i=A.t i:=by
          show(bif Nat.beq i d then _ else A.t i)=_;grind[Ae]
        rw[e];have h1:=sim.tm i;generalize A.t i=x at h1;cases x with
        |any=>trivial
        |und=>exact h1
        |av x=>exact VRel.mono hs h1
        |bx k off=>exact h1
    . exact sim.sep j b (λe=>by rw[show A.bx j=Δ l from g]at e;cases e) (.inl δ)
    . refine sim.sep j f g ?_
      rcases C with C|C
      . cases hx:(G.dO b).obj f with
        |none=>grind
        |some y=>grind[Ot]
      . exact .inr C
    . exact { obj:=λf y X=>⟨(sim.sto.obj f y (Ot X).2).1.mono hs,λo=>⟨(sim.sto.obj f y (Ot X).2).2 o,(Ot X).1⟩⟩
              tok:=λf H I=>by obtain⟨c,e,fr,h1,h2,z,h4⟩:=sim.sto.tok f H I;exact⟨c,e,fr,h1,h2,z,λo L=>⟨h4 o L,λe=>by subst e;rw[show G.tok f=Δ H from I]at ht;cases ht⟩⟩
              mlt:=λf o B=>sim.sto.mlt f o B.1,olt:=sim.sto.olt,dis:=λf o L B=>sim.sto.dis f o L B.1}
  refine Code.wpF_mono ?_ (h.out D _ a w ⟨β,sim'⟩);rintro e a' w' ⟨A',W,M',h1,h2,z⟩;exact⟨A',W,M',h1,h2,{size:=z.size,keep:=λf o S B=>z.keep f o S λh=>B h.1,blk:=λf S B=>z.blk f S λo h=>B o h.1,shp:=z.shp,sub:=λf o B S=>(z.sub f o B S).1,tape:=z.tape,os:=z.os,output:=z.output}⟩
def AWp.loopA{σ:Type}(H:LoopHead σ){b:Code}{Q:Exit->Fr->Store->Prop}{h:Store}(W:H.at A h λ_=>True)
    (i:∀s h,H.inv s h->AWp P c b (zbh H s Q) (Ib (H.t s) (H.bx s)) h):AWp P c (.loop b) Q A h:=by
  obtain⟨K,_,B,v,D⟩:=W;refine⟨λk M a w u=>?_⟩
  refine wpIn_loop_ghost (λn G o=>∃s f p,H.μ s=n/\H.inv s f/\Sim c.N k (Ib (H.t s) (H.bx s)) f p G o/\Chg M w p o) (H.μ K)
    ⟨K,h,M,rfl,B,u.fits v D (Store.Has.refl h),Chg.refl M w⟩ ?_
  rintro n G o ⟨s,f,p,rfl,V,j,g⟩;refine Code.wpF_mono ?_ ((i s f V).out k p G o j);rintro e X U ⟨I,d,l,T,S,R⟩;cases e with
  | normal=>
    obtain⟨L,z,C,y,E⟩:=T;exact⟨H.μ L,z,L,d,l,rfl,C,S.fits y E (Store.Has.refl d),g.trans R⟩
  |_=>exact⟨I,d,l,T,S,g.trans R⟩
end
section
variable {g:Gnd} {n t i:Nat}
theorem Ml{a:Store}{b:Nat}{x:AObj}(h:a.obj b=Θ):(a.sO b x).dO b=a:=by
 unfold Store.sO Store.dO
 congr 1
 funext i
 by_cases c:i=b
 .subst c;simp[h]
 .simp[qp c]
def Dd(W:Int)(b:Bld)(y k:Nat):List Int:=(List.range k).map λ(x:Nat)=>b.x+(x:Int)+W*(b.y+(y:Int))
def Dy(W:Int)(b:Bld)(k:Nat):List Int:=(List.range k).flatMap λy=>Dd W b y b.w.toNat
def Bk(W:Int)(b:Bld):List Int:=Dy W b b.h.toNat
theorem zkz(W:Int)(b:Bld)(y k:Nat):Dd W b y (k+1)=Dd W b y k++[b.x+(k:Int)+W*(b.y+(y:Int))]:=by unfold Dd;rw[Fdp];simp
theorem fx(W:Int)(b:Bld)(k:Nat):Dy W b (k+1)=Dy W b k++Dd W b k b.w.toNat:=by unfold Dy;rw[Fdp];simp
theorem tt(W:Int)(b:Bld)(y k:Nat):(Dd W b y k).length=k:=by unfold Dd;simp
theorem fy(W:Int)(b:Bld)(k:Nat):(Dy W b k).length=k*b.w.toNat:=by
 induction k with
 |zero=>simp[Dy]
 |succ k a=>rw[fx,Fad,a,tt,Fd0]
def fz(W:Int){b:Bld}(a:yh b):(Bk W b).length<=16:=by unfold Bk;rw[fy];unfold yh at a;have:b.h.toNat*b.w.toNat<=4*4:=Fc5 Z Z;omega
def Lk(c:zt g){x y:Int}(a:0<=x/\x<g.W)(b:0<=y/\y<g.H):
  0<=x+g.W*y/\x+g.W*y<g.W*g.H/\(x+g.W*y)%g.W=x/\(x+g.W*y)/g.W=y:=by
 obtain⟨⟨h,f⟩,⟨e,d⟩,_⟩:=c;have a1:0<=g.W*y:=Fax Z b.1;have a2:g.W*y<=g.W*(g.H-1):=Fda Z Z;have a3:g.W*(g.H-1)=g.W*g.H-g.W:=by rw[Int.mul_sub,Int.mul_one]
 refine⟨Z,Z,?_,?_⟩
 .rw[Fea];exact Fc7 a.1 a.2
 .rw[Fd3 _ _ Z,Fb9 a.1 a.2];omega
theorem Ic(o:zt g){b:Bld}(p:yh b)(k:onP g b)(t:Int):t∈Bk g.W b↔∃n:Nat,t=(n:Int)/\(n:Int)<g.W*g.H/\ve g b n:=by
 have d:=p;have c:=k;unfold yh at d;unfold onP at c;unfold Bk Dy Dd;rw[List.mem_flatMap];constructor
 .rintro⟨y,e,f⟩;obtain⟨x,a,rfl⟩:=Fag.1 f;have e:=Fbe.1 e;have f:=Fbe.1 a;obtain⟨v,u,j,h⟩:=Lk o (x:=b.x+x) (y:=b.y+y) Z Z;refine⟨(b.x+(x:Int)+g.W*(b.y+(y:Int))).toNat,Z,Z,?_⟩;unfold ve;rw[show(((b.x+(x:Int)+g.W*(b.y+(y:Int))).toNat:Nat):Int)=b.x+(x:Int)+g.W*(b.y+(y:Int)) by omega,j,h];omega
 .rintro⟨n,rfl,w,l⟩;unfold ve at l;refine⟨((n:Int)/g.W-b.y).toNat,Fbe.2 Z,Fag.2 ⟨((n:Int)%g.W-b.x).toNat,Fbe.2 Z,?_⟩⟩;have:=Fdf (n:Int) g.W;rw[show(((n:Int)%g.W-b.x).toNat:Int)=(n:Int)%g.W-b.x by omega,show(((n:Int)/g.W-b.y).toNat:Int)=(n:Int)/g.W-b.y by omega];rw[show b.x+((n:Int)%g.W-b.x)=(n:Int)%g.W by omega,show b.y+((n:Int)/g.W-b.y)=(n:Int)/g.W by omega];exact this
def bl(n:Nat)(f:Nat->Bool):List AV:=(List.range n).map λt=>bool (f t)
theorem wq(n:Nat)(f:Nat->Bool):(bl n f).length=n:=by simp[bl]
theorem Ix{f:Nat->Bool}(h:t<n):(bl n f)[t]?=Δ (bool (f t)):=by simp[bl,h]
theorem Kz(n:Nat):List.replicate n (AV.s (.bool false))=bl n λ_=>false:=by unfold bl;rw[List.map_const',Fds];rfl
theorem G4{f:Nat->Bool}(h:t<n)(g:Nat->Bool)(a:∀s,s≠t->g s=f s):zu (bl n f) t [bool (g t)]=bl n g:=by
 unfold zu;apply Fcd;intro s;by_cases d:s<t
 .rw[Faq,Far (by rw[Fah,wq];omega),Fb2 d,Ix Z,Ix Z,a s Z]
 .by_cases c:s=t
  .subst c;rw[Faq,Fa0 (by rw[Fah,wq];omega),Fah,wq,show s-min s n=0 by omega,Ix h];rfl
  .rw[Fa0 (by rw[Fad,Fah,wq];simp;omega),Fad,Fah,wq,Fct];by_cases b:s<n
   .have e:t+[bool (g t)].length+(s-(min t n+[bool (g t)].length))=s:=χ;rw[e,Ix b,Ix b,a s c]
   .rw[Fb4 (by rw[wq];simp;omega),Fb4 θf]
def At(g:Gnd)(l:List Bld)(i:Nat)(a:List Int)(k:Nat)(t:Nat):Bool:=xn g (l.take i) t||(a.take k).contains (t:Int)
def zgp(g:Gnd)(l:List Bld)(i:Nat)(a:List Int)(t:Nat):At g l i a 0 t=xn g (l.take i) t:=by simp[At]
def zgq{l:List Bld}{a:List Int}{k n:Nat}(c:k<Γ a)(b:a[k]=(n:Int)):
  At g l i a (k+1) n=true/\∀s,s≠n->At g l i a (k+1) s=At g l i a k s:=by
 unfold At;rw[Fab c,b];refine⟨φ,λs d=>?_⟩;rw[List.contains_append];have:[((n:Nat):Int)].contains (s:Int)=false:=χ;rw[this,Bool.or_false]
def zgr(a:zt g){l:List Bld}(c:i<Γ l)(b:yh l[i]/\onP g l[i])(e:t<Γ g.T):
  At g l i (Bk g.W l[i]) (Bk g.W l[i]).length t=xn g (l.take (i+1)) t:=by
 have f:=qg a;unfold At xn;rw[Fal,Fab c,List.any_append]
 congr 1
 rw[Fbm,List.contains_iff_mem,Ic a b.1 b.2];simp only[List.any_cons,List.any_nil,Bool.or_false,decide_eq_true_eq];constructor
 .rintro⟨n,j,_,d⟩;have:n=t:=Z;subst this;exact d
 .intro h;exact⟨t,rfl,Z,h⟩
def jm(b:Bool):List AV:=[bool b]
def blL(n:Nat)(f:Nat->Bool):List Bool:=(List.range n).map f
theorem jd(n:Nat)(f:Nat->Bool):(blL n f).length=n:=by simp[blL]
theorem Cm{f:Nat->Bool}(h:t<n):(blL n f)[t]'(by rw[jd];exact h)=f t:=by simp[blL]
theorem yt6(n:Nat)(f:Nat->Bool):(rws jm (blL n f)).flatten=bl n f:=by
 unfold rws blL bl jm;induction List.range n with
 |nil=>rfl
 |cons a l b=>simp at b⊢;exact b
def zhr{f:Nat->Bool}(h:t<n):(rws jm (blL n f))[t]?=Δ (jm (f t)):=by unfold rws blL;simp[h]
end
section
variable {g:Gnd}
theorem zky(W:Int)(b:Bld)(y k:Nat):(Dd W b y k).Pairwise (·<·):=by grind[Dd,List.pairwise_lt_range]
def zkv{W:Int}{b:Bld}(i:1<=W)(f:0<=b.x/\b.x+b.w<=W)(h:1<=b.w)(k:Nat):(Dy W b k).Pairwise (·<·)/\∀t∈Dy W b k,t<W*(b.y+(k:Int)):=by
 induction k with
 |zero=>simp_all[Dy]
 |succ k d=>
  rw[fx];have hrow:∀t∈Dd W b k b.w.toNat,W*(b.y+(k:Int))<=t/\t<W*(b.y+(k:Int))+W:=by intro t c;obtain⟨x,a,rfl⟩:=Fag.1 c;grind
  have e:W*(b.y+((k+1:Nat):Int))=W*(b.y+(k:Int))+W:=δ;grind[zky]
def zkw(c:zt g){b:Bld}(a:yh b/\onP g b):(Bk g.W b).Pairwise (·<·):=by unfold yh onP at a;exact(zkv c.1.1 a.2.1 Z _).1
theorem yli{l:List Int}(h:l.Pairwise (·<·)){k:Nat}(a:k<Γ l):l[k]∉l.take k:=by grind[List.getElem_of_mem,List.pairwise_iff_getElem]
theorem zdo(c:zt g){a b:Bld}(e:yh a/\onP g a)(d:yh b/\onP g b):vy a b↔∃t:Nat,(t:Int)<g.W*g.H/\ve g a t/\ve g b t:=by
 unfold yh onP at e d;unfold vy;constructor
 .intro h;obtain⟨k,j,i,f⟩:=Lk c (x:=max a.x b.x) (y:=max a.y b.y) Z Z;refine⟨(max a.x b.x+g.W*max a.y b.y).toNat,Z,?_⟩;grind[ve]
 grind[ve]
def covB_iff{l:List Bld}{t:Nat}:xn g l t=true↔∃b∈l,ve g b t:=by grind[xn]
def di(g:Gnd)(l:List Bld)(i:Nat):Prop:=∀j,(h:j<Γ l)->j<i->(yh l[j]/\onP g l[j]/\Fy g l[j])/\∀k,(a:k<j)->¬vy l[j] (l[k]'Z)
def zhj{l:List Bld}(h:di g l (Γ l)):(∀b∈l,yh b/\onP g b/\Fy g b)/\dz l:=by refine⟨λb d=>?_,λj a k c=>(h j a a).2 k c⟩;obtain⟨j,a,rfl⟩:=Faj d;exact(h j a a).1
def ysk(f:zt g){l:List Bld}{i:Nat}(y:i<Γ l)(c:yh l[i]/\onP g l[i])(a:di g l i):
  (∃t∈Bk g.W l[i],xn g (l.take i) t.toNat=true)↔∃k,∃d:k<i,vy l[i] (l[k]'Z):=by
 constructor
 .rintro⟨t,p,o⟩;obtain⟨n,rfl,j,z⟩:=(Ic f c.1 c.2 t).1 p;rw[Faz]at o;obtain⟨b,h,e⟩:=covB_iff.1 o;obtain⟨k,d,rfl⟩:=Faj h;rw[Fah]at d;rw[Fdt]at e;have:=(a k Z Z).1;grind[zdo]
 .rintro⟨k,d,u⟩;have:=(a k Z Z).1;obtain⟨n,j,w,v⟩:=(zdo f c ⟨this.1,this.2.1⟩).1 u;refine⟨(n:Int),(Ic f c.1 c.2 _).2 ⟨n,rfl,j,w⟩,?_⟩;rw[Faz];refine covB_iff.2 ⟨l[k],?_,v⟩;have:(l.take i)[k]'δ=l[k]:=Fdt;grind
end
def Rt(g:Gnd)(b:Bld)(k t:Nat):Prop:=(b.x<=(t:Int)%g.W/\(t:Int)%g.W<b.x+b.w)/\(b.y<=(t:Int)/g.W/\(t:Int)/g.W<b.y+(k:Int))
def Km(g:Gnd)(b:Bld)(k m t:Nat):Prop:=(t:Int)/g.W=b.y+(k:Int)/\(b.x<=(t:Int)%g.W/\(t:Int)%g.W<b.x+(m:Int))
instance(g:Gnd)(b:Bld)(k t:Nat):Decidable (Rt g b k t):=inferInstanceAs (Decidable (_/\_))
instance(g:Gnd)(b:Bld)(k m t:Nat):Decidable (Km g b k m t):=inferInstanceAs (Decidable (_/\_))
def C6(g:Gnd)(l:List Bld)(i:Nat)(b:Bld)(k m t:Nat):Bool:=xn g (l.take i) t||decide (Rt g b k t\/Km g b k m t)
theorem ysl(g:Gnd)(l:List Bld)(i:Nat)(b:Bld):C6 g l i b 0 0=xn g (l.take i):=by
 funext t
 simp_all[C6,decide_eq_false,Rt,Km]
theorem ysn(g:Gnd)(l:List Bld)(i:Nat)(b:Bld)(k:Nat)(a:0<=b.w):C6 g l i b k b.w.toNat=C6 g l i b (k+1) 0:=by grind[C6,Rt,Km]
theorem yso{g:Gnd}{l:List Bld}{i:Nat}(a:i<Γ l)(b:0<=l[i].h):C6 g l i l[i] l[i].h.toNat 0=xn g (l.take (i+1)):=by
 funext t
 unfold C6 xn;rw[Fab a,List.any_append]
 congr 1
 simp only[List.any_cons,List.any_nil,Bool.or_false];grind[Rt,Km,ve]
def ysm{g:Gnd}(a:zt g){l:List Bld}{i:Nat}{b:Bld}(c:yh b/\onP g b){k m:Nat}(v:(k:Int)<b.h)(u:(m:Int)<b.w){n:Nat}(t:(n:Int)=b.x+(m:Int)+g.W*(b.y+(k:Int))):
  C6 g l i b k (m+1) n=true/\∀s,s≠n->C6 g l i b k (m+1) s=C6 g l i b k m s:=by
 unfold yh onP at c;obtain⟨o,j,f,d⟩:=Lk a (x:=b.x+m) (y:=b.y+k) Z Z;unfold C6;refine⟨?_,λs p=>?_⟩
 .have:Km g b k (m+1) n:=by grind[Km]
  grind
 .have e:=Fdf (s:Int) g.W;grind[Km]
def bd{g:Gnd}{t:Nat}{p:Vc}{r:Int}(e:0<r)(h:jg g t p r):
  (tx g t<p.1+r/\p.1-r<tx g t+65536)/\(ty g t<p.2+r/\p.2-r<ty g t+65536):=by
 unfold jg at h;have n:∀x d:Int,0<=off x d:=λx d=>by grind[off]
 have a:=Pj (n p.1 (tx g t)) e (by have:=Fax (n p.2 (ty g t)) (n p.2 (ty g t));omega);have b:=Pj (n p.2 (ty g t)) e (by have:=Fax (n p.1 (tx g t)) (n p.1 (tx g t));omega);grind[off]
section
variable {P:Program} {c:Cfg}
def ju{b:Array Oper}{o:Oper}{A:Fr}{d a:Fr->Prop}(e:o.guard=Θ)(h:d A):Kq b o A d a:=by unfold Kq;grind
def jr{o:Oper}{t:TypeId}{a x:Operand}{K:Fr->Store->Prop}{A:Fr}{b:Store}{i:TI}{v:AV}(d:o.op=.store t a x)(g:o.dst=Θ)(f:c.I t=Δ i)(e:A.ev x=.av v)(h:Dz i A b (A.ev a) v K):Ff P c o K A b:=by unfold Ff;rw[d];show G9 P c o K A b;simp_all[G9,J]
end
def zdj{A:Int}{m:Nat}(h:(m:Int)<A):A.toNat-(m+1)<A.toNat-m:=Z
theorem pq(a:Int)(m:Nat):a+((m+1:Nat):Int)=a+(m:Int)+1:=Z
def W6{A x:Int}{m:Nat}(h:x+(m:Int)<A):((m+1:Nat):Int)<=A-x:=Z
def Ow(g:Gnd)(l:List Bld)(c:Int)(p:Vc)(r y:Int):Prop:=∀t,t<Γ g.T->(t:Int)/g.W<y->yp g l c t=false->¬jg g t p r
def Sc(g:Gnd)(l:List Bld)(c:Int)(p:Vc)(r y x:Int):Prop:=∀t,t<Γ g.T->(t:Int)/g.W=y->(t:Int)%g.W<x->yp g l c t=false->¬jg g t p r
def ytf{g:Gnd}{l:List Bld}{c:Int}{p:Vc}{r:Int}(a:0<r)(e:0<=p.2-r):Ow g l c p r ((p.2-r)/65536):=by intro t _ d _ b;have:=(bd a b).2;grind[ty]
def yti{g:Gnd}{l:List Bld}{c:Int}{p:Vc}{r y:Int}(a:0<r)(e:0<=p.1-r):Sc g l c p r y ((p.1-r)/65536):=by intro t _ _ d _ b;have:=(bd a b).1;grind[tx]
def ytj{g:Gnd}(f:zt g){l:List Bld}{c:Int}{p:Vc}{r y x:Int}(j:0<r)(u:0<=p.1+r)(o:¬(x<=(p.1+r)/65536)\/¬(x<g.W))(i:Ow g l c p r y)(h:Sc g l c p r y x):Ow g l c p r (y+1):=by
 intro t b n d a;by_cases e:(t:Int)/g.W=y
 .by_cases k:(t:Int)%g.W<x
  .exact h t b e k d a
  .have w:=(bd j a).1;have v:=(Dc f (t:=t) (by have:=(qg f).2.2;omega)).1;grind[tx]
 .exact i t b Z d a
def ytg{g:Gnd}(b:zt g){l:List Bld}{c:Int}{p:Vc}{r y:Int}(h:0<r)(k:0<=p.2+r)(j:¬(y<=(p.2+r)/65536)\/¬(y<g.H))(d:Ow g l c p r y):∀t,t<Γ g.T->yp g l c t=false->¬jg g t p r:=by
 intro t f i a;by_cases e:(t:Int)/g.W<y
 .exact d t f e i a
 .have o:=(bd h a).2;have n:=(Dc b (t:=t) (by have:=(qg b).2.2;omega)).2;grind[ty]
def yth{g:Gnd}(k:zt g){l:List Bld}{c:Int}{p:Vc}{r y x:Int}(i:0<=x/\x<g.W)(f:0<=y/\y<g.H)(h:Sc g l c p r y x)(j:yp g l c (x+g.W*y).toNat=false->¬jg g (x+g.W*y).toNat p r):Sc g l c p r y (x+1):=by
 intro t a d o b;by_cases e:(t:Int)%g.W<x
 .exact h t a d e b
 .have n:(t:Int)%g.W=x:=Z;have q:=Fdf (t:Int) g.W;grind
section
variable {g:Gnd} {x y:Int} {s:Nat}
def onG(g:Gnd)(x y:Int):Prop:=(0<=x/\x<g.W)/\(0<=y/\y<g.H)
instance(g:Gnd)(x y:Int):Decidable (onG g x y):=inferInstanceAs (Decidable (_/\_))
def tl(g:Gnd)(x y:Int):Nat:=(x+g.W*y).toNat
def Db(c:zt g)(h:onG g x y):((tl g x y:Nat):Int)=x+g.W*y/\tl g x y<Γ g.T/\(tl g x y:Int)%g.W=x/\(tl g x y:Int)/g.W=y:=by
 obtain⟨n,l,k⟩:=qg c;obtain⟨⟨f,a⟩,b,d⟩:=h;have j:1<=g.W:=c.1.1;have o:0<=g.W*y:=Fax Z b;have e:((tl g x y:Nat):Int)=x+g.W*y:=by unfold tl;omega
 have i:g.W*y<=g.W*(g.H-1):=Fa9 (Fcw _) Z b Z;rw[Int.mul_sub,Int.mul_one]at i;refine⟨e,Z,?_,?_⟩
 .simp_all[Fc7]
 .rw[e,Fd3 _ _ Z,Fb9 f a,Int.zero_add]
def Nq(e:zt g){t:Nat}(f:t<Γ g.T):onG g ((t:Int)%g.W) ((t:Int)/g.W)/\tl g ((t:Int)%g.W) ((t:Int)/g.W)=t:=by obtain⟨k,j,i⟩:=qg e;have h:1<=g.W:=e.1.1;have a:=Fcl (t:Int) (show g.W≠0 by omega);have b:=Fc2 (t:Int) (show 0<g.W by omega);have c:=Fb3 (show 0<=(t:Int) by omega) (show 0<=g.W by omega);have d:(t:Int)/g.W<g.H:=Fd2 Z (by rw[Int.mul_comm];omega);refine⟨⟨⟨a,b⟩,c,d⟩,?_⟩;unfold tl;rw[Fdf];omega
def sqP(g:Gnd)(f:Nat->Bool)(s:Nat)(x y:Int):Prop:=∀a b:Int,-(s:Int)<=a->a<=s->-(s:Int)<=b->b<=s->onG g (x+a) (y+b)/\f (tl g (x+a) (y+b))=true
theorem sq_zero{f:Nat->Bool}:sqP g f 0 x y↔onG g x y/\f (tl g x y)=true:=by
 constructor
 .intro h;have:=h 0 0 ψ ψ ψ ψ;simpa using this
 .intro h a b h1 h2 h3 h4;grind
theorem sq_succ{f:Nat->Bool}:sqP g f (s+1) x y↔∀a b:Int,-1<=a->a<=1->-1<=b->b<=1->onG g (x+a) (y+b)/\sqP g f s (x+a) (y+b):=by
 constructor
 .intro h a b v u t p;refine⟨(h a b Z Z Z Z).1,λB A G E D C=>?_⟩;have:=h (a+B) (b+A) Z Z Z Z;grind
 .intro h a b v u t p;obtain⟨a1,o,n,l,k⟩:∃a1:Int,-1<=a1/\a1<=1/\-(s:Int)<=a-a1/\a-a1<=s:=by
   by_cases z:a>s
   .exact⟨1,Z,Z,Z,Z⟩
   .by_cases w:a< -s
    .exact⟨-1,Z,Z,Z,Z⟩
    .exact⟨0,Z,Z,Z,Z⟩
  obtain⟨c,j,i,e,d⟩:∃c:Int,-1<=c/\c<=1/\-(s:Int)<=b-c/\b-c<=s:=by
   by_cases z:b>s
   .exact⟨1,Z,Z,Z,Z⟩
   .by_cases w:b< -s
    .exact⟨-1,Z,Z,Z,Z⟩
    .exact⟨0,Z,Z,Z,Z⟩
  have:=(h a1 c o n j i).2 (a-a1) (b-c) l k e d;grind
def gg{f:Nat->Bool}{c:Nat}(d:c<=s)(h:sqP g f s x y):sqP g f c x y:=λa b k j i e=>h a b Z Z Z Z
def zz4{f:Nat->Bool}(h:sqP g f s x y):2*(s:Int)+1<=g.W:=by have b:=(h (-(s:Int)) 0 Z Z Z Z).1.1.1;have a:=(h s 0 Z Z Z Z).1.1.2;omega
def m5(a b c d e:Int):Int:=min (min (min (min a (b+1)) (c+1)) (d+1)) (e+1)
def ytn{f:Nat->Bool}{A B:Int->Int->Int}(D:∀x y,¬onG g x y->A x y=0)(C:∀x y,¬onG g x y->B x y=0)
  (w:∀x y,onG g x y->A x y=m5 (if f (tl g x y)then 128 else 0) (A (x-1) y) (A (x-1) (y-1)) (A x (y-1)) (A (x+1) (y-1)))
  (t:∀x y,onG g x y->B x y=m5 (A x y) (B (x+1) y) (B (x+1) (y+1)) (B x (y+1)) (B (x-1) (y+1))) (E:onG g x y) (s:Nat) (o:s<=127):(s:Int)<B x y↔sqP g f s x y:=by
 -- not below 0
 have nA:∀n:Nat,∀x y,onG g x y->y*200+x<n->0<=A x y:=by
  intro n;induction n with
  |zero=>intro x y h G;obtain⟨⟨h1,h2⟩,h3,h4⟩:=h;omega
  |succ n l=>
   intro x y h G;have any:∀j i,i*200+j<y*200+x->0<=A j i:=λj i R=>by
    by_cases e:onG g j i
    .exact l j i e Z
    .rw[D j i e];decide
   rw[w x y h];have a1:=any (x-1) y Z;have a2:=any (x-1) (y-1) Z;have a3:=any x (y-1) Z;have a4:=any (x+1) (y-1) Z;have a5:(0:Int)<=(if f (tl g x y)then 128 else 0):=by split<;>decide
   unfold m5;omega
 have pA:∀x y,0<=A x y:=λx y=>by
  by_cases e:onG g x y
  .exact nA (y*200+x+1).toNat x y e (by obtain⟨⟨h1,h2⟩,h3,h4⟩:=e;omega)
  .rw[D x y e];decide
 have nB:∀n:Nat,∀x y,onG g x y->(g.H-y)*200+(g.W-x)<n->0<=B x y:=by
  intro n;induction n with
  |zero=>intro x y h G;obtain⟨⟨h1,h2⟩,h3,h4⟩:=h;omega
  |succ n l=>
   intro x y h G;have any:∀j i,(g.H-i)*200+(g.W-j)<(g.H-y)*200+(g.W-x)->0<=B j i:=λj i R=>by
    by_cases e:onG g j i
    .exact l j i e Z
    .rw[C j i e];decide
   rw[t x y h];have a1:=any (x+1) y Z;have a2:=any (x+1) (y+1) Z;have a3:=any x (y+1) Z;have a4:=any (x-1) (y+1) Z;have a5:=pA x y;unfold m5;omega
 have pB:∀x y,0<=B x y:=λx y=>by
  by_cases e:onG g x y
  .exact nB ((g.H-y)*200+(g.W-x)+1).toNat x y e (by obtain⟨⟨h1,h2⟩,h3,h4⟩:=e;omega)
  .rw[C x y e];decide
 constructor
 .-- what is bad is not farther than its steps
  have up1:∀d:Nat,∀x y a b,onG g x y->-(d:Int)<=a->a<=d->-(d:Int)<=b->b<=0->a<=-b->¬(onG g (x+a) (y+b)/\f (tl g (x+a) (y+b))=true)->A x y<=d:=by
   intro d;induction d with
   |zero=>
    intro x y a b h h1 h2 h3 h4 z c;have ea:a=0:=Z;have T:b=0:=Z;subst ea T;rw[Fb8,Fb8]at c;have k:¬f (tl g x y)=true:=λk=>c ⟨h,k⟩;rw[w x y h,if_neg k];unfold m5;omega
   |succ d l=>
    intro x y a b h h1 h2 h3 h4 z c;have go:∀u v:Int,-(d:Int)<=a-u->a-u<=d->-(d:Int)<=b-v->b-v<=0->a-u<=-(b-v)->A (x+u) (y+v)<=d:=λu v P M L K S=>by
     by_cases e:onG g (x+u) (y+v)
     .refine l (x+u) (y+v) (a-u) (b-v) e P M L K S ?_;rw[show x+u+(a-u)=x+a by omega,show y+v+(b-v)=y+b by omega];exact c
     .rw[D _ _ e];omega
    have p:=w x y h;unfold m5 at p;by_cases cb:b=0
    .by_cases ca:a=0
     .subst ca cb;rw[Fb8,Fb8]at c;have k:¬f (tl g x y)=true:=λk=>c ⟨h,k⟩;rw[if_neg k]at p;omega
     .have:=go (-1) 0 Z Z Z Z Z;rw[show x+-1=x-1 by omega,Fb8]at this;omega
    .by_cases ca:a=0
     .have:=go 0 (-1) Z Z Z Z Z;rw[show y+-1=y-1 by omega,Fb8]at this;omega
     .by_cases ca2:a<0
      .have:=go (-1) (-1) Z Z Z Z Z;rw[show y+-1=y-1 by omega,show x+-1=x-1 by omega]at this;omega
      .have:=go 1 (-1) Z Z Z Z Z;rw[show y+-1=y-1 by omega]at this;omega
  have up2:∀d:Nat,∀x y a b,onG g x y->-(d:Int)<=a->a<=d->-(d:Int)<=b->b<=d->¬(onG g (x+a) (y+b)/\f (tl g (x+a) (y+b))=true)->B x y<=d:=by
   intro d;induction d with
   |zero=>
    intro x y a b h h1 h2 h3 h4 c;have:=up1 0 x y a b h h1 h2 h3 Z Z c;have p:=t x y h;unfold m5 at p;omega
   |succ d l=>
    intro x y a b h h1 h2 h3 h4 c;have p:=t x y h;unfold m5 at p;by_cases cone:b<=0/\a<=-b
    .have:=up1 (d+1) x y a b h h1 h2 h3 cone.1 cone.2 c;omega
    have go:∀u v:Int,-(d:Int)<=a-u->a-u<=d->-(d:Int)<=b-v->b-v<=d->B (x+u) (y+v)<=d:=λu v P M L K=>by
     by_cases e:onG g (x+u) (y+v)
     .refine l (x+u) (y+v) (a-u) (b-v) e P M L K ?_;rw[show x+u+(a-u)=x+a by omega,show y+v+(b-v)=y+b by omega];exact c
     .rw[C _ _ e];omega
    by_cases cb:b<=0
    .have:=go 1 0 Z Z Z Z;rw[Fb8]at this;omega
    .by_cases ca:a=0
     .have:=go 0 1 Z Z Z Z;rw[Fb8]at this;omega
     .by_cases ca2:a<0
      .have:=go (-1) 1 Z Z Z Z;rw[show x+-1=x-1 by omega]at this;omega
      .have:=go 1 1 Z Z Z Z;omega
  intro Q a b h1 h2 h3 h4;refine Classical.byContradiction λc=>?_;have:=up2 s x y a b E h1 h2 h3 h4 c;omega
 .-- what is good all about is far
  have loA:∀s:Nat,s<=127->∀x y,sqP g f s x y->(s:Int)<A x y:=by
   intro s;induction s with
   |zero=>
    intro _ x y h;obtain⟨e,k⟩:=sq_zero.1 h;rw[w x y e,if_pos k];have a1:=pA (x-1) y;have a2:=pA (x-1) (y-1);have a3:=pA x (y-1);have a4:=pA (x+1) (y-1);unfold m5;omega
   |succ s l=>
    intro o x y h;have h2:=sq_succ.1 h;have nb:=λ(a b:Int) h3 h4 z I=>l Z _ _ (h2 a b h3 h4 z I).2;obtain⟨e,k⟩:=sq_zero.1 (gg (Fae _) h);have a1:=nb (-1) 0 ψ ψ ψ ψ;have a2:=nb (-1) (-1) ψ ψ ψ ψ;have a3:=nb 0 (-1) ψ ψ ψ ψ;have a4:=nb 1 (-1) ψ ψ ψ ψ;rw[show x+-1=x-1 by omega]at a1 a2;rw[show y+-1=y-1 by omega]at a2 a3 a4;rw[Fb8]at a1 a3;rw[w x y e,if_pos k];unfold m5;omega
  have loB:∀s:Nat,s<=127->∀x y,sqP g f s x y->(s:Int)<B x y:=by
   intro s;induction s with
   |zero=>
    intro o x y h;obtain⟨e,k⟩:=sq_zero.1 h;rw[t x y e];have a1:=pB (x+1) y;have a2:=pB (x+1) (y+1);have a3:=pB x (y+1);have a4:=pB (x-1) (y+1);have a5:=loA 0 o x y h;unfold m5;omega
   |succ s l=>
    intro o x y h;have h2:=sq_succ.1 h;have nb:=λ(a b:Int) h3 h4 z I=>l Z _ _ (h2 a b h3 h4 z I).2;obtain⟨e,k⟩:=sq_zero.1 (gg (Fae _) h);have a1:=nb 1 0 ψ ψ ψ ψ;have a2:=nb 1 1 ψ ψ ψ ψ;have a3:=nb 0 1 ψ ψ ψ ψ;have a4:=nb (-1) 1 ψ ψ ψ ψ;rw[show x+-1=x-1 by omega]at a4;rw[Fb8]at a1 a3;have a5:=loA (s+1) o x y h;rw[t x y e];unfold m5;omega
  exact loB s o x y
end
section
variable {g:Gnd} {x y j i:Int}
theorem zfv{p q:Nat->Bool}{m:Nat}(k:∀t,p t=true->t<m):∀{N:Nat},m<N->(∀t,t<N->(q t=true↔p t=true\/t=m))->(List.range N).filter q=(List.range N).filter p++[m]
 |0,h,_=>absurd h (Fav m)
 |N+1,h,b=>by
  rw[Fdp,Fcu,Fcu];have a:p N=false:=Bool.eq_false_iff.2 λd=>by have:=k N d;omega
  by_cases e:m=N
  .subst e;have l:(List.range m).filter q=(List.range m).filter p:=Fel λt c=>by
    have c:=Fbe.1 c;have:=b t Z;rw[Fbm,this];exact⟨λh=>h.resolve_right Z,.inl⟩
   have f:q m=true:=(b m Z).2 (.inr rfl);rw[l];simp[a,f]
  .have f:q N=false:=Bool.eq_false_iff.2 λd=>by
    rcases(b N Z).1 d with h|h
    .rw[a]at h;cases h
    .omega
   rw[zfv k Z (λt c=>b t Z)];simp[a,f]
def oj{p q:Nat->Bool}{N:Nat}(h:∀t,t<N->(q t=true↔p t=true)):(List.range N).filter q=(List.range N).filter p:=
 Fel λt a=>by rw[Fbm];exact h t (Fbe.1 a)
def tv{α:Type}(L:List α)(a:α)(n:Nat):(L++[a]).take n=if Γ L<n then L.take n++[a]else L.take n:=by
 split
 .rw[Fbz χ,Fbz Z]
 .rw[Fb6 Z]
theorem f9{α:Type}(L:List α)(n:Nat):(L.take n).length<n↔Γ L<n:=θd
def qb(l:List Nat):List Int:=l.map λ(t:Nat)=>(t:Int)
theorem lz(a b:List Nat):qb (a++b)=qb a++qb b:=Fa8
def Cn(i j:Int):Int:=max (max i (-i)) (max j (-j))
def kl(g:Gnd)(x y k d:Int)(t:Nat):Bool:=decide (Cn ((t:Int)%g.W-x) ((t:Int)/g.W-y)=d/\((t:Int)%g.W-x).tmod k=0/\((t:Int)/g.W-y).tmod k=0)
def Gg(g:Gnd)(x y k d:Int):List Nat:=(List.range (Γ g.T)).filter (kl g x y k d)
def zhy(g:Gnd)(x y j i:Int)(t:Nat):Bool:=decide ((t:Int)/g.W<y+j\/((t:Int)/g.W=y+j/\(t:Int)%g.W<x+i))
def Cs(g:Gnd)(x y k d j i:Int):List Nat:=(List.range (Γ g.T)).filter λt=>kl g x y k d t&&zhy g x y j i t
def V5{k d:Int}{t:Nat}(h:kl g x y k d t=true):(x-d<=(t:Int)%g.W/\(t:Int)%g.W<=x+d)/\(y-d<=(t:Int)/g.W/\(t:Int)/g.W<=y+d):=by have:=(of_decide_eq_true h).1;unfold Cn at this;omega
theorem yhy(g:Gnd)(x y k d:Int):Cs g x y k d (-d) (-d)=[]:=by unfold Cs;rw[List.filter_eq_nil_iff];intro t _ a;obtain⟨c,b⟩:=(Fbg).1 a;have:=V5 c;have:=of_decide_eq_true b;omega
theorem yhz(g:Gnd)(x y k d j:Int):Cs g x y k d j (d+1)=Cs g x y k d (j+1) (-d):=oj λt c=>by
 rw[Fbg,Fbg];refine⟨λ⟨a,b⟩=>⟨a,?_⟩,λ⟨a,b⟩=>⟨a,?_⟩⟩
 .have:=V5 a;have:=of_decide_eq_true b;exact decide_eq_true Z
 .have:=V5 a;have:=of_decide_eq_true b;exact decide_eq_true Z
theorem yh2(g:Gnd)(x y k d:Int):Cs g x y k d (d+1) (-d)=Gg g x y k d:=oj λt b=>by rw[Fbg];refine⟨λh=>h.1,λa=>⟨a,?_⟩⟩;have:=V5 a;exact decide_eq_true Z
theorem yhx(c:zt g){k d:Int}(f:onG g (x+i) (y+j))(v:Cn i j=d)(p:i.tmod k=0)(o:j.tmod k=0):Cs g x y k d j (i+1)=Cs g x y k d j i++[tl g (x+i) (y+j)]:=by
 obtain⟨B,z,l,h⟩:=Db c f;have A:1<=g.W:=c.1.1;refine zfv (m:=tl g (x+i) (y+j)) (λt u=>?_) z (λt n=>?_)
 .obtain⟨b,a⟩:=(Fbg).1 u;have a:=of_decide_eq_true a;have w:=Fdf (t:Int) g.W;rcases a with a|⟨a,e⟩
  .have C:=Fc2 (t:Int) (show 0<g.W by omega);have:g.W*((t:Int)/g.W+1)<=g.W*(y+j):=Fda Z Z;rw[Fdx,Int.mul_one]at this;have:=f.1.1;omega
  .rw[a]at w;omega
 .rw[Fbg,Fbg];constructor
  .rintro⟨b,a⟩;have a:=of_decide_eq_true a;by_cases e:(t:Int)/g.W=y+j/\(t:Int)%g.W=x+i
   .right;have:=(Nq c n).2;rw[e.1,e.2]at this;exact this.symm
   .exact .inl ⟨b,decide_eq_true Z⟩
  .rintro(⟨b,a⟩|rfl)
   .have a:=of_decide_eq_true a;exact⟨b,decide_eq_true Z⟩
   .refine⟨decide_eq_true ?_,decide_eq_true ?_⟩
    .rw[l,h,show x+i-x=i by omega,show y+j-y=j by omega];exact⟨v,p,o⟩
    .rw[l,h];omega
theorem yh0(o:zt g){k d:Int}(n:¬(Cn i j=d/\i.tmod k=0/\j.tmod k=0/\onG g (x+i) (y+j))):Cs g x y k d j (i+1)=Cs g x y k d j i:=oj λt l=>by
 rw[Fbg,Fbg];refine⟨λ⟨c,b⟩=>⟨c,?_⟩,λ⟨c,b⟩=>⟨c,?_⟩⟩
 .have b:=of_decide_eq_true b;refine decide_eq_true ?_;by_cases a:(t:Int)/g.W=y+j/\(t:Int)%g.W=x+i
  .exfalso;obtain⟨h,f,e⟩:=of_decide_eq_true c;rw[a.1,a.2,show x+i-x=i by omega,show y+j-y=j by omega]at h;rw[a.2,show x+i-x=i by omega]at f;rw[a.1,show y+j-y=j by omega]at e;have:=(Nq o l).1;rw[a.1,a.2]at this;exact n ⟨h,f,e,this⟩
  .omega
 .have b:=of_decide_eq_true b;exact decide_eq_true Z
def Cd(g:Gnd)(f:Nat->Bool)(x y k d:Int):List Nat:=(Gg g x y k d).filter f
def jk(g:Gnd)(f:Nat->Bool)(x y k:Int):Nat->List Nat
 |0=>[]
 |d+1=>jk g f x y k d++Cd g f x y k d
def Fi(g:Gnd)(f:Nat->Bool)(b a:Int)(n:Nat):List Nat:=(jk g f (a%g.W) (a/g.W) (2*b+1) (g.W+g.H+1).toNat).take n
def zaa(g:Gnd)(f:Nat->Bool)(x y k:Int)(d:Nat):∀e:Nat,∃m,jk g f x y k (d+e)=jk g f x y k d++m
 |0=>⟨[],φ⟩
 |e+1=>by obtain⟨m,a⟩:=zaa g f x y k d e;exact⟨m++Cd g f x y k ((d+e:Nat):Int),by rw[<-Faq,<-a];rfl⟩
theorem yar(c:zt g){f:Nat->Bool}{k d:Int}(v:0<=x/\x<g.W)(u:0<=y/\y<g.H)(w:max g.W g.H<=d):Cd g f x y k d=[]:=by unfold Cd Gg;rw[List.filter_filter,List.filter_eq_nil_iff];intro t a b;obtain⟨z,h⟩:=(Fbg).1 b;have e:=(of_decide_eq_true h).1;obtain⟨⟨p,o⟩,n,l⟩:=(Nq c (Fbe.1 a)).1;unfold Cn at e;omega
def yaq{f:Nat->Bool}{k d:Int}(p:¬k∣d):Cd g f x y k d=[]:=by
 unfold Cd Gg;rw[List.filter_filter,List.filter_eq_nil_iff];intro t B o;obtain⟨n,l⟩:=(Fbg).1 o;obtain⟨A,e,c⟩:=of_decide_eq_true l;have e:=Int.dvd_of_tmod_eq_zero e;have c:=Int.dvd_of_tmod_eq_zero c;refine p ?_;rw[<-A];unfold Cn;generalize(t:Int)%g.W-x=a at*;generalize(t:Int)/g.W-y=b at*;have z:=(Int.dvd_neg (a:=k) (b:=a)).2 e;have w:=(Int.dvd_neg (a:=k) (b:=b)).2 c;have mx:∀u v:Int,k∣u->k∣v->k∣max u v:=λu v n l=>by
  by_cases h:u<=v
  .rw[Int.max_eq_right h];exact l
  .rw[Int.max_eq_left Z];exact n
 exact mx _ _ (mx _ _ e z) (mx _ _ c w)
def yao{f:Nat->Bool}{k d:Nat}(n:0<k)(c:k∣d):jk g f x y k (d+k)=jk g f x y k d++Cd g f x y k d:=by
 have:∀e:Nat,e<k->jk g f x y k (d+(e+1))=jk g f x y k d++Cd g f x y k d:=by
  intro e;induction e with
  |zero=>intro _;rfl
  |succ e b=>
   intro o;have l:=b Z;have h:Cd g f x y k ((d+(e+1):Nat):Int)=[]:=yaq λa=>by
    have a:k∣d+(e+1):=by exact_mod_cast a
    have:=(Nat.dvd_add_right c).1 a;have:=Nat.le_of_dvd Z this;omega
   show jk g f x y k (d+(e+1))++Cd g f x y k ((d+(e+1):Nat):Int)=_;rw[l,h,Fbq]
 have:=this (k-1) Z;rw[show k-1+1=k by omega]at this;exact this
def uy(b:zt g){f:Nat->Bool}{size goal:Int}(a:0<=goal/\goal<g.W*g.H){d n:Nat}(h:n<=(jk g f (goal%g.W) (goal/g.W) (2*size+1) d).length\/max g.W g.H<=(d:Int)):
  (jk g f (goal%g.W) (goal/g.W) (2*size+1) d).take n=Fi g f size goal n:=by
 have A:1<=g.W/\g.W<=128:=b.1;have B:1<=g.H/\g.H<=128:=b.2.1;have u:0<=goal%g.W/\goal%g.W<g.W:=⟨Fcl _ Z,Fc2 _ Z⟩
 have t:0<=goal/g.W/\goal/g.W<g.H:=⟨Fb3 a.1 Z,Fd2 Z (by rw[Int.mul_comm];exact a.2)⟩
 unfold Fi;generalize goal%g.W=x at*;generalize goal/g.W=y at*;generalize 2*size+1=k at*;generalize w:(g.W+g.H+1).toNat=m at*;have v:(m:Int)=g.W+g.H+1:=Z
 -- from where nothing comes any more
 have flat:∀c:Nat,max g.W g.H<=(c:Int)->∀e:Nat,jk g f x y k (c+e)=jk g f x y k c:=λc z e=>by
  induction e with
  |zero=>rfl
  |succ e p=>
   show jk g f x y k (c+e)++Cd g f x y k ((c+e:Nat):Int)=_;rw[p,yar b u t Z,Fbq]
 rcases h with h|h
 .by_cases l:d<=m
  .obtain⟨r,o⟩:=zaa g f x y k d (m-d);rw[show d+(m-d)=m by omega]at o;rw[o,Fb6 h]
  .have:=flat m Z (d-m);rw[show m+(d-m)=d by omega]at this;rw[this]
 .by_cases l:d<=m
  .have:=flat d h (m-d);rw[show d+(m-d)=m by omega]at this;rw[this]
  .have:=flat m Z (d-m);rw[show m+(d-m)=d by omega]at this;rw[this]
end
section
variable {n t:Nat} {g:Gnd}
def il(n:Nat)(f:Nat->Int):List AV:=(List.range n).map λt=>int (f t)
theorem xi(n:Nat)(f:Nat->Int):(il n f).length=n:=by simp[il]
theorem Gp{f:Nat->Int}(h:t<n):(il n f)[t]?=Δ (int (f t)):=by simp[il,h]
def vk{f:Nat->Int}(h:t<n):((il n f).drop (0+t*1)).head?=Δ (int (f t)):=by rw[Fb0,show 0+t*1=t by omega,Gp h]
def dk{f:Nat->Bool}(h:t<n):((bl n f).drop (0+t*1)).head?=Δ (bool (f t)):=by rw[Fb0,show 0+t*1=t by omega,Ix h]
theorem Rw(n:Nat):List.replicate n (AV.s (.int .i64 0))=il n λ_=>0:=by unfold il;rw[List.map_const',Fds];rfl
def setI(f:Nat->Int)(t:Nat)(v:Int):Nat->Int:=λs=>if s=t then v else f s
theorem Ng(f:Nat->Int)(t:Nat)(v:Int):setI f t v t=v:=if_pos rfl
theorem Ln(f:Nat->Int){s:Nat}(v:Int)(h:s≠t):setI f t v s=f s:=if_neg h
theorem ya1(f:Nat->Int)(t:Nat):setI f t (f t)=f:=funext λs=>by
 unfold setI;split
 .rename_i h;rw[h]
 .rfl
theorem gr(f:Nat->Int)(t:Nat)(v u:Int):setI (setI f t v) t u=setI f t u:=funext λs=>by unfold setI;split<;>simp_all
theorem zel{f:Nat->Int}(h:t<n)(g:Nat->Int)(a:∀s,s≠t->g s=f s):zu (il n f) t [int (g t)]=il n g:=by
 unfold zu;apply Fcd;intro s;by_cases d:s<t
 .rw[Faq,Far (by rw[Fah,xi];omega),Fb2 d,Gp Z,Gp Z,a s Z]
 .by_cases c:s=t
  .subst c;rw[Faq,Fa0 (by rw[Fah,xi];omega),Fah,xi,show s-min s n=0 by omega,Gp h];rfl
  .rw[Fa0 (by rw[Fad,Fah,xi];simp;omega),Fad,Fah,xi,Fct];by_cases b:s<n
   .have e:t+[int (g t)].length+(s-(min t n+[int (g t)].length))=s:=χ;rw[e,Gp b,Gp b,a s c]
   .rw[Fb4 (by rw[xi];simp;omega),Fb4 θa]
theorem Ij{f:Nat->Int}(h:t<n)(v:Int):zu (il n f) t [int v]=il n (setI f t v):=by have:=zel h (setI f t v) (λs a=>Ln f v a);rw[Ng]at this;exact this
def ilL(n:Nat)(f:Nat->Int):List Int:=(List.range n).map f
theorem Gq(n:Nat)(f:Nat->Int):(ilL n f).length=n:=by simp[ilL]
theorem zeo{f:Nat->Int}(h:t<n):(ilL n f)[t]'(by rw[Gq];exact h)=f t:=by simp[ilL]
theorem zem(n:Nat)(f:Nat->Int):(rws zx (ilL n f)).flatten=il n f:=by
 unfold rws ilL il;rw[List.map_map];generalize List.range n=l;induction l with
 |nil=>rfl
 |cons a l b=>simp only[Fb5,Fej,b];rfl
theorem Ik{f g:Nat->Int}(h:∀t,t<n->f t=g t):il n f=il n g:=Fbw λt a=>by rw[h t (Fbe.1 a)]
theorem py{f g:Nat->Bool}(h:∀t,t<n->f t=g t):bl n f=bl n g:=Fbw λt a=>by rw[h t (Fbe.1 a)]
theorem yt7{f g:Nat->Bool}(h:∀t,t<n->f t=g t):blL n f=blL n g:=Fbw λt a=>h t (Fbe.1 a)
def gv(g:Gnd)(f:Nat->Int)(x y:Int):Int:=if onG g x y then f (tl g x y)else 0
def Bp(g:Gnd)(f:Nat->Int)(x y:Int)(v:Int)(a:List (Int×Int)):Int:=a.foldl (λv d=>min v (gv g f (x+d.1) (y+d.2)+1)) v
def zey(a:zt g){f:Nat->Int}(b:∀t,t<Γ g.T->0<=f t/\f t<=128)(x y:Int):0<=gv g f x y/\gv g f x y<=128:=by
 unfold gv;split
 .rename_i h;exact b _ (Db a h).2.1
 .omega
def li(c:zt g){f:Nat->Int}(e:∀t,t<Γ g.T->0<=f t/\f t<=128)(x y:Int):∀(a:List (Int×Int)) (v:Int),0<=v/\v<=128->0<=Bp g f x y v a/\Bp g f x y v a<=128
 |[],v,b=>b
 |d::r,v,b=>by have:=zey c e (x+d.1) (y+d.2);exact li c e x y r (min v (gv g f (x+d.1) (y+d.2)+1)) Z
def ykq(g:Gnd)(f:Nat->Int)(x y v:Int)(a:List (Int×Int)){i:Nat}(b:i<Γ a):Bp g f x y v (a.take (i+1))=min (Bp g f x y v (a.take i)) (gv g f (x+a[i].1) (y+a[i].2)+1):=by unfold Bp;rw[Fab b,Fdu];rfl
def ya2{f:Nat->Int}(c:∀t,t<n->0<=f t/\f t<=128){v:Int}(a:0<=v/\v<=128):∀s,s<n->0<=setI f t v s/\setI f t v s<=128:=λs b=>by
 unfold setI;split
 .exact a
 .exact c s b
def yoj(c:zt g)(f:Nat->Int)(v:Int){b a:Int}(j:b≠0\/a≠0):gv g (setI f t v) ((t:Int)%g.W+b) ((t:Int)/g.W+a)=gv g f ((t:Int)%g.W+b) ((t:Int)/g.W+a):=by
 unfold gv;split
 .rename_i h;obtain⟨_,_,i,d⟩:=Db c h;refine Ln f v λe=>?_;rw[e]at i d;omega
 .rfl
def Oh:List (Int×Int):=[(-1,0),(-1,-1),(0,-1),(1,-1)]
def Mn:List (Int×Int):=[(1,0),(1,1),(0,1),(-1,1)]
def Lb(d:Int×Int):List AV:=[int d.1,int d.2]
def Mz(g:Gnd)(f:Nat->Int)(a:List (Int×Int))(t:Nat):Nat->Int:=setI f t (Bp g f ((t:Int)%g.W) ((t:Int)/g.W) (f t) a)
def Bl(g:Gnd)(f:Nat->Int):Nat->Nat->Int
 |0=>f
 |i+1=>Mz g (Bl g f i) Oh i
def De(g:Gnd)(f:Nat->Int)(n:Nat):Nat->Nat->Int
 |0=>f
 |j+1=>Mz g (De g f n j) Mn (n-1-j)
def tw(d:zt g){f:Nat->Int}(a:∀t,t<Γ g.T->0<=f t/\f t<=128){b:List (Int×Int)}(c:t<Γ g.T):∀s,s<Γ g.T->0<=Mz g f b t s/\Mz g f b t s<=128:=
 ya2 a (li d a _ _ _ _ (a t c))
def ga(a:zt g){f:Nat->Int}(b:∀t,t<Γ g.T->0<=f t/\f t<=128):∀i,i<=Γ g.T->∀s,s<Γ g.T->0<=Bl g f i s/\Bl g f i s<=128
 |0,_=>b
 |i+1,c=>tw a (ga a b i Z) Z
def t8(a:zt g){f:Nat->Int}(b:∀t,t<Γ g.T->0<=f t/\f t<=128):∀i,i<=Γ g.T->∀s,s<Γ g.T->0<=De g f (Γ g.T) i s/\De g f (Γ g.T) i s<=128
 |0,_=>b
 |i+1,c=>tw a (t8 a b i Z) Z
theorem uc(g:Gnd)(f:Nat->Int):∀i s,i<=s->Bl g f i s=f s
 |0,_,_=>rfl
 |i+1,s,h=>by show setI _ i _ s=_;rw[Ln _ _ Z,uc g f i s Z]
theorem Vl(g:Gnd)(f:Nat->Int):∀i s,s<i->Bl g f i s=Bl g f (s+1) s
 |0,_,h=>absurd h (Fav _)
 |i+1,s,h=>by
  by_cases e:s=i
  .subst e;rfl
  .show setI _ i _ s=_;rw[Ln _ _ e,Vl g f i s Z]
theorem tz(g:Gnd)(f:Nat->Int)(n:Nat):∀j s,s+j<n->De g f n j s=f s
 |0,_,_=>rfl
 |j+1,s,h=>by show setI _ (n-1-j) _ s=_;rw[Ln _ _ Z,tz g f n j s Z]
theorem Vk(g:Gnd)(f:Nat->Int)(n:Nat):∀j s,s<n->j<=n->n<=s+j->De g f n j s=De g f n (n-1-s+1) s
 |0,s,h,_,a=>absurd a Z
 |j+1,s,h,b,a=>by
  by_cases e:s=n-1-j
  .have:j+1=n-1-s+1:=Z;rw[this]
  .show setI _ (n-1-j) _ s=_;rw[Ln _ _ e,Vk g f n j s h Z Z]
theorem yks(g:Gnd)(f:Nat->Int)(x y v:Int):Bp g f x y v Oh=m5 v (gv g f (x-1) y) (gv g f (x-1) (y-1)) (gv g f x (y-1)) (gv g f (x+1) (y-1)):=by unfold Bp Oh m5;simp only[Fc6,List.foldl_nil,Fb8,<-Fdq]
theorem ykr(g:Gnd)(f:Nat->Int)(x y v:Int):Bp g f x y v Mn=m5 v (gv g f (x+1) y) (gv g f (x+1) (y+1)) (gv g f x (y+1)) (gv g f (x-1) (y+1)):=by unfold Bp Mn m5;simp only[Fc6,List.foldl_nil,Fb8,<-Fdq]
def Ge(g:Gnd)(o:Nat->Bool):Nat->Int:=De g (Bl g (λt=>if o t then 128 else 0) (Γ g.T)) (Γ g.T) (Γ g.T)
theorem yho(i:zt g)(o:Nat->Bool)(M:t<Γ g.T)(s:Nat)(P:s<=127):(s:Int)<Ge g o t↔sqP g o s ((t:Int)%g.W) ((t:Int)/g.W):=by
 have X:1<=g.W:=i.1.1;obtain⟨K,R⟩:=Nq i M
 have key:=ytn (g:=g) (f:=o) (A:=gv g (Bl g (λt=>if o t then 128 else 0) (Γ g.T))) (B:=gv g (Ge g o))
  (λx y h=>if_neg h) (λx y h=>if_neg h) (λx y h=>?_) (λx y h=>?_) K s P
 .rw[<-key];unfold gv;rw[if_pos K,R]
 .obtain⟨V,I,H,v⟩:=Db i h;have nb:∀a b:Int,(b=-1\/b=0/\a=-1)->a<=1->gv g (Bl g (λt=>if o t then 128 else 0) (tl g x y)) (x+a) (y+b)=gv g (Bl g (λt=>if o t then 128 else 0) (Γ g.T)) (x+a) (y+b):=λa b C L=>by
   unfold gv;split
   .rename_i p;obtain⟨u,w,U,G⟩:=Db i p;have l:tl g (x+a) (y+b)<tl g x y:=by
     have S:=h.1;have D:=p.1;rcases C with rfl|⟨rfl,rfl⟩
     .have:g.W*(y+-1)=g.W*y-g.W:=by rw[Fdx];omega
      rw[this]at u;have z:(tl g (x+a) (y+-1):Int)≠tl g x y:=λe=>by rw[e,v]at G;omega
      omega
     .rw[Fb8]at u⊢;omega
    rw[Vl g _ _ _ l,Vl g _ _ _ w]
   .rfl
  have E:gv g (Bl g (λt=>if o t then 128 else 0) (Γ g.T)) x y=Bp g (Bl g (λt=>if o t then 128 else 0) (tl g x y)) x y (if o (tl g x y)then 128 else 0) Oh:=by unfold gv;rw[if_pos h,Vl g _ _ _ I];show setI _ _ _ _=_;rw[Ng,H,v,uc g _ _ _ (Fai _)]
  rw[E,yks];have d:=nb (-1) 0 Z ψ;have k:=nb (-1) (-1) Z ψ;have c:=nb 0 (-1) Z ψ;have j:=nb 1 (-1) Z ψ;rw[Fb8]at d c;rw[<-Fdq]at d k c j;rw[<-Fdq]at k;rw[d,k,c,j]
 .obtain⟨V,I,H,v⟩:=Db i h;have Q:Γ g.T-1-(Γ g.T-1-tl g x y)=tl g x y:=Z;unfold Ge;generalize hF:Bl g (λt=>if o t then 128 else 0) (Γ g.T)=F;have nb:∀a b:Int,(b=1\/b=0/\a=1)->-1<=a->gv g (De g F (Γ g.T) (Γ g.T-1-tl g x y)) (x+a) (y+b)=gv g (De g F (Γ g.T) (Γ g.T)) (x+a) (y+b):=λa b C L=>by
   unfold gv;split
   .rename_i p;obtain⟨u,w,U,G⟩:=Db i p;have l:tl g x y<tl g (x+a) (y+b):=by
     have S:=h.1;have D:=p.1;rcases C with rfl|⟨rfl,rfl⟩
     .have:g.W*(y+1)=g.W*y+g.W:=by rw[Fdx];omega
      rw[this]at u;have z:(tl g (x+a) (y+1):Int)≠tl g x y:=λe=>by rw[e,v]at G;omega
      omega
     .rw[Fb8]at u⊢;omega
    rw[Vk g _ _ _ _ w Z Z,Vk g _ _ _ _ w (Fai _) Z]
   .rfl
  have E:gv g (De g F (Γ g.T) (Γ g.T)) x y=Bp g (De g F (Γ g.T) (Γ g.T-1-tl g x y)) x y (gv g F x y) Mn:=by unfold gv;rw[if_pos h,if_pos h,Vk g _ _ _ _ I (Fai _) Z];show setI _ _ _ _=_;rw[Q,Ng,H,v,tz g _ _ _ _ Z]
  rw[E,ykr];have d:=nb 1 0 Z ψ;have k:=nb 1 1 Z ψ;have c:=nb 0 1 Z ψ;have j:=nb (-1) 1 Z ψ;rw[Fb8]at d c;rw[<-Fdq]at j;rw[d,k,c,j]
def sqB(g:Gnd)(f:Nat->Bool)(s:Nat)(x y:Int):Bool:=(List.range (2*s+1)).all λa=>(List.range (2*s+1)).all λb=>decide (onG g (x-s+a) (y-s+b))&&f (tl g (x-s+a) (y-s+b))
theorem uo{f:Nat->Bool}{s:Nat}{x y:Int}:sqB g f s x y=true↔sqP g f s x y:=by
 unfold sqB;rw[Fcm];constructor
 .intro h a b h1 h2 h3 h4;have h5:=h (a+s).toNat (Fbe.2 Z);rw[Fcm]at h5;have h6:=h5 (b+s).toNat (Fbe.2 Z);rw[show x-s+((a+s).toNat:Int)=x+a by omega,show y-s+((b+s).toNat:Int)=y+b by omega,Fbg]at h6;exact⟨of_decide_eq_true h6.1,h6.2⟩
 .intro h a ha;have ha:=Fbe.1 ha;rw[Fcm];intro b hb;have hb:=Fbe.1 hb;have:=h (a-s) (b-s) Z Z Z Z;rw[show x-s+(a:Int)=x+(a-s) by omega,show y-s+(b:Int)=y+(b-s) by omega,Fbg];exact⟨decide_eq_true this.1,this.2⟩
def zn(g:Gnd)(l:List Bld)(c s:Int)(t:Nat):Bool:=sqB g (yp g l c) s.toNat ((t:Int)%g.W) ((t:Int)/g.W)
theorem yoz(b:zt g)(l:List Bld)(c:Int){s:Int}(d:0<=s/\s<=3)(a:t<Γ g.T):decide (s<Ge g (yp g l c) t)=zn g l c s t:=by rw[Fbm,decide_eq_true_iff];unfold zn;rw[uo,<-yho b _ a _ Z];omega
def Fw(g:Gnd)(l:List Bld)(c s:Int):AV:=lst 1 jm (blL (Γ g.T) (zn g l c s))
end
end Go.V
