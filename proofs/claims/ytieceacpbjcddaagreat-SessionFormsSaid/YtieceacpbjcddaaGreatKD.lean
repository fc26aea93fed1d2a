/- Ground of laws of thronglaw30: contracts and plain lemmas; no condition beyond the row's own. -/
import Derived.Shelf.Sort.Plain
import Derived.Shelf.Slices.SearchI
import Derived.Shelf.Slices.Empties
import Derived.Shelf.Slices.Delete
import Derived.Shelf.Slices.In.SortNone
import Derived.Shelf.Spec.SlicesInsertGrow
import Derived.Shelf.Spec.BitsCarry
import Derived.Test.YtieceacpbjcddaaGreatKC
set_option linter.unusedSimpArgs false
set_option linter.unusedVariables false
set_option linter.defProp false
namespace Go.V
section
variable {P:Program} {c:Cfg} {w:World} {st:Store} {Oth M:Nat->Nat->Prop}
theorem Vo(sto:StoreOK st Oth M w)(new:Obj){y:AObj}(hy:ObjRel (w.alloc new) (λb o=>xu M w.heap.size b o\/Oth b o) y w.heap.size):
    Fresh st w.heap.size/\StoreOK (st.sO w.heap.size y) Oth (xu M w.heap.size) (w.alloc new)/\Chg M w (xu M w.heap.size) (w.alloc new):=by
  refine⟨sto.fresh (Fah _),?_,F7 w new M⟩
  have h:=sto.alloc new
  refine{obj:=λb z hz=>?_,tok:=h.tok,mlt:=h.mlt,olt:=h.olt,dis:=h.dis}
  by_cases hb:b=w.heap.size
  · subst hb
    rw[zc]at hz
    cases hz
    exact⟨hy,λo=>.inr rfl⟩
  · rw[zf hb]at hz
    exact h.obj b z hz
theorem F9{o:Oper}{t:TypeId}(ho:o.op=.makeMap t none){R:Ja}
    (h:∀b,Fresh st b->R (.s (.map (some b))) (st.sO b (.map [] [] 0))):AEff P c o [] st R:=by
  refine⟨λOth M w ρ hI sto hr=>?_⟩
  have hrun:(execOp ρ o).run P w=.ok (.value (.map (some w.heap.size))) (w.alloc (.map #[] 0)):=by
    simp[execOp,ho,Instr.makeMap]
  rw[hrun]
  obtain⟨h1,h2,h3⟩:=Vo sto (.map #[] 0) (y:=.map [] [] 0) ⟨#[],F0 w _,rfl,λi x y hx=>by simp,rfl,by simp,List.Pairwise.nil⟩
  exact⟨_,_,_,h _ h1,.s _,h2,h3⟩
def Bi(es:List (AV×AV))(bs:List Nat)(clk:Nat)(q:AV×AV->Bool):AObj:=
  match es.findIdx? q with
  |some i=>.map (es.eraseIdx i) (bs.eraseIdx i) clk
  |none=>.map es bs clk
theorem getElem?_eraseIdx'{α:Type}(l:List α)(i j:Nat):(l.eraseIdx i)[j]?=if j<i then l[j]? else l[j+1]?:=List.getElem?_eraseIdx
theorem Pd{α β:Type}(f:α->β):∀(l:List α) (i:Nat),(l.map f).eraseIdx i=(l.eraseIdx i).map f
  |[],_=>rfl
  |_::_,0=>rfl
  |a::l,i+1=>by simp[Pd f l i]
theorem P0{o:Oper}{cl:Call}{t kt e:TypeId}{x ix:Operand}(ho:o.op=.call cl)(hcl:cl.callee=.builtin .delete)(hargs:cl.args=#[x,ix])(hat:cl.argTypes[0]?=some t)
    {it ik:TI} (hit:c.I t=some it) (hty:it.ty=.map kt e) (hik:c.I kt=some ik)
    {m clk:Nat} {es:List (AV×AV)} {bs:List Nat} {k:AV} (hm:st.obj m=some (.map es bs clk)) (hk:Lg c.I kt k=true) (q:AV×AV->Bool) (hq:∀e∈es,Cf c.I 5 kt k e.1=some (q e))
    {R:Ja} (h:R (.tup []) (st.sO m (Bi es bs clk q))):AEff P c o [.s (.map (some m)),k] st R:=by
  refine⟨λOth M w ρ hI sto hr=>?_⟩
  have hops:o.op.operands=#[x,ix]:=by grind[Op.operands,Call.operands]
  rw[hops]at hr
  have hr:Reads w (λb o=>M b o\/Oth b o) [.s (.map (some m)),k] [ρ x,ρ ix]:=by grind
  obtain⟨u,v',he,h1,h2⟩:=Ia hr
  simp only[Fb8,and_true]at he
  obtain⟨hu,hv⟩:=he
  rw[<-hu]at h1
  rw[<-hv]at h2
  have h1:=VRel.eq_s h1
  obtain⟨⟨ms,g1,g2,g3,g4,g5,g6⟩,hM⟩:=sto.obj m _ hm
  obtain⟨r,r1,r2⟩:=Wr (kt:=kt) (k:=k) (kv:=ρ ix) hI h2 q (es:=es) (ms:=ms.toList) (by omega) (λi x y hx hy=>(g3 i x y hx (by grind)).1) hq (by grind)
  have hck:=bm hI hk h2 ms.isEmpty
  have hund:=z8 (P:=P) (Gg (hI _ _ hit) hty)
  have hexec:(execOp ρ o).run P w=((Builtin.delete_ cl.argTypes o.type #[ρ x,ρ ix]).run P w).andThen λv w'=>.ok (.value v) w':=by simp_all[execOp,resolve,invoke,builtin]
  have done:∀w',(execOp ρ o).run P w=.ok (.value (.tuple #[])) w'->(StoreOK (st.sO m (Bi es bs clk q)) Oth M w'/\Chg M w M w')->
      match(execOp ρ o).run P w with
      |.ok (.value v) w'=>qh st R Oth M w v w'
      |.ok .skip w'=>o.dst=none/\qh st R Oth M w (.tuple #[]) w'
      |_=>False:=by
    intro w' hrun hok
    rw[hrun]
    exact⟨_,_,M,h,js Reads.nil,hok.1,hok.2⟩
  rcases r2 with⟨rfl,r3⟩|⟨i,en,me,rfl,r3,r4,r5,r6⟩
  · refine done {w with heap:=w.heap.setIfInBounds m (.map ms clk)} ?_ ?_
    · rw[hexec]
      simp[Builtin.delete_,hat,hund,h1,Aa g1,hck,r1,Ky _ g1]
    · refine Hy sto hm g1 trivial trivial ?_
      unfold Bi
      rw[r3]
      have hkp:=Hb (new:=.map ms clk) g1 trivial trivial (λb o=>M b o\/Oth b o)
      exact⟨_,Ir _ g1,g2,λi x' y' hx hy=>⟨(g3 i x' y' hx hy).1.keep hkp,(g3 i x' y' hx hy).2.keep hkp⟩,g4,g5,g6⟩
  · refine done {w with heap:=w.heap.setIfInBounds m (.map (ms.eraseIdxIfInBounds i) clk)} ?_ ?_
    · rw[hexec]
      simp[Builtin.delete_,hat,hund,h1,Aa g1,hck,r1,Ky _ g1]
    · refine Hy sto hm g1 trivial trivial ?_
      unfold Bi
      rw[r3]
      have hkp:=Hb (new:=.map (ms.eraseIdxIfInBounds i) clk) g1 trivial trivial (λb o=>M b o\/Oth b o)
      have hi:i<ms.size:=by grind
      have htl:(ms.eraseIdxIfInBounds i).toList=ms.toList.eraseIdx i:=by simp
      have hsub:(bs.eraseIdx i).Sublist bs:=List.eraseIdx_sublist ..
      refine⟨_,Ir _ g1,?_,λj x' y' hx hy=>?_,?_,λt ht=>g5 t (hsub.subset ht),g6.sublist hsub⟩
      · grind
      · have hy:(ms.toList.eraseIdx i)[j]?=some y':=by grind
        rw[getElem?_eraseIdx']at hx hy
        by_cases hj:j<i
        · rw[if_pos hj]at hx hy
          have:=g3 j x' y' hx (by grind)
          exact⟨this.1.keep hkp,this.2.keep hkp⟩
        · rw[if_neg hj]at hx hy
          have:=g3 (j+1) x' y' hx (by grind)
          exact⟨this.1.keep hkp,this.2.keep hkp⟩
      · rw[htl,g4,Pd]
theorem yeu{o:Oper}{t kt e:TypeId}{x:Operand}(ho:o.op=.range t x){it:TI}(hit:c.I t=some it)(hty:it.ty=.map kt e)
    {m clk:Nat} {es:List (AV×AV)} {bs:List Nat} (hm:st.obj m=some (.map es bs clk)) {R:Ja}
    (h:∀b,Fresh st b->R (.s (.pointer (some ⟨b,0,none⟩))) (st.sO b (.iter m clk [] clk))):AEff P c o [.s (.map (some m))] st R:=by
  refine⟨λOth M w ρ hI sto hr=>?_⟩
  rw[ho]at hr
  have hr:Reads w (λb o=>M b o\/Oth b o) [.s (.map (some m))] [ρ x]:=by simpa [Op.operands]using hr
  obtain⟨u,he,h1⟩:=K1 hr
  simp only[Fb8,and_true]at he
  rw[<-he]at h1
  have h1:=VRel.eq_s h1
  obtain⟨⟨ms,g1,g2⟩,hM⟩:=sto.obj m _ hm
  have hund:=z8 (P:=P) (Gg (hI _ _ hit) hty)
  have hrun:(execOp ρ o).run P w=.ok (.value (.pointer (some ⟨w.heap.size,0,none⟩))) (w.alloc (.mapIter (some m) clk #[] clk)):=by
    simp[execOp,ho,Instr.range,hund,h1,Aa g1]
  rw[hrun]
  obtain⟨h2,h3,h4⟩:=Vo sto (.mapIter (some m) clk #[] clk) (y:=.iter m clk [] clk) (F0 w _)
  exact⟨_,_,_,h _ h2,.s _,h3,h4⟩
theorem zs8(n:Nat)(hn:0<n)(w:World):∃i w',i<n/\Grow w w'/\w'.heap=w.heap/\(choose (.mapNext n)).run P w=.ok i w':=by
  by_cases h1:n<=1
  · refine⟨0,w,hn,Grow.refl w,rfl,?_⟩
    simp_all[Question.forced]
  · refine⟨w.tape w.drawn (.mapNext n)%n,w.drew,Nat.mod_lt _ hn,Grow.drew w,rfl,?_⟩
    simp only[choose,Sem.run]
    rw[if_neg (by simpa [Question.forced]using h1)]
    rfl
theorem yev{o:Oper}{x:Operand}(ho:o.op=.next x false)
    {b m clk:Nat} {es:List (AV×AV)} {bs seen:List Nat} (hb:st.obj b=some (.iter m clk seen clk)) (hm:st.obj m=some (.map es bs clk)) {R:Ja}
    (h1:(∀t∈bs,t∈seen)->R (.tup [.s (.bool false)]) st)
    (h2:∀(i:Nat) (e:AV×AV) (t:Nat),es[i]?=some e->bs[i]?=some t->t∉seen->R (.tup [.s (.bool true),e.1,e.2]) (st.sO b (.iter m clk (seen++[t]) clk))):AEff P c o [.s (.pointer (some ⟨b,0,none⟩))] st R:=by
  refine⟨λOth M w ρ hI sto hr=>?_⟩
  rw[ho]at hr
  have hr:Reads w (λb o=>M b o\/Oth b o) [.s (.pointer (some ⟨b,0,none⟩))] [ρ x]:=by simpa [Op.operands]using hr
  obtain⟨u,he,hx⟩:=K1 hr
  simp only[Fb8,and_true]at he
  rw[<-he]at hx
  have hx:=VRel.eq_s hx
  obtain⟨⟨ms,g1,g2,g3,g4,g5,g6⟩,hM⟩:=sto.obj m _ hm
  obtain⟨hit,hMb⟩:=sto.obj b _ hb
  have hit:w.heap[b]?=some (.mapIter (some m) clk seen.toArray clk):=hit
  have born:∀y∈ms,y.born<clk:=λy hy=>g5 _ (by grind)
  have hall:(!seen.toArray.isEmpty&& !ms.isEmpty&&ms.all (λe=>decide (e.born>=clk)))=false:=by
    cases hms:ms.isEmpty with
    |true=>simp
    | false=>
      have hne:0<ms.size:=by grind
      grind
  have hnew:(Array.filter (λe=> !seen.toArray.contains e.born) ms).filter (λe=>decide (e.born>=clk))=#[]:=by grind[Array.filter_eq_empty_iff]
  have hold:(Array.filter (λe=> !seen.toArray.contains e.born) ms).filter (λe=>decide (e.born<clk))=Array.filter (λe=> !seen.toArray.contains e.born) ms:=by grind[Array.filter_eq_self]
  have hgo:(getObj b).run P w=.ok (.mapIter (some m) clk seen.toArray clk) w:=by simp[getObj,Sem.run,hit]
  generalize hleft:Array.filter (λe=> !seen.toArray.contains e.born) ms=left at hnew hold
  have hlm:∀y∈left,y∈ms/\y.born∉seen:=by grind
  let cands:Array (Option MapEntry):=(if left.isEmpty then #[none]else #[])++(left++#[]).map some
  have hcs:0<cands.size:=by grind
  obtain⟨i,w1,hi,hg,hheap,hch⟩:=zs8 (P:=P) cands.size hcs w
  have hexec:(execOp ρ o).run P w=((Instr.next (ρ x) false o.type).run P w).andThen λv w'=>.ok (.value v) w':=by
    simp[execOp,ho]
  cases hl:left.isEmpty with
  | true=>
    have hc0:cands=#[none]:=by
      have:left=#[]:=by simpa using hl
      simp[cands,this]
    have hi0:i=0:=by rw[hc0]at hi;simpa using hi
    have hrun:(execOp ρ o).run P w=.ok (.value (.tuple #[.bool false])) w1:=by
      rw[hexec]
      simp only[Instr.next,hx,Sem.run_bind,hgo,Result.andThen_ok,Aa g1,hall,Fai,if_false,hleft,hold,hnew,Sem.run_pure]
      show((((choose (.mapNext cands.size)).run P w).andThen _).andThen _)=_
      rw[hch]
      simp only[Result.andThen_ok]
      rw[show((if left.isEmpty=true then #[none]else #[])++Array.map some (left++#[]):Array (Option MapEntry))=cands from rfl,hc0,hi0]
      simp
    rw[hrun]
    refine⟨_,st,M,h1 λt ht=>?_,js (Reads.cons (.s _) Reads.nil),sto.grow hg,hg.chg M⟩
    rw[g4]at ht
    obtain⟨y,hy,rfl⟩:=Fae.1 ht
    have hle:left=#[]:=by simpa using hl
    rw[<-hleft,Array.filter_eq_empty_iff]at hle
    have:=hle _ (Array.mem_toList_iff.1 hy)
    simpa using this
  | false=>
    have hce:cands=left.map some:=by simp[cands,hl]
    have hil:i<left.size:=by rw[hce]at hi;simpa using hi
    have hcg:cands[i]?=some (some left[i]):=by rw[hce];simp[hil]
    have hgo1:w1.heap[b]?=some (.mapIter (some m) clk seen.toArray clk):=by rw[hheap];exact hit
    have hset:∀ob:Obj,(setObj b ob).run P w1=.ok () {w1 with heap:=w1.heap.setIfInBounds b ob}:=λob=>by simp[setObj,Sem.run,hgo1]
    have hrun:(execOp ρ o).run P w=.ok (.value (.tuple #[.bool true,left[i].key,left[i].val])) {w1 with heap:=w1.heap.setIfInBounds b (.mapIter (some m) clk (seen.toArray.push left[i].born) clk)}:=by
      rw[hexec]
      simp only[Instr.next,hx,Sem.run_bind,hgo,Result.andThen_ok,Aa g1,hall,Fai,if_false,hleft,hold,hnew,Sem.run_pure]
      show((((choose (.mapNext cands.size)).run P w).andThen _).andThen _)=_
      rw[hch]
      simp only[Result.andThen_ok]
      rw[show((if left.isEmpty=true then #[none]else #[])++Array.map some (left++#[]):Array (Option MapEntry))=cands from rfl,hcg]
      simp only[Sem.run_bind,hset,Result.andThen_ok,Sem.run_pure]
    rw[hrun]
    obtain⟨hlm1,hlm2⟩:=hlm left[i] (by simp)
    obtain⟨j,hj,hje⟩:=Array.mem_iff_getElem.1 hlm1
    have hjs:j<es.length:=by omega
    have hms:ms[j]?=some left[i]:=by rw[Fa9 hj,hje]
    have hrel:=g3 j es[j] left[i] (Fab hjs) hms
    have hbs:bs[j]?=some left[i].born:=by
      rw[g4,Fam,Fcs,hms];rfl
    have sto1:=sto.grow hg
    have hk1:=hg.keeps (λb o=>M b o\/Oth b o)
    have hk2:=Hb (new:=.mapIter (some m) clk (seen.toArray.push left[i].born) clk) hgo1 trivial trivial (λb o=>M b o\/Oth b o)
    obtain⟨s1,s2⟩:=Hy (y:=.iter m clk (seen++[left[i].born]) clk) sto1 hb hgo1 trivial trivial (new:=.mapIter (some m) clk (seen.toArray.push left[i].born) clk) (by
      show _=_
      rw[Ir _ hgo1]
      simp)
    exact⟨_,_,M,h2 j es[j] left[i].born (Fab hjs) hbs hlm2,
      js (Reads.cons (.s _) (Reads.cons ((hrel.1.keep hk1).keep hk2) (Reads.cons ((hrel.2.keep hk1).keep hk2) Reads.nil))),s1,(hg.chg M).trans s2⟩
end
section
variable {P:Program} {c:Cfg} {w:World} {st:Store} {Oth M:Nat->Nat->Prop}
theorem Au(sto:StoreOK st Oth M w){b o:Nat}{l xs:List AV}{vs:List Value}{w':World}(hk:st.obj b=some (.cells l))
    (hx:Reads w (λb o=>M b o\/Oth b o) xs vs) (hw:Wrote w b o vs w'):StoreOK (st.sO b (.cells (zt l o xs))) Oth M w'/\Chg M w M w':=by
  have hM:=(sto.obj b _ hk).2
  have hT:∀o,M b o\/Oth b o:=λo=>.inl (hM o)
  refine⟨{obj:=λb' x hx'=>?_,tok:=λb' top ht=>?_,mlt:=λb' o' hm=>?_,olt:=λb' o' hm=>?_,dis:=sto.dis},hw.chg hM⟩
  · by_cases he:b'=b
    · subst he
      rw[zc]at hx'
      cases hx'
      exact⟨CellsRel.wrote hw hT (sto.obj b' _ hk).1 hx,hM⟩
    · rw[zf he]at hx'
      exact⟨ObjRel.same (sto.obj b' x hx').1 (hw.keeps hT) (hw.other b' he),(sto.obj b' x hx').2⟩
  · obtain⟨c,e,fr,h1,h2,h3,h4⟩:=sto.tok b' top ht
    by_cases he:b'=b
    · subst he
      obtain⟨c',h5,_,h6⟩:=hw.blk c e fr h1
      grind
    · exact⟨c,e,fr,by rw[hw.other b' he];exact h1,h2,h3,h4⟩
  · rw[hw.size];exact sto.mlt b' o' hm
  · rw[hw.size];exact sto.olt b' o' hm
theorem Dr(sto:StoreOK st Oth M w)(cs:Array Value)(e:TypeId){l:List AV}(h:Reads w (λb o=>M b o\/Oth b o) l cs.toList):
    Fresh st w.heap.size/\StoreOK (st.sO w.heap.size (.cells l)) Oth (xu M w.heap.size) (w.alloc (.cells cs e))/\Chg M w (xu M w.heap.size) (w.alloc (.cells cs e)):=
  Vo sto (.cells cs e) (y:=.cells l) (L8 w e M Oth h)
theorem yau{T:Nat->Nat->Prop}{b n cap k:Nat}{l:List AV}(h:CellsRel w T l b)(hn:n*k<=l.length):
    ∃new:Array Value,Reads w T (l.take (n*k)) new.toList/\new.size=n*k/\∀w',w'.heap=w.heap->(Builtin.firstCells k n (.slice (some ⟨b,0,none⟩) n cap)).run P w'=.ok new w':=by
  obtain⟨c,e,fr,h1,h2,h3,h4⟩:=h
  have hsz:n*k<=c.size:=by omega
  refine⟨((List.range' 0 (n*k)).map λi=>c.getD i undef).toArray,?_,by simp,λw' hw=>?_⟩
  · refine⟨by grind,λi x y hx hy=>?_⟩
    have hi:i<n*k:=by grind
    rw[Fbs hi]at hx
    simp[hi]at hy
    grind
  · have:=H7 (P:=P) ⟨b,0,none⟩ w' (λi=>c.getD i undef) (n*k) 0 #[] (λp _ hp=>by
      rw[ki,Wd hw]
      simp only[World.cell?,h1]
      have:p<c.size:=by omega
      simp[this])
    grind[Builtin.firstCells,loadCells]
theorem lu{T:Nat->Nat->Prop}{xs:List AV}{vs:List Value}(h:Reads w T xs vs)(h1:∀x∈xs,x.one=true):∀v∈vs,ql v=true:=by
  intro v hv
  obtain⟨i,hi⟩:=Fay.1 hv
  have hlt:i<xs.length:=by rw[h.1];grind
  exact Vh (h.2 i xs[i] v (Fab hlt) hi) (h1 _ (Faa hlt))
theorem ck{e:TypeId}{ie:TI}(hie:c.I e=some ie){b n cap:Nat}{l:List AV}{x:AV}{rows:List (List AV)}(ho:st.obj b=some (.cells l))(hcap:cap*ie.size<=l.length)(hn:n<=cap)
    (hx:jv ie.size (.av x)=some rows) (hroom:room (n+rows.length) ie.bytes) {K:Ja}
    (h1:n+rows.length<=cap->K (.s (.slice (some ⟨b,0,none⟩) (n+rows.length) cap)) (st.sO b (.cells (zt l (n*ie.size) rows.flatten))))
    (h2:cap<n+rows.length->∀b' cap',Fresh st b'->n+rows.length<=cap'->cap'<=9223372036854775807->K (.s (.slice (some ⟨b',0,none⟩) (n+rows.length) cap')) (st.sO b' (.cells (l.take (n*ie.size)++rows.flatten++List.replicate ((cap'-(n+rows.length))*ie.size) .any)))):
    AppX P c st e (.s (.slice (some ⟨b,0,none⟩) n cap)) x K:=by
  refine⟨⟨ie,hie⟩,λie' hie' Oth M w sv xv argTypes ty args t sto hs hxv hat ht1 hu hti h0 h1'=>?_⟩
  rw[hie]at hie'
  cases hie'
  have hs:=VRel.eq_s hs
  subst hs
  have A:AppArgs P c argTypes args t e ie (some ⟨b,0,none⟩) n cap xv:=⟨hat,ht1,hu,hti,h0,h1'⟩
  obtain⟨hl1,hl2,new,hnew,hone,hnsz,hfc⟩:=H0 (P:=P) (β:=λ_=>0) (k:=ie.size) (x:=.av x) hxv hx
  have hnn:n*ie.size<=l.length:=Fcj (Fa5 _ hn) hcap
  by_cases hc:n+rows.length<=cap
  · obtain⟨⟨cs,e0,fr,hb0,huf,hlen,hrel⟩,hM⟩:=sto.obj b _ ho
    have hfit:n*ie.size+new.toList.length<=cs.size:=by
      rw[Fck,hnsz,<-Fcp,<-hlen]
      exact Fcj (Fa5 _ hc) hcap
    obtain⟨w',hw1,hw2⟩:=Kx (P:=P) w b (n*ie.size) new.toList 0 w cs e0 fr hb0 (.inl huf) hfit hone
    have hrun:=Mc (w':=w') ty A hl1 (hfc w rfl) hc (λa ha=>by
      cases ha
      rw[ki,Fbm];exact hw1) (λh=>by cases h)
    obtain⟨k1,k2⟩:=Au sto ho hnew hw2
    exact⟨_,_,hrun,_,_,M,h1 hc,.s _,k1,k2⟩
  · have hc:cap<n+rows.length:=by omega
    obtain⟨old,hold1,hold2,hold3⟩:=yau (P:=P) (cap:=cap) (sto.obj b _ ho).1 hnn
    obtain⟨newCap,rest,g1,g0,g2,g3⟩:=Kd ty A hl1 (hfc w.drew rfl) (hold3 w.drew rfl) hc hroom
    have gd:Grow w w.drew:=Grow.drew w
    have sto1:=sto.grow gd
    obtain⟨f1,f2,f3⟩:=Dr sto1 (old++new++rest) e (l:=l.take (n*ie.size)++rows.flatten++List.replicate rest.size .any) (by
      rw[Fbf,Fbf]
      refine((hold1.append hnew).append ⟨by simp,λi x y hx hy=>?_⟩).keep (gd.keeps _)
      rw[Fbq]at hx
      split at hx
      · cases hx;exact .any _
      grind)
    have e1:w.drew.heap.size=w.heap.size:=rfl
    rw[g2]at f2
    exact⟨_,_,g3,_,_,_,h2 hc _ newCap f1 g1 g0,.s _,f2,(gd.chg M).trans f3⟩
theorem tg{e:TypeId}{ie:TI}(hie:c.I e=some ie){x:AV}{rows:List (List AV)}(hx:jv ie.size (.av x)=some rows)(hroom:room rows.length ie.bytes)(hne:0<rows.length){K:Ja}
    (h2:∀b' cap',Fresh st b'->rows.length<=cap'->cap'<=9223372036854775807->K (.s (.slice (some ⟨b',0,none⟩) rows.length cap')) (st.sO b' (.cells (rows.flatten++List.replicate ((cap'-rows.length)*ie.size) .any)))):
    AppX P c st e (.s (.slice none 0 0)) x K:=by
  refine⟨⟨ie,hie⟩,λie' hie' Oth M w sv xv argTypes ty args t sto hs hxv hat ht1 hu hti h0 h1'=>?_⟩
  rw[hie]at hie'
  cases hie'
  have hs:=VRel.eq_s hs
  subst hs
  have A:AppArgs P c argTypes args t e ie none 0 0 xv:=⟨hat,ht1,hu,hti,h0,h1'⟩
  obtain⟨hl1,hl2,new,hnew,hone,hnsz,hfc⟩:=H0 (P:=P) (β:=λ_=>0) (k:=ie.size) (x:=.av x) hxv hx
  obtain⟨newCap,rest,g1,g0,g2,g3⟩:=Kd (old:=#[]) ty A hl1 (hfc w.drew rfl) (by rfl) (by omega) (by grind)
  have gd:Grow w w.drew:=Grow.drew w
  have sto1:=sto.grow gd
  obtain⟨f1,f2,f3⟩:=Dr sto1 (#[]++new++rest) e (l:=rows.flatten++List.replicate rest.size .any) (by
    rw[Fbf,Fbf]
    refine((show Reads w _ rows.flatten ([]++new.toList)from hnew).append ⟨by simp,λi x y hx hy=>?_⟩).keep (gd.keeps _)
    rw[Fbq]at hx
    split at hx
    · cases hx;exact .any _
    grind)
  rw[g2]at f2
  simp only[Fbm]at g1 g3 f2
  exact⟨_,_,g3,_,_,_,h2 _ newCap f1 g1 g0,.s _,f2,(gd.chg M).trans f3⟩
def Ints(st:Store)(v:AV)(ns:List Int):Prop:=
  (v=.s (.slice none 0 0)/\ns=[])\/∃b cap L,v=.s (.slice (some ⟨b,0,none⟩) ns.length cap)/\st.obj b=some (.cells (ns.map (λn=>AV.s (.int .i64 n))++L))/\ns.length<=cap/\cap<=ns.length+L.length/\cap<=9223372036854775807
end
open Go.Proofs Go.Shelf Go.Sort Go.RowKit
section
variable {P:Program} {ρ:Ren} {w:World} {st:Store} {Oth M:Nat->Nat->Prop}
def vI(n:Int):Value:=.int .i64 n
def aI(n:Int):AV:=.s (.int .i64 n)
theorem Cr(T:Nat->Nat->Prop)(ns:List Int):Reads w T (ns.map aI) (ns.map vI):=by
  have:=Reads.map_s (w:=w) (T:=T) (ns.map vI)
  rwa [List.map_map]at this
theorem cr{w:World}{b q:Nat}{c:Array Value}{e:TypeId}{fr:Nat×Nat}(hb:w.heap[b]?=some (.cells c e fr))(ns:List Int)(hl:ns.length<=c.size):
    Wrote w b 0 (ns.map vI) (putRow (Value.int .i64) (Sort.ahead w q) b 0 ns.toArray) where
  size:=by simp
  other b' hne:=by simp_all[putRow,mapBlock,Fcf,Ne.symm]
  blk c' e' fr' h:=by
    rw[hb]at h
    cases h
    refine⟨putCells (Value.int .i64) 0 ns.toArray c,?_,?_,by simp[putCells]⟩
    · simp_all[putRow,mapBlock,Fcf,onCells]
    · apply Fbw
      intro i
      simp only[putCells,Fcs,List.take_zero,Fdj,Fbm,Fa8,Array.getElem?_mapIdx]
      by_cases hi:i<ns.length
      · grind[vI]
      grind
  tape:=rfl
  os:=rfl
  output:=rfl
theorem zy7(w:World)(os:Array Obj):Grow w (Sort.grow w os) where
  size:=by simp
  blk b hb:=by grind[Sort.grow]
  tape:=rfl
  os:=rfl
  output:=rfl
theorem Ip{T:Nat->Nat->Prop}{b:Nat}{ns:List Int}{L:List AV}(h:CellsRel w T (ns.map aI++L) b):
    ∃c e fr,w.heap[b]?=some (.cells c e fr)/\fr.2=fr.1/\ns.length+L.length=c.size/\∀j,j<ns.length->c[j]?=some (vI (ns.getD j 0)):=by
  obtain⟨c,e,fr,h1,h2,h3,h4⟩:=h
  refine⟨c,e,fr,h1,h2,by grind,λj hj=>?_⟩
  have hlt:j<c.size:=by grind
  have h5:=h4 j (aI ns[j]) c[j] (by grind) (by simp)
  rw[Fa9 hlt,VRel.eq_s h5]
  simp[hj,vI]
theorem og{T:Nat->Nat->Prop}{b:Nat}{ns:List Int}{L:List AV}(h:CellsRel w T (ns.map aI++L) b):Holds (Value.int .i64) w b 0 ns.toArray:=by
  obtain⟨c,e,fr,h1,h2,h3,h4⟩:=Ip h
  intro j hj
  simp_all[World.cell?,vI,World.frozen?]
theorem f0{xs l L:List AV}(h:xs.length=l.length):zt (l++L) 0 xs=xs++L:=by simp_all[zt]
theorem Gl{A B xs:List AV}{o:Nat}(h:A.length=o):zt (A++B) o xs=A++xs++B.drop xs.length:=by grind[zt,List.take_left,List.drop_append]
theorem td{x:AV}{vs:Array Value}{T:Nat->Nat->Prop}(h:Reads w T [x] vs.toList):∃v,vs=#[v]/\VRel w T x v:=by grind[K1]
theorem yd5{x y:AV}{vs:Array Value}{T:Nat->Nat->Prop}(h:Reads w T [x,y] vs.toList):∃u v,vs=#[u,v]/\VRel w T x u/\VRel w T y v:=by grind[Ia]
theorem cf{x y z:AV}{vs:Array Value}{T:Nat->Nat->Prop}(h:Reads w T [x,y,z] vs.toList):∃u v t,vs=#[u,v,t]/\VRel w T x u/\VRel w T y v/\VRel w T z t:=by grind[iu]
theorem Li{v:AV}{ns:List Int}(h:Ints st v ns):(v=.s (.slice none 0 0)/\ns=[])\/∃b cap L,v=.s (.slice (some ⟨b,0,none⟩) ns.length cap)/\st.obj b=some (.cells (ns.map aI++L))/\ns.length<=cap/\cap<=ns.length+L.length/\cap<=9223372036854775807:=h
theorem zp0 (Ly : Lays.n189 P ρ) {fn : Func} {code : Code} (hf : P.funcs[ρ.f 189]? = some fn) (hb : fn.body = some code) (hname : (fn.name == "runtime.NumGoroutine") = false) {b cap : Nat} {ns : List Int} {L : List AV} (ho : st.obj b = some (.cells (ns.map aI ++ L)))
    (hlen:ns.length<4611686018427387904) {R:Ja} (h:R (.tup []) (st.sO b (.cells ((ns.mergeSort λx y=>decide (x<=y)).map aI++L)))):
    ACalls P (ρ.f 189) [.s (.slice (some ⟨b,0,none⟩) ns.length cap)] st R:=by
  refine ACalls.of_calls hf hb hname λOth M w vs sto hr=>?_
  obtain⟨v,rfl,hv⟩:=td hr
  cases hv
  have hobj:=(sto.obj b _ ho).1
  obtain⟨c,e,fr,h1,h2,h3,h4⟩:=Ip hobj
  refine Calls.mono (Any.slices_Sort_int Ly b 0 cap ns w (og hobj) (C0 h1) hlen) λe' w' ⟨he,n,os,hw'⟩=>⟨_,he,?_⟩
  subst hw'
  have hsl:(ns.mergeSort λx y=>decide (x<=y)).length=ns.length:=List.length_mergeSort ns
  have hw:=cr (q:=n) h1 (ns.mergeSort λx y=>decide (x<=y)) (by omega)
  obtain⟨k1,k2⟩:=Au sto ho (Cr _ _) hw
  have hg:=zy7 (putRow (Value.int .i64) (Sort.ahead w n) b 0 (ns.mergeSort λx y=>decide (x<=y)).toArray) os
  refine⟨.tup [],_,M,h,js Reads.nil,?_,k2.trans (hg.chg M)⟩
  rw[f0 (by simp)]at k1
  exact k1.grow hg
theorem zpz (Ly : Lays.n189 P ρ) {fn : Func} {code : Code} (hf : P.funcs[ρ.f 189]? = some fn) (hb : fn.body = some code) (hname : (fn.name == "runtime.NumGoroutine") = false) {R : Ja} (h : R (.tup []) st) :
    ACalls P (ρ.f 189) [.s (.slice none 0 0)] st R:=by
  refine ACalls.of_calls hf hb hname λOth M w vs sto hr=>?_
  obtain⟨v,rfl,hv⟩:=td hr
  cases hv
  refine Calls.mono (Any.slices_Sort_int_none Ly none 0 w) λe' w' ⟨he,hw'⟩=>⟨_,he,?_⟩
  subst hw'
  exact⟨.tup [],st,M,h,js Reads.nil,sto,Chg.refl _ _⟩
theorem zqi (Ly : Lays2.n25 P ρ) {fn : Func} {code : Code} (hf : P.funcs[ρ.f 25]? = some fn) (hb : fn.body = some code) (hname : (fn.name == "runtime.NumGoroutine") = false) {v : AV} {ns : List Int} (hv : Ints st v ns) (x : Int)
    (hlen:ns.length<4611686018427387904) (hs:ns.Pairwise (·<=·)) {R:Ja} (h:R (.tup [aI (ns.countP (·<x):Nat),.s (.bool (ns.contains x))]) st):
    ACalls P (ρ.f 25) [v,aI x] st R:=by
  refine ACalls.of_calls hf hb hname λOth M w vs sto hr=>?_
  obtain⟨u,t,rfl,hu,ht⟩:=yd5 hr
  cases ht
  rcases Li hv with⟨rfl,rfl⟩|⟨b,cap,L,rfl,ho,hc1,hc2⟩
  · cases hu
    refine Calls.mono (Any.slices_BinarySearch_int_empty Ly none 0 x w) λe' w' ⟨he,hw'⟩=>⟨_,he,?_⟩
    subst hw'
    refine⟨_,st,M,h,js (Reads.cons (.s _) (Reads.cons (.s _) Reads.nil)),sto,Chg.refl _ _⟩
  · cases hu
    have hobj:=(sto.obj b _ ho).1
    obtain⟨c,e,fr,h1,h2,h3,h4⟩:=Ip hobj
    refine Calls.mono (Any.slices_BinarySearch_int Ly b 0 ns.length cap ns x w (Fah _) hlen (λj hj=>?_) (by grind)) λe' w' ⟨he,q,hw'⟩=>⟨_,he,?_⟩
    · rw[Fbm]
      simp only[World.cell?,h1]
      exact h4 j hj
    · subst hw'
      rw[Fap]
      have hg:Grow w (w.drewN q):=⟨Fah _,λ_ _=>rfl,rfl,rfl,rfl⟩
      exact⟨_,st,M,h,js (Reads.cons (.s _) (Reads.cons (.s _) Reads.nil)),sto.grow hg,hg.chg M⟩
theorem yb6 (Ly : Lays2.n23 P ρ) {fn : Func} {code : Code} (hf : P.funcs[ρ.f 23]? = some fn) (hb : fn.body = some code) (hname : (fn.name == "runtime.NumGoroutine") = false) {b cap i j : Nat} {ns : List Int} {L : List AV} (ho : st.obj b = some (.cells (ns.map aI ++ L)))
    (hc1:ns.length<=cap) (hc2:cap<=9223372036854775807) (hij:i<=j) (hj:j<=ns.length) {R:Ja}
    (h:R (.s (.slice (some ⟨b,0,none⟩) (ns.take i++ns.drop j).length cap)) (st.sO b (.cells ((ns.take i++ns.drop j).map aI++(List.replicate (j-i) (aI 0)++L))))):
    ACalls P (ρ.f 23) [.s (.slice (some ⟨b,0,none⟩) ns.length cap),aI i,aI j] st R:=by
  refine ACalls.of_calls hf hb hname λOth M w vs sto hr=>?_
  obtain⟨u,v,t,rfl,hu,hv,ht⟩:=cf hr
  cases hu;cases hv;cases ht
  have hobj:=(sto.obj b _ ho).1
  obtain⟨c,e,fr,h1,h2,h3,h4⟩:=Ip hobj
  have hl2:(ns.take i++ns.drop j++List.replicate (j-i) 0).length=ns.length:=by grind
  have hl1:(ns.take i++ns.drop j).length=ns.length-(j-i):=by grind
  refine Calls.mono (Any.slices_Delete_int Ly b 0 cap i j ns w (og hobj) hc1 hc2 hij hj) λe' w' ⟨he,q,hw'⟩=>⟨_,he,?_⟩
  subst hw'
  have hw:=cr (q:=q) h1 (ns.take i++ns.drop j++List.replicate (j-i) 0) (by omega)
  obtain⟨k1,k2⟩:=Au sto ho (Cr _ _) hw
  rw[<-hl1]
  refine⟨_,_,M,h,.s _,?_,k2⟩
  grind[f0,List.map_replicate]
theorem ye0(Ly:Lays7.n25 P ρ)(x y c:Nat)(hc:c<=1){R:Ja}
    (h:R (.tup [.s (.int .u64 ((x+y+c)%18446744073709551616:Nat)),.s (.int .u64 ((x+y+c)/18446744073709551616:Nat))]) st):
    ACalls P (ρ.f 25) [.s (.int .u64 x),.s (.int .u64 y),.s (.int .u64 c)] st R:=by
  refine ACalls.of_value λOth M w vs sto hr=>?_
  obtain⟨u,v,t,rfl,hu,hv,ht⟩:=cf hr
  cases hu;cases hv;cases ht
  exact⟨_,w,Any7.bits_Add64 Ly x y c hc w,_,st,M,h,js (Reads.cons (.s _) (Reads.cons (.s _) Reads.nil)),sto,Chg.refl _ _⟩
theorem Hq{b:Nat}:∀(vs:List Value) (o:Nat) (w:World) (c:Array Value) (e:TypeId) (fr:Nat×Nat),w.heap[b]?=some (.cells c e fr)->o+vs.length<=c.size->Wrote w b o vs (w.setCells b o vs):=by
  intro vs
  induction vs with
  |nil=>intro o w c e fr h _;exact⟨rfl,λ_ _=>rfl,λc e fr h=>⟨c,h,by simp,rfl⟩,rfl,rfl,rfl⟩
  | cons v vs ih=>
    intro o w c e fr h hl
    simp only[Fbd]at hl
    have h1:(w.setCell ⟨b,o,none⟩ v).heap[b]?=some (.cells (c.setIfInBounds o v) e fr):=by
      rw[Ox,if_pos rfl,h];rfl
    have k:=ih (o+1) (w.setCell ⟨b,o,none⟩ v) _ e fr h1 (by grind)
    refine⟨by rw[World.setCells,k.size];simp,λb' hb=>by rw[World.setCells,k.other b' hb,Ox,if_neg hb],λc1 e1 fr1 hc1=>?_,by rw[World.setCells,k.tape];rfl,by rw[World.setCells,k.os];rfl,by rw[World.setCells,k.output];rfl⟩
    rw[h]at hc1
    cases hc1
    obtain⟨c',g1,g2,g3⟩:=k.blk _ _ _ h1
    refine⟨c',g1,?_,by grind⟩
    rw[g2,Fdl]
    have hlt:o<c.toList.length:=by grind
    have hA:(c.toList.take o).length=o:=by grind
    rw[List.set_eq_take_append_cons_drop,if_pos hlt]
    have t1:(c.toList.take o++v::c.toList.drop (o+1)).take (o+1)=c.toList.take o++[v]:=by grind
    have t2:(c.toList.take o++v::c.toList.drop (o+1)).drop (o+1+vs.length)=c.toList.drop (o+(vs.length+1)):=by
      rw[List.drop_append,hA,show o+1+vs.length-o=vs.length+1 by omega,List.drop_of_length_le (by omega),Fdj,List.drop_succ_cons,List.drop_drop]
      grind
    grind
theorem zyb (Ly : Lays2.n21 P ρ) {fn : Func} {code : Code} (hf : P.funcs[ρ.f 21]? = some fn) (hb : fn.body = some code) (hname : (fn.name == "runtime.NumGoroutine") = false) {v : AV} {ns : List Int} (hv : Ints st v ns) {vb : Nat} (x : Int) (i : Nat) (hi : i <= ns.length)
    (hvb:st.obj vb=some (.cells [aI x])) (hne:∀b cap,v=.s (.slice (some ⟨b,0,none⟩) ns.length cap)->b≠vb) (hlen:(ns.length+1)*8<=140737488355328) {R:Ja}
    (h:∀b cap L,(Fresh st b\/∃c0,v=.s (.slice (some ⟨b,0,none⟩) ns.length c0))->(ns.take i++x::ns.drop i).length<=cap->cap<=(ns.take i++x::ns.drop i).length+L.length->cap<=9223372036854775807->
      R (.s (.slice (some ⟨b,0,none⟩) (ns.take i++x::ns.drop i).length cap)) (st.sO b (.cells ((ns.take i++x::ns.drop i).map aI++L)))):
    ACalls P (ρ.f 21) [v,aI i,.s (.slice (some ⟨vb,0,none⟩) 1 1)] st R:=by
  refine ACalls.of_calls hf hb hname λOth M w vs sto hr=>?_
  obtain⟨u,t,s,rfl,hu,ht,hs⟩:=cf hr
  cases ht;cases hs
  have hvo:=(sto.obj vb _ hvb).1
  obtain⟨cv,ev,frv,v1,v2,v3,v4⟩:=Ip (ns:=[x]) (L:=[]) (show CellsRel w _ ([x].map aI++[]) vb from hvo)
  have hvs:∀j v,([vI x]:List Value)[j]?=some v->w.cell? ⟨vb,0+j,none⟩=some v:=by grind[World.cell?]
  have h1v:∀v∈([vI x]:List Value),v.oneCell'=true:=by intro v hv;simp at hv;subst hv;rfl
  have hl':(ns.take i++x::ns.drop i).length=ns.length+1:=by grind
  have hcut:∀(w:World) (need old:Nat) (e:TypeId),need<=140737488355328->need<=grownCap w need old e/\grownCap w need old e<=9223372036854775807:=by
    intro w need old e hn
    unfold grownCap
    simp only[Question.cut]
    have:=Nat.mod_lt (w.tape w.drawn (.appendCap need old e)) (show 0<2^63-need by omega)
    omega
  rcases Li hv with⟨rfl,rfl⟩|⟨b,cap,L,rfl,ho,hc1,hc2,hc3⟩
  · cases hu
    simp only[Fcr,Nat.le_zero]at hi
    subst hi
    refine Calls.mono (Any2.slices_Insert_int_end_grow Ly none 0 0 vb 0 1 1 [] [vI x] w (by omega) (Fah _) (by omega) (by omega) rfl rfl (λ_=>rfl) (λa ha=>by cases ha) hvs h1v) λe' w' ⟨he,hw'⟩=>⟨_,he,?_⟩
    obtain⟨g1,g2⟩:=hcut w (0+1) 0 (ρ.t 3) (by omega)
    generalize grownCap w (0+1) 0 (ρ.t 3)=gc at*
    subst hw'
    have gd:Grow w w.drew:=Grow.drew w
    obtain⟨f1,f2,f3⟩:=Dr (sto.grow gd) ((([]:List Value)++[vI x]).toArray++Builtin.zeroCells (Value.int .i64 0).cells (gc-(0+1))) (ρ.t 3) (l:=[x].map aI++List.replicate (gc-(0+1)) .any) (by
      rw[Fbf]
      refine Reads.append (Cr _ [x]) ⟨by simp[Builtin.zeroCells,Value.cells],λi x y hx hy=>?_⟩
      rw[Fbq]at hx
      split at hx
      · cases hx;exact .any _
      grind)
    have:=h w.heap.size gc (List.replicate (gc-(0+1)) .any) (.inl f1) (by grind) (by grind) g2
    exact⟨_,_,_,this,.s _,f2,(gd.chg M).trans f3⟩
  · cases hu
    have hbv:b≠vb:=hne b cap rfl
    have hobj:=(sto.obj b _ ho).1
    obtain⟨c,e,fr,h1,h2,h3,h4⟩:=Ip hobj
    have cell:∀j,j<c.size->w.cell? ⟨b,0+j,none⟩=c[j]?:=λj hj=>by simp_all[World.cell?]
    have froz:∀o,w.frozen? ⟨b,o,none⟩=false:=λo=>by grind[World.frozen?]
    have hcs:∀j v,(ns.map vI)[j]?=some v->w.cell? ⟨b,0+j,none⟩=some v:=by grind
    have h1c:∀v∈ns.map vI,v.oneCell'=true:=by intro v hv;obtain⟨n,_,rfl⟩:=Fae.1 hv;rfl
    by_cases hroom:ns.length+1<=cap
    · obtain⟨L0,hL⟩:∃L0,L=L0:=⟨_,rfl⟩
      by_cases hin:i=ns.length
      · subst hin
        refine Calls.mono (Any2.slices_Insert_int_end_room Ly b 0 ns.length cap vb 0 1 1 [vI x] w (by omega) hroom hc3 rfl (λj hj=>?_) (λj hj=>froz _) hvs h1v) λe' w' ⟨he,hw'⟩=>⟨_,he,?_⟩
        · grind
        · subst hw'
          rw[Fbm]
          have hw:=Hq [vI x] ns.length w c e fr h1 (by grind)
          obtain⟨k1,k2⟩:=Au sto ho (Cr _ [x]) hw
          rw[Gl (by simp)]at k1
          have e2:(ns.take ns.length++x::ns.drop ns.length).map aI=ns.map aI++[x].map aI:=by simp
          have:=h b cap (L.drop 1) (.inr ⟨cap,rfl⟩) (by omega) (by grind) hc3
          rw[hl',e2]at this
          exact⟨_,_,M,this,.s _,k1,k2⟩
      · have hsz:∀j,j<ns.length+1->(w.cell? ⟨b,0+j,none⟩).isSome=true:=λj hj=>by grind
        refine Calls.mono (Any2.slices_Insert_int_shift Ly b 0 ns.length cap i vb 0 1 1 (ns.map vI) [vI x] w (by omega) (by omega) hroom hc3 (Ne.symm hbv) (by simp) rfl hcs hsz (λj _=>froz _) hvs h1c h1v ev e cv.size c.size
          (by simp[World.shape?,v1]) (by simp[World.shape?,h1]) (by omega) ?_ ?_) λe' w' ⟨he,hw'⟩=>⟨_,he,?_⟩
        · grind[World.frozen?]
        · grind[World.frozen?]
        · subst hw'
          rw[Fbm,Fbm,<-List.map_drop]
          have gd:Grow w w.drew:=Grow.drew w
          have hw1:=Hq ((ns.drop i).map vI) (i+1) w.drew c e fr h1 (by grind)
          obtain⟨k1,k2⟩:=Au (sto.grow gd) ho (Cr _ _) hw1
          obtain⟨c',m1,_,m2⟩:=hw1.blk c e fr h1
          have hw2:=Hq [vI x] i _ c' e fr m1 (by grind)
          obtain⟨k3,k4⟩:=Au k1 (zc _ _ _) (Cr _ [x]) hw2
          rw[yl]at k3
          have e1:zt (zt (ns.map aI++L) (i+1) ((ns.drop i).map aI)) i ([x].map aI)=(ns.take i++x::ns.drop i).map aI++L.drop 1:=by
            have hL1:1<=L.length:=by omega
            cases L with
            |nil=>grind
            | cons y L=>
              have q1:ns.map aI++y::L=(ns.map aI++[y]).take (i+1)++((ns.map aI++[y]).drop (i+1)++L):=by grind[List.take_append_drop]
              have q2:((ns.map aI++[y]).take (i+1)).length=i+1:=by grind
              grind[Gl,List.map_take,List.take_succ_eq_append_getElem]
          rw[e1]at k3
          have:=h b cap (L.drop 1) (.inr ⟨cap,rfl⟩) (by omega) (by rw[hl'];simp;omega) hc3
          rw[hl']at this
          exact⟨_,_,M,this,.s _,k3,((gd.chg M).trans k2).trans k4⟩
    · obtain⟨g1,g2⟩:=hcut w (ns.length+1) cap (ρ.t 3) (by omega)
      by_cases hin:i=ns.length
      · subst hin
        refine Calls.mono (Any2.slices_Insert_int_end_grow Ly (some ⟨b,0,none⟩) ns.length cap vb 0 1 1 (ns.map vI) [vI x] w (by omega) hc1 (by omega) hlen (by simp) rfl (λhh=>by cases hh) (λa ha j v hj=>?_) hvs h1v) λe' w' ⟨he,hw'⟩=>⟨_,he,?_⟩
        · cases ha;rw[ki];exact hcs j v hj
        · generalize grownCap w (ns.length+1) cap (ρ.t 3)=gc at*
          subst hw'
          have gd:Grow w w.drew:=Grow.drew w
          obtain⟨f1,f2,f3⟩:=Dr (sto.grow gd) ((ns.map vI++[vI x]).toArray++Builtin.zeroCells (Value.int .i64 0).cells (gc-(ns.length+1))) (ρ.t 3) (l:=(ns++[x]).map aI++List.replicate (gc-(ns.length+1)) .any) (by
            rw[Fbf]
            refine Reads.append ?_ ⟨by simp[Builtin.zeroCells,Value.cells],λi x y hx hy=>?_⟩
            · have:=Cr (w:=w.drew) (λb o=>M b o\/Oth b o) (ns++[x])
              rw[Fa3 (f:=vI)]at this
              exact this
            · rw[Fbq]at hx
              split at hx
              · cases hx;exact .any _
              · cases hx)
          have e2:ns.take ns.length++x::ns.drop ns.length=ns++[x]:=by simp
          rw[e2]at h
          have:=h w.heap.size gc (List.replicate (gc-(ns.length+1)) .any) (.inl f1) (by simpa using g1) (by simp;omega) g2
          rw[Fad]at this
          exact⟨_,_,_,this,.s _,f2,(gd.chg M).trans f3⟩
      · refine Calls.mono (Any2.slices_Insert_int_grow Ly b 0 ns.length cap i vb 0 1 1 (ns.map vI) [vI x] w (by omega) (by omega) hc1 (by omega) hlen (by simp) rfl hcs hvs h1c h1v) λe' w' ⟨he,hw'⟩=>⟨_,he,?_⟩
        generalize grownCap w (ns.length+1) cap (ρ.t 3)=gc at*
        subst hw'
        rw[<-List.map_take,<-List.map_drop]
        obtain⟨f1,f2,f3⟩:=Dr sto (((ns.take i).map vI).toArray++Builtin.zeroCells (Value.int .i64 0).cells (ns.length+1-i)++Builtin.zeroCells (Value.int .i64 0).cells (gc-(ns.length+1))) (ρ.t 3) (l:=(ns.take i).map aI++List.replicate (ns.length+1-i+(gc-(ns.length+1))) .any) (by
          rw[Array.append_assoc,Fbf]
          refine Reads.append (Cr _ _) ⟨by simp[Builtin.zeroCells,Value.cells],λi x y hx hy=>?_⟩
          rw[Fbq]at hx
          split at hx
          · cases hx;exact .any _
          · cases hx)
        generalize hArr:(((ns.take i).map vI).toArray++Builtin.zeroCells (Value.int .i64 0).cells (ns.length+1-i)++Builtin.zeroCells (Value.int .i64 0).cells (gc-(ns.length+1)))=Arr at*
        have hAs:Arr.size=gc:=by rw[<-hArr];simp[Builtin.zeroCells,Value.cells];omega
        have hb1:(w.alloc (.cells Arr (ρ.t 3))).drew.heap[w.heap.size]?=some (.cells Arr (ρ.t 3) (0,0)):=F0 w _
        have gd1:Grow (w.alloc (.cells Arr (ρ.t 3))) (w.alloc (.cells Arr (ρ.t 3))).drew:=Grow.drew _
        have hw1:=Hq [vI x] i _ _ _ _ hb1 (by simp;omega)
        obtain⟨k1,k2⟩:=Au (f2.grow gd1) (zc _ _ _) (Cr _ [x]) hw1
        obtain⟨c',m1,_,m2⟩:=hw1.blk _ _ _ hb1
        have gd2:Grow ((w.alloc (.cells Arr (ρ.t 3))).drew.setCells w.heap.size i [vI x]) ((w.alloc (.cells Arr (ρ.t 3))).drew.setCells w.heap.size i [vI x]).drew:=Grow.drew _
        have hw2:=Hq ((ns.drop i).map vI) (i+1) ((w.alloc (.cells Arr (ρ.t 3))).drew.setCells w.heap.size i [vI x]).drew c' _ _ m1 (by simp;omega)
        obtain⟨k3,k4⟩:=Au (k1.grow gd2) (zc _ _ _) (Cr _ _) hw2
        rw[yl,yl]at k3
        have e1:zt (zt ((ns.take i).map aI++List.replicate (ns.length+1-i+(gc-(ns.length+1))) .any) i ([x].map aI)) (i+1) ((ns.drop i).map aI)=(ns.take i++x::ns.drop i).map aI++List.replicate (gc-(ns.length+1)) .any:=by
          rw[Gl (by simp;omega),Gl (by simp;omega),List.drop_replicate,List.drop_replicate]
          have q:ns.length+1-i+(gc-(ns.length+1))-([x].map aI).length-((ns.drop i).map aI).length=gc-(ns.length+1):=by simp;omega
          rw[q]
          simp
        rw[e1]at k3
        have:=h w.heap.size gc (List.replicate (gc-(ns.length+1)) .any) (.inl f1) (by omega) (by rw[hl'];simp;omega) g2
        rw[hl']at this
        exact⟨_,_,_,this,.s _,k3,((((f3.trans (gd1.chg _)).trans k2).trans (gd2.chg _)).trans k4)⟩
end
section
variable {a g:Store} {b j:Nat} {x id:Int}
theorem zo(a g:Store)(b:Nat)(x:AObj):(a.un g).sO b x=a.un (g.sO b x):=by
 unfold Store.un Store.sO
 grind
theorem Ax(a:Store):a.un Store.empty=a:=by rfl
theorem yb0(a:Store):zg a Store.empty:=λb _ h=>h.elim (λh=>h rfl) (λh=>h rfl)
theorem fresh_un(h:Fresh (a.un g) b):Fresh a b/\Fresh g b:=by grind[fresh_iff,un_has]
theorem has_setObj_iff{i:Nat}{x:AObj}:(g.sO b x).has i↔i=b\/g.has i:=by grind[Store.has,zc,ym,Store.sO]
theorem disj_setR{x:AObj}(h:zg a g)(hb:Fresh a b):zg a (g.sO b x):=by
 intro i hi hg
 rcases has_setObj_iff.1 hg with rfl|hg
 ·exact(fresh_iff.1 hb) hi
 ·exact h i hi hg
theorem I4{x y:AObj}(h:zg a g)(hb:g.obj b=some y):zg a (g.sO b x):=by
 intro i hi hg
 rcases has_setObj_iff.1 hg with rfl|hg
 ·exact h i hi (k9 hb)
 ·exact h i hi hg
def zm(p:Vc):Int×Int:=(nrm p.1/131072,nrm p.2/131072)
abbrev Ent:=Int×Vc
def j3(e:Ent):AV×AV:=(int e.1,.agg (z6 e.2))
structure Grp where
 x:Int
 y:Int
 ns:List Int
 b:Nat
 cap:Nat
 L:List AV
def Grp.key(g:Grp):Int×Int:=(g.x,g.y)
def j2(g:Grp):AV×AV:=(.agg [int g.x,int g.y],.s (.slice (some ⟨g.b,0,none⟩) g.ns.length g.cap))
def Grp.fits(g:Grp):Prop:=g.ns.length<=g.cap/\g.cap<=g.ns.length+g.L.length/\g.cap<=9223372036854775807
structure CellsAt(a:Store)(p ma mi:Nat)(l:List Ent)(bs1:List Nat)(c1:Nat)(G:List Grp)(bs2:List Nat)(c2:Nat):Prop where
 hp:a.obj p=some (.cells [.s (.map (some ma)),.s (.map (some mi))])
 ha:a.obj ma=some (.map (l.map j3) bs1 c1)
 hi:a.obj mi=some (.map (G.map j2) bs2 c2)
 ne:ma≠mi
 hg:∀g∈G,a.obj g.b=some (.cells (g.ns.map aI++g.L))/\g.fits/\g.b≠p
 nd:(G.map (·.b)).Nodup
structure Inv(l:List Ent)(G:List Grp):Prop where
 n1:(l.map (·.1)).Nodup
 n2:(G.map (·.key)).Nodup
 s:∀g∈G,g.ns.Pairwise (·<·)/\g.ns≠[]
 m1:∀g∈G,∀id,id∈g.ns↔∃e∈l,e.1=id/\zm e.2=g.key
 m2:∀e∈l,∃g∈G,g.key=zm e.2
def ja(a:Store)(p:Nat)(l:List Ent):Prop:=∃ma mi bs1 c1 G bs2 c2,CellsAt a p ma mi l bs1 c1 G bs2 c2/\Inv l G
theorem rj(x:Int):∀{ns:List Int},ns.Pairwise (·<·)->ns.take (ns.countP (·<x))=ns.filter (·<x)/\ns.drop (ns.countP (·<x))=ns.filter (x<=·):=by
 intro ns
 induction ns with
 |nil=>simp
 |cons a ns ih=>
  intro h
  obtain⟨h1,h2⟩:=Fcd.1 h
  grind
theorem ycf(x:Int)(ns:List Int):ns.countP (·<x)<=ns.length:=List.countP_le_length
theorem zyc{ns:List Int}(h:ns.Pairwise (·<·))(hx:x∉ns):
  (ns.take (ns.countP (·<x))++x::ns.drop (ns.countP (·<x))).Pairwise (·<·)/\∀y,y∈ns.take (ns.countP (·<x))++x::ns.drop (ns.countP (·<x))↔y=x\/y∈ns:=by
 obtain⟨h1,h2⟩:=rj x h
 rw[h1,h2]
 refine⟨?_,λy=>?_⟩
 ·rw[List.pairwise_append,Fcd]
  refine⟨h.filter _,⟨λy hy=>?_,h.filter _⟩,λa ha b hb=>?_⟩
  ·have h3:=Fbt.1 hy
   have h4:x<=y:=by simpa using h3.2
   have h5:y≠x:=λe=>hx (e▸h3.1)
   omega
  ·have h3:=(Fbt.1 ha).2
   have h3:a<x:=by simpa using h3
   rcases Fa0.1 hb with rfl|hb
   ·exact h3
   ·have h4:x<=b:=by simpa using(Fbt.1 hb).2
    omega
 grind
theorem yb7{ns:List Int}(h:ns.Pairwise (·<·))(hx:x∈ns):
  ns.countP (·<x)+1<=ns.length/\(ns.take (ns.countP (·<x))++ns.drop (ns.countP (·<x)+1)).Pairwise (·<·)/\∀y,y∈ns.take (ns.countP (·<x))++ns.drop (ns.countP (·<x)+1)↔y≠x/\y∈ns:=by
 obtain⟨h1,h2⟩:=rj x h
 have hsub:(ns.take (ns.countP (·<x))++ns.drop (ns.countP (·<x)+1)).Sublist ns:=by grind[List.take_append_drop]
 have h3:ns.filter (x<=·)=x::ns.filter (x<·):=by
  clear h1 h2 hsub
  induction ns with
  |nil=>cases hx
  |cons a ns ih=>
   obtain⟨k1,k2⟩:=Fcd.1 h
   rcases Fa0.1 hx with rfl|hx
   ·grind[List.filter_congr]
   grind
 have h4:ns.drop (ns.countP (·<x)+1)=ns.filter (x<·):=by
  rw[<-List.drop_drop,h2,h3];rfl
 grind
theorem Bx{α β:Type}{f:α->β}:∀{G:List α} {i j:Nat} {a b:α},(G.map f).Nodup->G[i]?=some a->G[j]?=some b->f a=f b->i=j:=by
 intro G i j a b hn hi hj h
 have hi':(G.map f)[i]?=some (f a):=by simp[hi]
 have hj':(G.map f)[j]?=some (f b):=by simp[hj]
 grind[List.getElem?_inj]
theorem By{α β:Type}{f:α->β}{G:List α}{g g' g1:α}(hn:(G.map f).Nodup)(hj:G[j]?=some g):g1∈G.set j g'↔g1=g'\/(g1∈G/\f g1≠f g):=by
 have hlt:=(Faq.1 hj).1
 constructor
 ·intro h
  obtain⟨i,hi⟩:=Fay.1 h
  by_cases hij:j=i
  ·grind
  grind[Bx]
 ·rintro(rfl|⟨h1,h2⟩)
  ·grind[List.getElem?_set_self]
  ·obtain⟨i,hi⟩:=Fay.1 h1
   have hij:j≠i:=λe=>by grind
   exact Fay.2 ⟨i,by grind⟩
theorem Oc{α β:Type}{f:α->β}{G:List α}{g g1:α}(hn:(G.map f).Nodup)(hj:G[j]?=some g):g1∈G.eraseIdx j↔(g1∈G/\f g1≠f g):=by
 constructor
 ·grind[List.mem_iff_getElem?,Bx]
 ·rintro⟨h1,h2⟩
  obtain⟨i,hi⟩:=Fay.1 h1
  have hij:i≠j:=λe=>by grind
  refine Fay.2 ?_
  by_cases hlt:i<j
  ·exact⟨i,by grind⟩
  ·refine⟨i-1,?_⟩
   grind
theorem map_set_same{α β:Type}(f:α->β){G:List α}{g g':α}(hj:G[j]?=some g)(h:f g'=f g):(G.set j g').map f=G.map f:=by
 rw[Fcq,h]
 apply Fbw
 grind
theorem zxy{G:List Grp}(hn:(G.map (·.key)).Nodup){g g1:Grp}(h:g∈G)(h1:g1∈G)(hk:g1.key=g.key):g1=g:=by grind[List.mem_iff_getElem?,Bx]
theorem Lm{l:List Ent}(hn:(l.map (·.1)).Nodup){e e1:Ent}(h:e∈l)(h1:e1∈l)(hk:e1.1=e.1):e1=e:=by
 obtain⟨i,hi⟩:=Fay.1 h
 obtain⟨j,hj⟩:=Fay.1 h1
 have:=Bx (f:=λ(e:Ent)=>e.1) hn hj hi hk
 grind
def yz(l:List Ent)(id:Int):List Ent:=l.filter λe=>e.1 != id
theorem mem_dropId{l:List Ent}{e:Ent}:e∈yz l id↔e∈l/\e.1≠id:=by simp[yz]
theorem ra{l:List Ent}(h:(l.map (·.1)).Nodup):((yz l id).map (·.1)).Nodup:=h.sublist ((List.filter_sublist).map _)
theorem zx4{l:List Ent}{G:List Grp}(h:Inv l G){e:Ent}(he:e∈l){g:Grp}(hj:G[j]?=some g)(hk:g.key=zm e.2){ns':List Int}(hs:ns'.Pairwise (·<·))(hm:∀y,y∈ns'↔y≠e.1/\y∈g.ns):
  (ns'=[]->Inv (yz l e.1) (G.eraseIdx j))/\(ns'≠[]->∀g':Grp,g'.key=g.key->g'.ns=ns'->Inv (yz l e.1) (G.set j g')):=by
 have hgm:=Fa2 hj
 have key:∀g1∈G,g1.key≠g.key->∀id,id∈g1.ns↔∃e1∈yz l e.1,e1.1=id/\zm e1.2=g1.key:=by
  intro g1 h1 h2 id
  rw[h.m1 g1 h1 id]
  constructor
  ·rintro⟨e1,h3,h4,h5⟩
   refine⟨e1,mem_dropId.2 ⟨h3,λh6=>h2 ?_⟩,h4,h5⟩
   rw[<-h5,Lm h.n1 he h3 h6,hk]
  grind[mem_dropId]
 refine⟨λhn=>?_,λhn g' hk' hns=>?_⟩
 ·refine⟨ra h.n1,h.n2.sublist ((List.eraseIdx_sublist ..).map _),λg1 h1=>?_,λg1 h1=>?_,λe1 h1=>?_⟩
  ·exact h.s g1 ((Oc (f:=Grp.key) h.n2 hj).1 h1).1
  ·obtain⟨h2,h3⟩:=(Oc (f:=Grp.key) h.n2 hj).1 h1
   grind
  ·obtain⟨h2,h3⟩:=mem_dropId.1 h1
   obtain⟨g1,h4,h5⟩:=h.m2 e1 h2
   refine⟨g1,(Oc (f:=Grp.key) h.n2 hj).2 ⟨h4,λh6=>?_⟩,h5⟩
   have h7:e1.1∈g.ns:=(h.m1 g hgm e1.1).2 ⟨e1,h2,rfl,by grind⟩
   grind
 ·refine⟨ra h.n1,by rw[map_set_same Grp.key hj hk'];exact h.n2,λg1 h1=>?_,λg1 h1=>?_,λe1 h1=>?_⟩
  ·rcases(By (f:=Grp.key) h.n2 hj).1 h1 with rfl|⟨h2,_⟩
   ·grind
   ·exact h.s g1 h2
  ·rcases(By (f:=Grp.key) h.n2 hj).1 h1 with rfl|⟨h2,h3⟩
   ·intro id
    rw[hns,hm,h.m1 g hgm,hk']
    constructor
    ·rintro⟨h4,e1,h5,h6,h7⟩
     grind[mem_dropId]
    grind[mem_dropId]
   grind
  ·obtain⟨h2,h3⟩:=mem_dropId.1 h1
   obtain⟨g1,h4,h5⟩:=h.m2 e1 h2
   by_cases h6:g1.key=g.key
   ·exact⟨g',(By (f:=Grp.key) h.n2 hj).2 (.inl rfl),by grind⟩
   ·exact⟨g1,(By (f:=Grp.key) h.n2 hj).2 (.inr ⟨h4,h6⟩),h5⟩
theorem zx5{l:List Ent}{G:List Grp}(h:Inv l G){e:Ent}(he:∀e1∈l,e1.1≠e.1):
  (∀j g g',G[j]?=some g->g.key=zm e.2->g'.key=g.key->g'.ns.Pairwise (·<·)->(∀y,y∈g'.ns↔y=e.1\/y∈g.ns)->Inv (l++[e]) (G.set j g'))∧
  ((∀g∈G,g.key≠zm e.2)->∀g',g'.key=zm e.2->g'.ns=[e.1]->Inv (l++[e]) (G++[g'])):=by
 have n1:((l++[e]).map (·.1)).Nodup:=by
  rw[Fa3,Fct]
  refine⟨h.n1,by simp,λa ha b hb=>?_⟩
  grind
 have key:∀g1∈G,g1.key≠zm e.2->∀id,id∈g1.ns↔∃e1∈l++[e],e1.1=id/\zm e1.2=g1.key:=by
  intro g1 h1 h2 id
  rw[h.m1 g1 h1 id]
  constructor
  ·simp_all
  grind
 refine⟨λj g g' hj hk hk' hs hm=>?_,λhno g' hk' hns=>?_⟩
 ·have hgm:=Fa2 hj
  refine⟨n1,by rw[map_set_same Grp.key hj hk'];exact h.n2,λg1 h1=>?_,λg1 h1=>?_,λe1 h1=>?_⟩
  ·rcases(By (f:=Grp.key) h.n2 hj).1 h1 with rfl|⟨h2,_⟩
   ·grind
   ·exact h.s g1 h2
  ·rcases(By (f:=Grp.key) h.n2 hj).1 h1 with rfl|⟨h2,h3⟩
   ·intro id
    rw[hm,h.m1 g hgm,hk']
    constructor
    ·rintro(rfl|⟨e1,h5,h6,h7⟩)
     ·grind
     grind
    grind
   grind
  ·rcases Fas.1 h1 with h1|h1
   ·obtain⟨g1,h4,h5⟩:=h.m2 e1 h1
    by_cases h6:g1.key=g.key
    ·exact⟨g',(By (f:=Grp.key) h.n2 hj).2 (.inl rfl),by grind⟩
    ·exact⟨g1,(By (f:=Grp.key) h.n2 hj).2 (.inr ⟨h4,h6⟩),h5⟩
   ·simp at h1
    subst h1
    exact⟨g',(By (f:=Grp.key) h.n2 hj).2 (.inl rfl),by grind⟩
 ·refine⟨n1,?_,λg1 h1=>?_,λg1 h1=>?_,λe1 h1=>?_⟩
  ·rw[Fa3,Fct]
   refine⟨h.n2,by simp,λa ha b hb=>?_⟩
   grind
  ·rcases Fas.1 h1 with h1|h1
   ·exact h.s g1 h1
   grind
  ·rcases Fas.1 h1 with h1|h1
   ·grind
   ·simp at h1
    subst h1
    intro id
    rw[hns,hk']
    constructor
    ·grind
    ·rintro⟨e1,h2,h3,h4⟩
     rcases Fas.1 h2 with h2|h2
     ·obtain⟨g2,h5,h6⟩:=h.m2 e1 h2
      grind
     grind
  ·rcases Fas.1 h1 with h1|h1
   ·obtain⟨g1,h4,h5⟩:=h.m2 e1 h1
    grind
   grind
end
def qA(id:Int)(e:AV×AV):Bool:=match e.1 with|.s (.int _ n)=>id==n|_=>false
def qG(x y:Int)(e:AV×AV):Bool:=match e.1 with|.agg [.s (.int _ a),.s (.int _ b)]=>(x==a&&(y==b&&true))|_=>false
def kh(id:Int)(e:Ent):Bool:=id==e.1
def Dj(k:Int×Int)(g:Grp):Bool:=(k.1==g.x&&(k.2==g.y&&true))
theorem atKey_iff{k:Int×Int}{g:Grp}:Dj k g=true↔g.key=k:=by grind[Dj,Grp.key]
theorem pu(l:List Ent)(id:Int):(l.map j3).find? (qA id)=(l.find? (kh id)).map j3:=by
 rw[List.find?_map];rfl
theorem O9(l:List Ent)(id:Int):(l.map j3).findIdx? (qA id)=l.findIdx? (kh id):=by
 rw[List.findIdx?_map];rfl
theorem Lw(G:List Grp)(k:Int×Int):(G.map j2).find? (qG k.1 k.2)=(G.find? (Dj k)).map j2:=by
 rw[List.find?_map];rfl
theorem O8(G:List Grp)(k:Int×Int):(G.map j2).findIdx? (qG k.1 k.2)=G.findIdx? (Dj k):=by
 rw[List.findIdx?_map];rfl
theorem O7{α:Type}{q:α->Bool}{l:List α}{e:α}(h:l.find? q=some e):e∈l/\q e=true:=⟨Fdq h,List.find?_some h⟩
theorem ya1{α:Type}{q:α->Bool}{l:List α}{i:Nat}(h:l.findIdx? q=some i):∃e,l[i]?=some e/\q e=true/\l.find? q=some e:=by grind[List.findIdx?_eq_some_iff_getElem,pq]
theorem Wq{α:Type}{q:α->Bool}{l:List α}{e:α}(h:l.find? q=some e):∃i,l.findIdx? q=some i/\l[i]?=some e:=by
 cases hi:l.findIdx? q with
 |none=>grind
 |some i=>
  obtain⟨e',h1,_,h3⟩:=ya1 hi
  grind
theorem ya9{l:List Ent}(hn:(l.map (·.1)).Nodup){i:Nat}{e:Ent}(hi:l[i]?=some e):l.eraseIdx i=yz l e.1:=by
 induction l generalizing i with
 |nil=>rfl
 |cons a l ih=>
  rw[Fb0,List.nodup_cons]at hn
  grind[List.eraseIdx_cons_zero,yz,List.filter_eq_self]
theorem ybh{l:List Ent}{id:Int}(h:l.find? (kh id)=none):yz l id=l:=by grind[yz,List.filter_eq_self,kh]
section
variable {a:Store} {p ma mi:Nat} {l:List Ent} {bs1:List Nat} {c1:Nat} {G:List Grp} {bs2:List Nat} {c2:Nat}
theorem CellsAt.p_ne(h:CellsAt a p ma mi l bs1 c1 G bs2 c2):ma≠p/\mi≠p:=by
 refine⟨λe=>?_,λe=>?_⟩
 ·have:=h.ha;rw[e,h.hp]at this;cases this
 ·have:=h.hi;rw[e,h.hp]at this;cases this
theorem CellsAt.g_ne(h:CellsAt a p ma mi l bs1 c1 G bs2 c2){g:Grp}(hg:g∈G):g.b≠ma/\g.b≠mi/\g.b≠p:=by
 obtain⟨h1,h2,h3⟩:=h.hg g hg
 refine⟨λe=>?_,λe=>?_,h3⟩
 ·have:=h.ha;grind
 ·have:=h.hi;grind
theorem CellsAt.other(h:CellsAt a p ma mi l bs1 c1 G bs2 c2){b:Nat}(x:AObj)(hp:b≠p)(hma:b≠ma)(hmi:b≠mi)(hg:∀g∈G,b≠g.b):CellsAt (a.sO b x) p ma mi l bs1 c1 G bs2 c2:=
 ⟨by rw[zf (Ne.symm hp)];exact h.hp,by rw[zf (Ne.symm hma)];exact h.ha,by rw[zf (Ne.symm hmi)];exact h.hi,h.ne,
  λg hg'=>by rw[zf (Ne.symm (hg g hg'))];exact h.hg g hg',h.nd⟩
theorem CellsAt.fresh(h:CellsAt a p ma mi l bs1 c1 G bs2 c2){b:Nat}(x:AObj)(hb:Fresh a b):CellsAt (a.sO b x) p ma mi l bs1 c1 G bs2 c2:=
 h.other x (hb.ne_obj h.hp) (hb.ne_obj h.ha) (hb.ne_obj h.hi) λg hg=>hb.ne_obj (h.hg g hg).1
theorem CellsAt.setA(h:CellsAt a p ma mi l bs1 c1 G bs2 c2)(l':List Ent)(bs:List Nat)(c:Nat):CellsAt (a.sO ma (.map (l'.map j3) bs c)) p ma mi l' bs c G bs2 c2:=
 ⟨by rw[zf (Ne.symm h.p_ne.1)];exact h.hp,zc _ _ _,by rw[zf (Ne.symm h.ne)];exact h.hi,h.ne,
  λg hg=>by rw[zf (h.g_ne hg).1];exact h.hg g hg,h.nd⟩
theorem CellsAt.setI(h:CellsAt a p ma mi l bs1 c1 G bs2 c2){G':List Grp}(bs:List Nat)(c:Nat)(hg:∀g∈G',a.obj g.b=some (.cells (g.ns.map aI++g.L))/\g.fits/\g.b≠p)(nd:(G'.map (·.b)).Nodup):
  CellsAt (a.sO mi (.map (G'.map j2) bs c)) p ma mi l bs1 c1 G' bs c:=
 ⟨by rw[zf (Ne.symm h.p_ne.2)];exact h.hp,by rw[zf h.ne];exact h.ha,zc _ _ _,h.ne,
  λg hg'=>by
   obtain⟨h1,h2,h3⟩:=hg g hg'
   have:g.b≠mi:=λe=>by have:=h.hi;grind
   grind[zf],nd⟩
structure CellsMid(a:Store)(p ma mi:Nat)(l:List Ent)(bs1:List Nat)(c1:Nat)(G:List Grp)(bs2:List Nat)(c2:Nat)(b:Nat):Prop where
 hp:a.obj p=some (.cells [.s (.map (some ma)),.s (.map (some mi))])
 ha:a.obj ma=some (.map (l.map j3) bs1 c1)
 hi:a.obj mi=some (.map (G.map j2) bs2 c2)
 ne:ma≠mi
 hg:∀g∈G,g.b≠b->a.obj g.b=some (.cells (g.ns.map aI++g.L))/\g.fits/\g.b≠p
 nd:(G.map (·.b)).Nodup
theorem CellsAt.mid(h:CellsAt a p ma mi l bs1 c1 G bs2 c2){b:Nat}(x:AObj)(hp:b≠p)(hma:b≠ma)(hmi:b≠mi):CellsMid (a.sO b x) p ma mi l bs1 c1 G bs2 c2 b:=
 ⟨by rw[zf (Ne.symm hp)];exact h.hp,by rw[zf (Ne.symm hma)];exact h.ha,by rw[zf (Ne.symm hmi)];exact h.hi,h.ne,
  λg hg' hne=>by rw[zf hne];exact h.hg g hg',h.nd⟩
theorem CellsMid.setI{b:Nat}(h:CellsMid a p ma mi l bs1 c1 G bs2 c2 b){G':List Grp}(bs:List Nat)(c:Nat)(hg:∀g∈G',(g∈G/\g.b≠b)\/(a.obj g.b=some (.cells (g.ns.map aI++g.L))/\g.fits/\g.b≠p))(nd:(G'.map (·.b)).Nodup):
  CellsAt (a.sO mi (.map (G'.map j2) bs c)) p ma mi l bs1 c1 G' bs c:=by
 have hpi:mi≠p:=λe=>by have:=h.hi;rw[e,h.hp]at this;cases this
 refine⟨by rw[zf (Ne.symm hpi)];exact h.hp,by rw[zf h.ne];exact h.ha,zc _ _ _,h.ne,λg hg'=>?_,nd⟩
 have key:a.obj g.b=some (.cells (g.ns.map aI++g.L))/\g.fits/\g.b≠p:=by grind[hg]
 obtain⟨h1,h2,h3⟩:=key
 have:g.b≠mi:=λe=>by have:=h.hi;grind
 grind[zf]
end
theorem zuj{a:Store}{p ma mi:Nat}{l:List Ent}{bs1:List Nat}{c1:Nat}{G:List Grp}{bs2:List Nat}{c2:Nat}(ha:CellsAt a p ma mi l bs1 c1 G bs2 c2)(hi:Inv l G){id:Int}{pos:Vc}(hno:∀e∈l,e.1≠id):
  ∃cur ns,C6 false (.s (.slice none 0 0)) ((G.find? (Dj (zm pos))).map j2)=cur/\Ints a cur ns/\ns.Pairwise (·<·)/\(ns=[]\/∃g∈G,ns=g.ns)/\(∀b cap,cur=.s (.slice (some ⟨b,0,none⟩) ns.length cap)->a.obj b≠none)∧
   ∀vb lit b cap L,Fresh a vb->(Fresh (a.sO vb lit) b\/∃c0,cur=.s (.slice (some ⟨b,0,none⟩) ns.length c0))->
    (ns.take (ns.countP (·<id))++id::ns.drop (ns.countP (·<id))).length<=cap->cap<=(ns.take (ns.countP (·<id))++id::ns.drop (ns.countP (·<id))).length+L.length->cap<=9223372036854775807->
    ((a.sO vb lit).sO b (.cells ((ns.take (ns.countP (·<id))++id::ns.drop (ns.countP (·<id))).map aI++L))).obj mi=some (.map (G.map j2) bs2 c2)∧
    ((a.sO vb lit).sO b (.cells ((ns.take (ns.countP (·<id))++id::ns.drop (ns.countP (·<id))).map aI++L))).obj p=some (.cells [.s (.map (some ma)),.s (.map (some mi))])∧
    ∃G' bs2' c2',jl (G.map j2) bs2 c2 (qG (zm pos).1 (zm pos).2) (.agg [int (zm pos).1,int (zm pos).2]) (.s (.slice (some ⟨b,0,none⟩) (ns.take (ns.countP (·<id))++id::ns.drop (ns.countP (·<id))).length cap))=.map (G'.map j2) bs2' c2'∧
     CellsAt (((a.sO vb lit).sO b (.cells ((ns.take (ns.countP (·<id))++id::ns.drop (ns.countP (·<id))).map aI++L))).sO mi (.map (G'.map j2) bs2' c2')) p ma mi l bs1 c1 G' bs2' c2'/\Inv (l++[(id,pos)]) G':=by
 obtain⟨w1,w2⟩:=zx5 (e:=(id,pos)) hi hno
 cases hf:G.find? (Dj (zm pos))with
 |none=>
  refine⟨_,[],rfl,.inl ⟨rfl,rfl⟩,List.Pairwise.nil,.inl rfl,λb cap h=>?_,λvb lit b cap L hvb hb h1 h2 h3=>?_⟩
  ·simp[C6]at h
  have hb:Fresh (a.sO vb lit) b:=by grind[C6]
  simp only[List.countP_nil,List.take_nil,List.drop_nil,Fdj]at*
  have a1:=ha.fresh lit hvb
  have a2:=a1.fresh (.cells ([id].map aI++L)) hb
  refine⟨a2.hi,a2.hp,G++[⟨(zm pos).1,(zm pos).2,[id],b,cap,L⟩],bs2++[c2],c2+1,?_,?_,?_⟩
  ·unfold jl
   have:G.findIdx? (Dj (zm pos))=none:=by grind
   rw[O8,this,Fa3]
   rfl
  ·refine a2.setI _ _ (λg hg=>?_) ?_
   ·rcases Fas.1 hg with hg|hg
    ·exact a2.hg g hg
    ·simp at hg
     subst hg
     exact⟨zc _ _ _,⟨h1,h2,h3⟩,hb.ne_obj a1.hp⟩
   ·rw[Fa3,Fct]
    refine⟨ha.nd,by simp,λx hx y hy=>?_⟩
    obtain⟨g,hg,rfl⟩:=Fae.1 hx
    simp at hy
    subst hy
    exact Ne.symm (hb.ne_obj (a1.hg g hg).1)
  ·refine w2 (λg hg hk=>?_) _ rfl rfl
   grind[atKey_iff]
 |some g=>
  obtain⟨hg,hk⟩:=O7 hf
  have hk:=atKey_iff.1 hk
  obtain⟨j,hj1,hj2⟩:=Wq hf
  obtain⟨k1,k2,k3⟩:=ha.hg g hg
  obtain⟨s1,s2⟩:=hi.s g hg
  have hnin:id∉g.ns:=λh=>by
   obtain⟨e,he,h1,_⟩:=(hi.m1 g hg id).1 h
   grind
  obtain⟨i1,i2⟩:=zyc s1 hnin
  refine⟨_,g.ns,rfl,.inr ⟨g.b,g.cap,g.L,rfl,k1,k2⟩,s1,.inr ⟨g,hg,rfl⟩,λb cap h=>?_,λvb lit b cap L hvb hb h1 h2 h3=>?_⟩
  ·grind[C6,j2]
  generalize g.ns.take (g.ns.countP (·<id))++id::g.ns.drop (g.ns.countP (·<id))=ins at*
  have a1:=ha.fresh lit hvb
  have hbne:b≠p/\b≠ma/\b≠mi/\∀g1∈G,g1≠g->g1.b≠b:=by
   rcases hb with hb|⟨c0,hb⟩
   ·exact⟨hb.ne_obj a1.hp,hb.ne_obj a1.ha,hb.ne_obj a1.hi,λg1 hg1 _=>Ne.symm (hb.ne_obj (a1.hg g1 hg1).1)⟩
   ·have:g.b=b:=by simp[C6,j2]at hb;exact hb.1
    subst this
    obtain⟨n1,n2,n3⟩:=ha.g_ne hg
    refine⟨n3,n1,n2,λg1 hg1 hne he=>hne ?_⟩
    obtain⟨i,hi1⟩:=Fay.1 hg1
    have:=Bx (f:=λg:Grp=>g.b) ha.nd hi1 hj2 he
    grind
  obtain⟨n3,n1,n2,n4⟩:=hbne
  have mid:=a1.mid (.cells (ins.map aI++L)) n3 n1 n2
  let g2:Grp:=⟨g.x,g.y,ins,b,cap,L⟩
  have hmem:∀g1,g1∈G.set j g2->g1=g2\/(g1∈G/\g1≠g):=λg1 h=>by
   rcases(By (f:=Grp.key) hi.n2 hj2).1 h with h|⟨h,h'⟩
   ·grind
   grind
  refine⟨mid.hi,mid.hp,G.set j g2,bs2,c2,?_,?_,w1 j g g2 hj2 hk rfl i1 i2⟩
  ·unfold jl
   rw[O8,hj1,Fcq]
   simp only
   congr 2
   show _=(AV.agg [int g.x,int g.y],_)
   rw[<-hk];rfl
  ·refine mid.setI _ _ (λg1 h1'=>?_) ?_
   ·rcases hmem g1 h1' with rfl|⟨q1,q2⟩
    ·exact .inr ⟨zc _ _ _,⟨h1,h2,h3⟩,n3⟩
    grind
   ·rw[Fcq]
    have hlt:=(Faq.1 hj2).1
    unfold List.Nodup
    rw[Fb5]
    intro i1 i2 hl1' hl2 hlt12 he
    replace he:=congrArg some he
    rw[<-Fab,<-Fab]at he
    rw[Fc8,Fc8]at he
    simp only[Fa8,Faw]at hl2 he
    have nd:=ha.nd
    by_cases e1:j=i1
    ·subst e1
     rw[if_pos rfl,if_pos hlt,if_neg (by omega),Fam,Fab hl2]at he
     simp at he
     refine n4 G[i2] (Faa hl2) (λe=>?_) he.symm
     have:=Bx (f:=Grp.key) hi.n2 (Fab hl2) hj2 (by rw[e])
     omega
    ·by_cases e2:j=i2
     ·subst e2
      have hl1:i1<G.length:=by omega
      rw[if_neg e1,if_pos rfl,if_pos hlt,Fam,Fab hl1]at he
      simp at he
      refine n4 G[i1] (Faa hl1) (λe=>?_) he
      have:=Bx (f:=Grp.key) hi.n2 (Fab hl1) hj2 (by rw[e])
      omega
     ·have hl1:i1<G.length:=by omega
      rw[if_neg e1,if_neg e2,Fam,Fam,Fab hl1,Fab hl2]at he
      simp at he
      have:=Bx (f:=λg:Grp=>g.b) nd (Fab hl1) (Fab hl2) he
      omega
theorem Ints.fresh{st:Store}{v:AV}{ns:List Int}(h:Ints st v ns){b:Nat}(x:AObj)(hb:Fresh st b):Ints (st.sO b x) v ns:=by
 rcases h with h|⟨b1,cap,L,h1,h2,h3⟩
 ·exact .inl h
 ·exact .inr ⟨b1,cap,L,h1,by rw[zf (Ne.symm (hb.ne_obj h2))];exact h2,h3⟩
theorem yea{P:Program}{c:Cfg}{e:TypeId}{ie:TI}(hie:c.I e=some ie)(hsz:ie.size=1)(hby:ie.bytes=8){st:Store}{v:AV}{ns:List Int}(hv:Ints st v ns)(x:Int)(hlen:ns.length<=1000000000000){K:Ja}
  (h:∀b cap L,(Fresh st b\/∃c0,v=.s (.slice (some ⟨b,0,none⟩) ns.length c0))->(ns++[x]).length<=cap->cap<=(ns++[x]).length+L.length->cap<=9223372036854775807->
   K (.s (.slice (some ⟨b,0,none⟩) (ns++[x]).length cap)) (st.sO b (.cells ((ns++[x]).map aI++L)))):appendK P c st e (.av v) (.av (.lst 1 [[aI x]] none)) K:=by
 have hrows:jv ie.size (.av (.lst 1 [[aI x]] none))=some [[aI x]]:=by simp[jv,hsz]
 refine⟨.inr ⟨v,_,rfl,rfl,?_⟩⟩
 have hl:(ns++[x]).length=ns.length+1:=by simp
 rcases hv with⟨rfl,rfl⟩|⟨b,cap,L,rfl,ho,h1,h2,h3⟩
 ·refine tg hie hrows ⟨by grind,by simp⟩ (by simp) (λb' cap' hb hc hc2=>?_)
  grind
 ·refine ck hie (cap:=cap) ho (by grind) h1 hrows ⟨by grind,by grind⟩ (λhc=>?_) (λhc b' cap' hb hc1 hc2=>?_)
  ·have hc:ns.length+1<=cap:=hc
   have e1:zt (ns.map aI++L) (ns.length*ie.size) ([[aI x]]:List (List AV)).flatten=(ns++[x]).map aI++L.drop 1:=by simp_all[Gl]
   have e0:ns.map (λn=>AV.s (.int .i64 n))++L=ns.map aI++L:=rfl
   have:=h b cap (L.drop 1) (.inr ⟨cap,rfl⟩) (by omega) (by grind) h3
   grind
  ·have hc1:ns.length+1<=cap':=hc1
   have e1:(ns.map aI++L).take (ns.length*ie.size)++([[aI x]]:List (List AV)).flatten++List.replicate ((cap'-(ns.length+1))*ie.size) .any=(ns++[x]).map aI++List.replicate (cap'-(ns.length+1)) .any:=by simp_all
   have:=h b' cap' (List.replicate (cap'-(ns.length+1)) .any) (.inl hb) (by omega) (by grind) hc2
   rw[hl,<-e1]at this
   exact this
structure NearAt(N:Store)(b3 b4 b5 b6 p:Nat)(q:Vc)(r:Int)(v:AV)(acc:List Int):Prop where
 h3:N.obj b3=some (.cells [.s (.pointer (some ⟨p,0,none⟩))])
 h4:N.obj b4=some (.cells (z6 q))
 h5:N.obj b5=some (.cells [int r])
 h6:N.obj b6=some (.cells [v])
 hv:Ints N v acc
 n36:b3≠b6
 n46:b4≠b6
 n56:b5≠b6
 nv:∀b n cap,v=.s (.slice (some ⟨b,0,none⟩) n cap)->b≠b3/\b≠b4/\b≠b5/\b≠b6
theorem NearAt.app{N:Store}{b3 b4 b5 b6 p:Nat}{q:Vc}{r:Int}{v:AV}{acc:List Int}(h:NearAt N b3 b4 b5 b6 p q r v acc){b cap:Nat}{L:List AV}{x:Int}
  (hb:Fresh N b\/∃c0,v=.s (.slice (some ⟨b,0,none⟩) acc.length c0)) (h1:(acc++[x]).length<=cap) (h2:cap<=(acc++[x]).length+L.length) (h3:cap<=9223372036854775807):
  NearAt ((N.sO b (.cells ((acc++[x]).map aI++L))).sO b6 (.cells [.s (.slice (some ⟨b,0,none⟩) (acc++[x]).length cap)])) b3 b4 b5 b6 p q r (.s (.slice (some ⟨b,0,none⟩) (acc++[x]).length cap)) (acc++[x]):=by
 have hne:b≠b3/\b≠b4/\b≠b5/\b≠b6:=by
  rcases hb with hb|⟨c0,hb⟩
  ·exact⟨hb.ne_obj h.h3,hb.ne_obj h.h4,hb.ne_obj h.h5,hb.ne_obj h.h6⟩
  ·exact h.nv b _ _ hb
 obtain⟨n3,n4,n5,n6⟩:=hne
 refine⟨?_,?_,?_,zc _ _ _,.inr ⟨b,cap,L,rfl,?_,h1,h2,h3⟩,h.n36,h.n46,h.n56,λb' n c e=>?_⟩
 ·rw[zf h.n36,zf (Ne.symm n3)];exact h.h3
 ·rw[zf h.n46,zf (Ne.symm n4)];exact h.h4
 ·rw[zf h.n56,zf (Ne.symm n5)];exact h.h5
 ·rw[zf n6,zc];rfl
 grind
theorem Ints.un{a g:Store}{v:AV}{ns:List Int}(h:Ints g v ns):Ints (a.un g) v ns:=by
 rcases h with h|⟨b1,cap,L,h1,h2,h3⟩
 ·exact .inl h
 ·exact .inr ⟨b1,cap,L,h1,zd h2,h3⟩
section
variable {P:Program} {c:Cfg} {w:World} {st:Store} {Oth M:Nat->Nat->Prop}
structure Stamps(es:List (AV×AV))(bs:List Nat)(clk:Nat):Prop where
  len:es.length=bs.length
  lt:∀t∈bs,t<clk
  inc:bs.Pairwise (·<·)
theorem yer{o:Oper}{args:List AV}{m clk:Nat}{es:List (AV×AV)}{bs:List Nat}(hm:st.obj m=some (.map es bs clk)){R:Ja}(h:Stamps es bs clk->AEff P c o args st R):AEff P c o args st R:=by
  refine⟨λOth M w ρ hI sto hr=>?_⟩
  obtain⟨⟨ms,g1,g2,g3,g4,g5,g6⟩,hM⟩:=sto.obj m _ hm
  exact(h ⟨by grind,g5,g6⟩).out Oth M w ρ hI sto hr
theorem yaz{t:Nat}{me:MapEntry}:∀{L:List MapEntry} {i:Nat},(L.map (·.born)).Pairwise (·<·)->L[i]?=some me->me.born=t->L.find? (λe=>e.born==t)=some me:=by
  intro L
  induction L with
  |nil=>simp
  | cons a L ih=>
    grind[List.pairwise_cons]
theorem yey{o:Oper}{x:Operand}(ho:o.op=.entry x){b m clk since:Nat}{es:List (AV×AV)}{bs seen:List Nat}{i t:Nat}{e:AV×AV}(hb:st.obj b=some (.iter m since (seen++[t]) clk))(hm:st.obj m=some (.map es bs clk))
    (he:es[i]?=some e) (hbi:bs[i]?=some t) {R:Ja} (h:R (.tup [e.1,e.2]) st):AEff P c o [.s (.pointer (some ⟨b,0,none⟩))] st R:=by
  refine⟨λOth M w ρ hI sto hr=>?_⟩
  rw[ho]at hr
  have hr:Reads w (λb o=>M b o\/Oth b o) [.s (.pointer (some ⟨b,0,none⟩))] [ρ x]:=by simpa [Op.operands]using hr
  obtain⟨u,hx0,hx⟩:=K1 hr
  simp only[Fb8,and_true]at hx0
  rw[<-hx0]at hx
  have hx:=VRel.eq_s hx
  obtain⟨⟨ms,g1,g2,g3,g4,g5,g6⟩,hM⟩:=sto.obj m _ hm
  obtain⟨hit,hMb⟩:=sto.obj b _ hb
  have hit:w.heap[b]?=some (.mapIter (some m) since (seen++[t]).toArray clk):=hit
  have hgo:(getObj b).run P w=.ok (.mapIter (some m) since (seen++[t]).toArray clk) w:=by simp[getObj,Sem.run,hit]
  have hlt:i<ms.size:=by grind
  have hmi:ms[i]?=some ms[i]:=Fa9 hlt
  have hbt:ms[i].born=t:=by grind
  have hfind:ms.find? (λe=>e.born==t)=some ms[i]:=by
    rw[<-Array.find?_toList]
    exact yaz (by grind) (by rw[Fcs];exact hmi) hbt
  have hback:(seen++[t]).toArray.back?=some t:=by simp
  have hrun:(execOp ρ o).run P w=.ok (.value (.tuple #[ms[i].key,ms[i].val])) w:=by
    simp only[execOp,ho,Instr.entry,hx,Sem.run_bind,hgo,Result.andThen_ok,hback,Aa g1,bne_self_eq_false,Fai,if_false,hfind,Sem.run_pure]
  rw[hrun]
  have hrel:=g3 i e ms[i] he hmi
  exact⟨_,st,M,h,js (Reads.cons hrel.1 (Reads.cons hrel.2 Reads.nil)),sto,Chg.refl _ _⟩
end
section
variable {r:Int} {g:Store}
theorem m9{x:Int}(hx:0<=x)(hr:0<r)(h:x*x<r*r):x<r:=by
 by_cases h1:x<r
 ·exact h1
 ·have h2:r<=x:=by omega
  have h3:r*r<=x*x:=Fbj h2 h2 (by omega) hx
  omega
theorem rg{a b:Int}(ha:zy a)(hb:zy b)(hr:0<r)(hr2:r<=9223372036854775807)(h:asz (yj a b)<r):yj a r<=nrm b/\nrm b<=yx a r:=by grind[Bg,Cw,nrm,yj,asz,yx,ke]
theorem zv8{q p:Vc}(hq:q.ok)(hp:p.ok)(hr:0<r)(hr2:r<=9223372036854775807)(h:near q p r=true):
  ((zm (yj q.1 r,yj q.2 r)).1<=(zm p).1/\(zm p).1<=(zm (yx q.1 r,yx q.2 r)).1)/\((zm (yj q.1 r,yj q.2 r)).2<=(zm p).2/\(zm p).2<=(zm (yx q.1 r,yx q.2 r)).2):=by
 unfold near at h
 have h:=(of_decide_eq_true h).2
 have e1:=Kb (F5 q.1 p.1)
 have e2:=Kb (F5 q.2 p.2)
 have m1:0<=asz (yj q.1 p.1)*asz (yj q.1 p.1):=Fa1 e1.1 e1.1
 have m2:0<=asz (yj q.2 p.2)*asz (yj q.2 p.2):=Fa1 e2.1 e2.1
 have h':asz (yj q.1 p.1)*asz (yj q.1 p.1)+asz (yj q.2 p.2)*asz (yj q.2 p.2)<r*r:=h
 have d1:=rg hq.1 hp.1 hr hr2 (m9 e1.1 hr (by omega))
 have d2:=rg hq.2 hp.2 hr hr2 (m9 e2.1 hr (by omega))
 grind[Cw,Wj,zm]
theorem ztz{q:Vc}(hq:q.ok)(hr:0<r)(hr2:r<=9223372036854775807):
  (zm (yj q.1 r,yj q.2 r)).1<=(zm (yx q.1 r,yx q.2 r)).1/\(zm (yj q.1 r,yj q.2 r)).2<=(zm (yx q.1 r,yx q.2 r)).2:=by
 have key:∀a:Int,zy a->yj a r<=yx a r:=by grind[yj,yx,ke,nrm]
 have k1:=key q.1 hq.1
 have k2:=key q.2 hq.2
 grind[Cw,Wj,zm]
theorem sl{p:Vc}(h:p.ok):(-70368744177664<=(zm p).1/\(zm p).1<=70368744177664)/\(-70368744177664<=(zm p).2/\(zm p).2<=70368744177664):=by
 have h1:=Bg h.1
 have h2:=Bg h.2
 unfold zm
 omega
def NearIn(l:List Ent)(q:Vc)(r:Int)(D:Ent->Prop)(acc:List Int):Prop:=acc.Nodup/\∀id,id∈acc↔∃e∈l,e.1=id/\near q e.2 r=true/\D e
theorem NearIn.congr{l:List Ent}{q:Vc}{D D':Ent->Prop}{acc:List Int}(h:NearIn l q r D acc)(hD:∀e∈l,near q e.2 r=true->(D e↔D' e)):NearIn l q r D' acc:=by
 refine⟨h.1,λid=>?_⟩
 rw[h.2 id]
 grind
theorem NearIn.len{l:List Ent}{q:Vc}{D:Ent->Prop}{acc:List Int}(h:NearIn l q r D acc):acc.length<=l.length:=by
 have:=Fbh (l₂:=l.map (·.1)) h.1 (λid hid=>by
  obtain⟨e,h1,h2,_⟩:=(h.2 id).1 hid
  grind)
 grind
theorem NearIn.step{l:List Ent}(hn:(l.map (·.1)).Nodup){q:Vc}{D:Ent->Prop}{acc:List Int}(h:NearIn l q r D acc){e:Ent}(he:e∈l)(hD:¬D e):NearIn l q r (λe'=>D e'\/e'=e) (if near q e.2 r then acc++[e.1]else acc):=by
 cases hnr:near q e.2 r with
 |false=>
  refine h.congr λe' he' hn'=>⟨.inl,λhh=>hh.elim id λhh=>?_⟩
  grind
 |true=>
  refine⟨?_,λid=>?_⟩
  ·rw[if_pos rfl,Fct]
   refine⟨h.1,by simp,λa ha b hb=>?_⟩
   simp at hb
   subst hb
   intro hab
   subst hab
   obtain⟨e',h1,h2,_,h4⟩:=(h.2 _).1 ha
   grind[Lm]
  ·rw[if_pos rfl,Fas,h.2 id]
   grind
theorem zy8{l:List Ent}{G:List Grp}(h:Inv l G):G.length<=l.length:=by
 have h1:(G.map λg=>g.ns.headD 0).Nodup:=by
  unfold List.Nodup
  rw[List.pairwise_map]
  have n2:=h.n2
  unfold List.Nodup at n2
  rw[List.pairwise_map]at n2
  have key:∀g∈G,g.ns.headD 0∈g.ns:=λg hg=>by
   have:=(h.s g hg).2
   cases hns:g.ns with
   |nil=>grind
   |cons a t=>simp
  rw[Fb5]at n2⊢
  intro i j hi hj hij he
  obtain⟨e1,q1,q2,q3⟩:=(h.m1 G[i] (Faa hi) _).1 (key _ (Faa hi))
  obtain⟨e2,q4,q5,q6⟩:=(h.m1 G[j] (Faa hj) _).1 (key _ (Faa hj))
  refine n2 i j hi hj hij ?_
  rw[<-q3,<-q6,Lm h.n1 q4 q1 (by omega)]
 have:=Fbh (l₂:=l.map (·.1)) h1 (λid hid=>by
  obtain⟨g,hg,rfl⟩:=Fae.1 hid
  have:=(h.s g hg).2
  cases hns:g.ns with
  |nil=>grind
  |cons a t=>
   obtain⟨e,q1,q2,_⟩:=(h.m1 g hg a).1 (by grind)
   grind)
 grind
theorem zww{xs:List Int}(h:xs.Nodup):(xs.mergeSort λx y=>decide (x<=y)).Pairwise (·<·)/\∀n,n∈(xs.mergeSort λx y=>decide (x<=y))↔n∈xs:=by
 have h1:=List.pairwise_mergeSort (le:=λx y:Int=>decide (x<=y)) (λa b c h1 h2=>by grind) (λa b=>by grind) xs
 have h2:(xs.mergeSort λx y=>decide (x<=y)).Nodup:=(List.mergeSort_perm xs _).nodup_iff.2 h
 refine⟨?_,λn=>List.mem_mergeSort⟩
 have h3:=h1.and h2
 grind
def Mi(l:List Ent)(q:Vc)(r:Int)(ns:List Int):Prop:=ns.Pairwise (·<·)/\∀id,id∈ns↔∃e∈l,e.1=id/\near q e.2 r=true
theorem Gf{a:Store}{b:Nat}{x:AObj}(h:¬g.has b):(a.un g).sO b x=(a.sO b x).un g:=by
 obtain⟨h1,h2⟩:=kz h
 unfold Store.un Store.sO
 grind[ym]
theorem ybz{a:Store}{b:Nat}{x:AObj}(h:zg a g)(hb:¬g.has b):zg (a.sO b x) g:=by
 intro i hi hg
 rcases has_setObj_iff.1 hi with rfl|hi
 ·grind
 ·exact h i hi hg
theorem yby{a:Store}{b:Nat}{x y:AObj}(h:zg (a.sO b x) g):zg (a.sO b y) g/\¬g.has b:=by
 have h1:¬g.has b:=h b (has_setObj_iff.2 (.inl rfl))
 refine⟨λi hi hg=>?_,h1⟩
 rcases has_setObj_iff.1 hi with rfl|hi
 ·grind
 ·exact h i (has_setObj_iff.2 (.inr hi)) hg
theorem po{l:List Ent}(hn:(l.map (·.1)).Nodup){e:Ent}(he:e∈l):l.find? (kh e.1)=some e:=by
 cases hf:l.find? (kh e.1)with
 |none=>
  grind[kh]
 |some e'=>
  grind[kh,Lm]
end
def C8:Option Nat->Int|some i=>(i:Int)|none=>-1
theorem Kk(a b c:Store):(a.un b).un c=a.un (b.un c):=by
 unfold Store.un
 grind
theorem Al(a:Store):Store.empty.un a=a:=by
 unfold Store.un Store.empty
 congr<;>funext i
 ·grind
 grind
theorem disj_un{a b c:Store}:zg (a.un b) c↔zg a c/\zg b c:=
 ⟨λh=>⟨λi h1=>h i (un_has.2 (.inl h1)),λi h1=>h i (un_has.2 (.inr h1))⟩,λ⟨h1,h2⟩ i h=>(un_has.1 h).elim (h1 i) (h2 i)⟩
theorem za5{a g:Store}:(a.un g).Le g:=⟨λb y h=>⟨y,zd h,AObj.le_refl y⟩,λb x h=>Fb h⟩
theorem AWp.leS{P:Program}{c:Cfg}{code:Code}{Q:Exit->Fr->Store->Prop}{A:Fr}{st st':Store}(hle:st.Le st')(h:AWp P c code Q A st'):AWp P c code Q A st:=by
 refine⟨λOth M a w ⟨β,s⟩=>h.out Oth M a w ⟨β,{tsz:=s.tsz,dfr:=s.dfr,tm:=s.tm,bx:=s.bx,inj:=s.inj,sep:=λk b hk hb=>s.sep k b hk ?_,sto:=s.sto.weakenLe hle}⟩⟩
 rcases hb with hb|hb
 ·cases hx:st'.obj b with
  |none=>grind
  |some y=>
   obtain⟨x,h1,_⟩:=hle.obj b y hx
   grind
 ·cases hx:st'.tok b with
  |none=>grind
  |some y=>exact .inr (by rw[hle.tok b y hx];simp)
theorem jk{st:Store}{x:AV}{Oth M:Nat->Nat->Prop}{w:World}{v:Value}(h:VRel w (λb o=>M b o\/Oth b o) x v):VRel w (λb o=>(M b o\/Oth b o)/\st.obj b=none) x v:=
 h.mono λ_ _ h=>h.1
structure Bld where
 id:Int
 owner:Int
 x:Int
 y:Int
 w:Int
 h:Int
 deriving DecidableEq
structure Unt where
 id:Int
 owner:Int
 kind:Int
 pos:Vc
 goal:Int
 next:Int
 stuck:Int
 inn:Int
 state:Int
 deriving DecidableEq
structure Wld where
 tick:Int
 players:Int
 next:Int
 G:Gnd
 B:List Bld
 U:List Unt
 deriving DecidableEq
def zr(b:Bld):List AV:=[int b.id,int b.owner,int b.x,int b.y,int b.w,int b.h]
def zl(u:Unt):List AV:=[int u.id,int u.owner,int u.kind,int u.pos.1,int u.pos.2,int u.goal,int u.next,int u.stuck,int u.inn,int u.state]
def zk(w:Wld):List AV:=[int w.tick,int w.players,int w.next,int w.G.W,int w.G.H,qc w.G.T,lst 6 zr w.B,lst 10 zl w.U]
def Wld.fits(w:Wld):Prop:=w.G.fits/\w.B.length<=1000000000000/\w.U.length<=1000000000000
def zq(k:Int):Int:=if k=0 then 24576 else if k=2 then 81920 else 32768
def jy(k:Int):Int:=if k=0 then 16384 else if k=1 then 24576 else if k=2 then 8192 else 16384
def qa(k:Int):Int:=if k=0 then 0 else if k=1 then 1 else if k=2 then 0 else 2
def jz(k:Int):Int:=if k=2 then 1 else 0
def xz(k:Int):Int:=if k=0 then 0 else if k=1 then 0 else if k=2 then 0 else 4
def G9(k:Int):List AV:=[int (zq k),int (jy k),int (qa k),int (jz k),int (xz k)]
def Fu(k:Int):Prop:=0<=k/\k<=3
def Bb(c:Int)(t:Nat):Int:=((if c=0 then [2,1,3,5,0,0]else if c=1 then [2,1,6,0,0,0]else [2,1,0,3,2,0]):List Int).getD t 0
def y9(b:Bld):Prop:=(1<=b.id/\b.id<=1099511627776)/\(1<=b.owner/\b.owner<=8)/\(1<=b.w/\b.w<=4)/\(1<=b.h/\b.h<=4)
def onP(g:Gnd)(b:Bld):Prop:=(0<=b.x/\b.x+b.w<=g.W)/\(0<=b.y/\b.y+b.h<=g.H)
def Aj(g:Gnd)(b:Bld)(t:Nat):Prop:=(b.x<=(t:Int)%g.W/\(t:Int)%g.W<b.x+b.w)/\(b.y<=(t:Int)/g.W/\(t:Int)/g.W<b.y+b.h)
instance(g:Gnd)(b:Bld)(t:Nat):Decidable (Aj g b t):=inferInstanceAs (Decidable (_/\_))
def D2(g:Gnd)(b:Bld):Prop:=∀t,t<g.T.length->Aj g b t->(g.T.getD t 0).toNat<=1
def Bz(a b:Bld):Prop:=(a.x<b.x+b.w/\b.x<a.x+a.w)/\(a.y<b.y+b.h/\b.y<a.y+a.h)
def Ni(l:List Bld):Prop:=∀j,(h:j<l.length)->0<j->(l[j-1]'(by omega)).id<l[j].id
def yi(l:List Unt):Prop:=∀j,(h:j<l.length)->0<j->(l[j-1]'(by omega)).id<l[j].id
def Px(l:List Bld):Prop:=∀j,(h:j<l.length)->∀i,(hi:i<j)->¬Bz l[j] (l[i]'(by omega))
def Hm(g:Gnd)(l:List Bld):Prop:=l.length<=256/\Ni l/\(∀b∈l,y9 b/\onP g b/\D2 g b)/\Px l
def xn(g:Gnd)(l:List Bld)(t:Nat):Bool:=l.any λb=>decide (Aj g b t)
def yf(g:Gnd)(l:List Bld)(c:Int)(t:Nat):Bool:= !xn g l t&&decide (0<Bb c (g.T.getD t 0).toNat)
def tx(g:Gnd)(t:Nat):Int:=(t:Int)%g.W*65536
def ty(g:Gnd)(t:Nat):Int:=(t:Int)/g.W*65536
def off(x lo:Int):Int:=if x<lo then lo-x else if x>lo+65536 then x-(lo+65536)else 0
def wj(g:Gnd)(t:Nat)(p:Vc)(r:Int):Prop:=off p.1 (tx g t)*off p.1 (tx g t)+off p.2 (ty g t)*off p.2 (ty g t)<r*r
instance(g:Gnd)(t:Nat)(p:Vc)(r:Int):Decidable (wj g t p r):=inferInstanceAs (Decidable (_<_))
def Ak(g:Gnd)(l:List Bld)(c:Int)(p:Vc)(r:Int):Prop:=
 ((r<=p.1/\p.1+r<=g.W*65536)/\(r<=p.2/\p.2+r<=g.H*65536))/\∀t,t<g.T.length->yf g l c t=false->¬wj g t p r
def vf(p:Vc)(r:Int)(q:Vc)(s:Int):Bool:= !near p q (r+s)
def xi(w:Wld)(id k:Int)(p:Vc):Prop:=
 Ak w.G w.B (qa k) p (zq k)/\∀u∈w.U,u.inn=0->u.id≠id->vf p (zq k) u.pos (zq u.kind)=true
def wt(g:Gnd)(t:Int):Prop:=t=-1\/(0<=t/\t<g.W*g.H)
def xw(w:Wld)(u:Unt):Prop:=
 ((1<=u.id/\u.id<w.next)/\(1<=u.owner/\u.owner<=w.players)/\Fu u.kind)/\(wt w.G u.goal/\wt w.G u.next/\(0<=u.stuck/\u.stuck<8))∧
 ((0<=u.state/\u.state<=4)/\(u.state=1↔u.goal≠-1))/\(u.goal=-1->u.next=-1/\u.stuck=0)
def Ln(w:Wld):Prop:=
 ((0<=w.tick/\w.tick<=1099511627776)/\(1<=w.players/\w.players<=8)/\(1<=w.next/\w.next<=1099511627776))∧
 (zp w.G/\Hm w.G w.B/\w.U.length<=4096)/\∀b∈w.B,b.owner<=w.players/\b.id<w.next
def Kh(w:Wld):Prop:=yi w.U/\∀u∈w.U,xw w u/\∀b∈w.B,b.id≠u.id
def yd(l:List Unt)(id:Int):List Int:=(l.filter λu=>u.inn==id).map (·.id)
def Cq(w:Wld)(u:Unt):Prop:=
 ∃x∈w.U,x.id=u.inn/\(x.inn=0/\x.owner=u.owner)/\((yd w.U u.inn).length:Int)<=xz x.kind/\xz u.kind=0/\u.pos=(0,0)/\u.goal=-1/\u.state=0
def zx(w:Wld):Prop:=(Ln w/\Kh w)/\(∀u∈w.U,u.inn=0->xi w u.id u.kind u.pos)/\∀u∈w.U,u.inn≠0->Cq w u
theorem ydy(a b:Int):(a==b)=decide (a=b):=by rfl
theorem qr{g:Gnd}(h:zp g):1<=g.W*g.H/\g.W*g.H<=16384/\(g.T.length:Int)=g.W*g.H:=by
 obtain⟨⟨h1,h2⟩,⟨h3,h4⟩,h5,_⟩:=h
 have:1*1<=g.W*g.H:=Fbj h1 h3 (by decide) (by omega)
 have:g.W*g.H<=128*128:=Fbj h2 h4 (by omega) (by decide)
 omega
section
variable {x r w:Int} {g:Gnd} {t:Nat}
theorem cz{a b:Vc}(h1:-2305843009213693952<=a.1/\a.1<=2305843009213693952)(h2:-2305843009213693952<=a.2/\a.2<=2305843009213693952)(h3:-2305843009213693952<=b.1/\b.1<=2305843009213693952)(h4:-2305843009213693952<=b.2/\b.2<=2305843009213693952):
  qo a b=(a.1-b.1,a.2-b.2):=by
 have n:∀x:Int,-4611686018427387904<=x/\x<=4611686018427387904->nrm x=x:=λx hx=>by unfold nrm;omega
 have c:∀x:Int,-4611686018427387904<=x/\x<=4611686018427387904->ke x=x:=λx hx=>by unfold ke;omega
 grind[qo,yj,yx]
theorem cd(h:-4611686018427387904<=x/\x<=4611686018427387904):asz x*asz x=x*x:=by
 have n:nrm x=x:=by unfold nrm;omega
 grind[asz]
theorem mc{a b:Vc}(h1:-2305843009213693952<=a.1/\a.1<=2305843009213693952)(h2:-2305843009213693952<=a.2/\a.2<=2305843009213693952)(h3:-2305843009213693952<=b.1/\b.1<=2305843009213693952)(h4:-2305843009213693952<=b.2/\b.2<=2305843009213693952)(hr:0<r):
  near a b r=decide ((a.1-b.1)*(a.1-b.1)+(a.2-b.2)*(a.2-b.2)<r*r):=by
 unfold near sqr
 rw[cz h1 h2 h3 h4,cd (by omega),cd (by omega)]
 grind
theorem Gj(hg:zp g){t:Nat}(ht:(t:Int)<g.W*g.H):(0<=(t:Int)%g.W/\(t:Int)%g.W<g.W)/\(0<=(t:Int)/g.W/\(t:Int)/g.W<g.H):=by
 obtain⟨⟨h1,h2⟩,⟨h3,h4⟩,_⟩:=hg
 have h5:=Int.emod_nonneg (t:Int) (show g.W≠0 by omega)
 have h6:=Int.emod_lt_of_pos (t:Int) (show 0<g.W by omega)
 have h7:0<=(t:Int)/g.W:=Fci (by omega) (by omega)
 have h8:(t:Int)/g.W<g.H:=Int.ediv_lt_of_lt_mul (by omega) (by grind)
 omega
theorem Mw(hw:1<=w):(t:Int).tdiv w=(t:Int)/w:=Fa4 (by omega)
theorem Mv(hw:1<=w):(t:Int).tmod w=(t:Int)%w:=Int.tmod_eq_emod_of_nonneg (by omega)
theorem R0(hg:zp g){t:Nat}(ht:(t:Int)<g.W*g.H):(0<=tx g t/\tx g t<=8323072)/\(0<=ty g t/\ty g t<=8323072):=by
 have:=Gj hg ht
 obtain⟨⟨h1,h2⟩,⟨h3,h4⟩,_⟩:=hg
 unfold tx ty
 omega
def Dg(x lo:Int):Int:=min2 (max2 x lo) (lo+65536)
theorem min2_eq(a b:Int):min2 a b=min a b:=by grind[min2]
theorem max2_eq(a b:Int):max2 a b=max a b:=by grind[max2]
theorem sd(x lo:Int):Dg x lo=min (max x lo) (lo+65536):=by unfold Dg;rw[min2_eq,max2_eq]
theorem sc(x lo:Int):(x-Dg x lo)*(x-Dg x lo)=off x lo*off x lo:=by
 rw[sd]
 unfold off
 grind
theorem Po{lo:Int}(h:0<=lo/\lo<=8323072):0<=Dg x lo/\Dg x lo<=8388608:=by rw[sd];omega
theorem zwa(hg:zp g){t:Nat}(ht:(t:Int)<g.W*g.H){p:Vc}(hp:jj p.1 p.2)(hr:0<r):
  near p (Dg p.1 (tx g t),Dg p.2 (ty g t)) r=decide (wj g t p r):=by
 have hb:=R0 hg ht
 have h1:=Po (x:=p.1) hb.1
 have h2:=Po (x:=p.2) hb.2
 obtain⟨h3,h4⟩:=hp
 rw[mc (by omega) (by omega) (by omega) (by omega) hr]
 dsimp only
 rw[sc,sc]
 rfl
theorem ft{a:Int}(ha:0<=a)(hr:0<r)(h:a*a<r*r):a<r:=by
 apply Decidable.byContradiction
 intro hn
 have:r*r<=a*a:=Fbj (by omega) (by omega) (by omega) ha
 omega
end
def Store.dO(st:Store)(b:Nat):Store:={st with obj:=λi=>bif Nat.beq i b then none else st.obj i}
theorem Df{st:Store}{b b':Nat}{x:AObj}(h:(st.dO b).obj b'=some x):b'≠b/\st.obj b'=some x:=by
  have h:(bif Nat.beq b' b then none else st.obj b')=some x:=h
  grind[Nat.beq_refl]
theorem AWp.freeze{P:Program}{c:Cfg}{code:Code}{Q:Exit->Fr->Store->Prop}{A:Fr}{st:Store}{d b n cap k:Nat}{rows:List (List AV)}{pad:List AV}
    (hA:A.t d=.av (.s (.slice (some ⟨b,0,none⟩) n cap))) (ho:st.obj b=some (.cells (rows.flatten++pad))) (ht:st.tok b=none) (hn:rows.length=n) (hcap:n<=cap)
    (hk:∀row∈rows,row.length=k) (hall:∀row∈rows,∀x∈row,∃v,x=AV.s v/\ql v=true)
    (h:AWp P c code Q (A.put d (.av (.lst k rows none))) (st.dO b)):AWp P c code Q A st:=by
  refine⟨λOth M a w ⟨β,sim⟩=>?_⟩
  have hs:∀b' o,((M b' o/\b'≠b)\/Oth b' o)->(M b' o\/Oth b' o):=λ_ _ h=>h.imp (·.1) id
  have sim':SimB c.N Oth β (A.put d (.av (.lst k rows none))) (st.dO b) (λb' o=>M b' o/\b'≠b) a w:=by
    refine{tsz:=sim.tsz,dfr:=sim.dfr.sub λ_ _ h=>h.1,tm:=λi=>?_,bx:=λj l hj=>⟨(sim.bx j l hj).1.mono hs,λo=>⟨(sim.bx j l hj).2 o,?_⟩⟩,inj:=sim.inj,sep:=λj b' hj hb'=>?_,sto:=?_}
    · by_cases hi:i=d
      · subst hi
        have e:(A.put i (.av (.lst k rows none))).t i=.av (.lst k rows none):=by
          show(bif Nat.beq i i then _ else A.t i)=_
          simp
        rw[e]
        have h1:=sim.tm i
        rw[hA]at h1
        have h1:VRel w (λb o=>M b o\/Oth b o) (.s (.slice (some ⟨b,0,none⟩) n cap)) (a.tmps.getD i undef):=h1
        generalize a.tmps.getD i undef=v at h1
        cases h1
        obtain⟨⟨cs,e0,fr,hb0,huf,hlen,hrel⟩,hM⟩:=sim.sto.obj b _ ho
        subst hn
        have at1:∀(i:Nat) (row:List AV) (j:Nat) (x:AV),rows[i]?=some row->row[j]?=some x->∃v,x=.s v/\ql v=true/\cs[i*k+j]?=some v:=by
          intro i row j x hi hj
          obtain⟨v,rfl,hv⟩:=hall row (Fa2 hi) x (Fa2 hj)
          have h5:=Hg hk hi hj
          have hlt:=(Faq.1 h5).1
          have h6:(rows.flatten++pad)[i*k+j]?=some (.s v):=by grind
          have hlt2:i*k+j<cs.size:=by grind
          have h7:=hrel _ _ cs[i*k+j] h6 (by simp[hlt2])
          have:cs[i*k+j]=v:=by generalize cs[i*k+j]=y at h7;cases h7;rfl
          grind
        refine VRel.lst rows none b 0 cap k (λp=>cs.getD p undef) hcap (λi row hi=>hk row (Fa2 hi)) (λ_ h=>by cases h) (λi row j x hi hj=>?_) (λi row j x hi hj=>?_) (λi row j x hi hj=>?_)
        · obtain⟨v,rfl,hv,h5⟩:=at1 i row j x hi hj
          refine⟨?_,?_⟩
          · simp_all[World.cell?]
          · rintro(⟨_,h⟩|h)
            · omega
            · exact sim.sto.dis _ _ h (hM _)
        · obtain⟨v,rfl,hv,h5⟩:=at1 i row j x hi hj
          simp_all
        · obtain⟨v,rfl,hv,h5⟩:=at1 i row j x hi hj
          rw[Fba,h5];exact .s _
      · have e:(A.put d (.av (.lst k rows none))).t i=A.t i:=by
          show(bif Nat.beq i d then _ else A.t i)=_
          grind[xj]
        rw[e]
        have h1:=sim.tm i
        generalize A.t i=x at h1
        cases x with
        |any=>trivial
        |und=>exact h1
        |av x=>exact VRel.mono hs h1
        |bx k off=>exact h1
    · exact sim.sep j b (λe=>by rw[show A.bx j=some l from hj]at e;cases e) (.inl (by grind))
    · refine sim.sep j b' hj ?_
      rcases hb' with hb'|hb'
      · cases hx:(st.dO b).obj b' with
        |none=>grind
        |some y=>grind[Df]
      · exact .inr hb'
    · exact { obj:=λb' y hy=>⟨(sim.sto.obj b' y (Df hy).2).1.mono hs,λo=>⟨(sim.sto.obj b' y (Df hy).2).2 o,(Df hy).1⟩⟩
              tok:=λb' top htk=>by
                obtain⟨c,e,fr,h1,h2,h3,h4⟩:=sim.sto.tok b' top htk
                exact⟨c,e,fr,h1,h2,h3,λo ho=>⟨h4 o ho,λe=>by subst e;rw[show st.tok b'=some top from htk]at ht;cases ht⟩⟩
              mlt:=λb' o hm=>sim.sto.mlt b' o hm.1,olt:=sim.sto.olt,dis:=λb' o ho hm=>sim.sto.dis b' o ho hm.1}
  refine Code.wpF_mono ?_ (h.out Oth _ a w ⟨β,sim'⟩)
  rintro e a' w' ⟨A',st',M',h1,h2,h3⟩
  exact⟨A',st',M',h1,h2,{size:=h3.size,keep:=λb' o hb hm=>h3.keep b' o hb λh=>hm h.1,blk:=λb' hb hm=>h3.blk b' hb λo h=>hm o h.1,shp:=h3.shp,sub:=λb' o hm hb=>(h3.sub b' o hm hb).1,tape:=h3.tape,os:=h3.os,output:=h3.output}⟩
section
variable {g:Gnd} {n t i:Nat}
theorem Ph{st:Store}{b:Nat}{x:AObj}(h:st.obj b=none):(st.sO b x).dO b=st:=by
 unfold Store.sO Store.dO
 congr 1
 funext i
 by_cases hi:i=b
 ·subst hi;simp[h]
 ·simp[ym hi]
def wq(W:Int)(b:Bld)(y k:Nat):List Int:=(List.range k).map λ(x:Nat)=>b.x+(x:Int)+W*(b.y+(y:Int))
def w9(W:Int)(b:Bld)(k:Nat):List Int:=(List.range k).flatMap λy=>wq W b y b.w.toNat
def vq(W:Int)(b:Bld):List Int:=w9 W b b.h.toNat
theorem zbu(W:Int)(b:Bld)(y k:Nat):wq W b y (k+1)=wq W b y k++[b.x+(k:Int)+W*(b.y+(y:Int))]:=by
 unfold wq;rw[List.range_succ];simp
theorem R3(W:Int)(b:Bld)(k:Nat):w9 W b (k+1)=w9 W b k++wq W b k b.w.toNat:=by
 unfold w9;rw[List.range_succ];simp
theorem ep(W:Int)(b:Bld)(y k:Nat):(wq W b y k).length=k:=by unfold wq;simp
theorem R4(W:Int)(b:Bld)(k:Nat):(w9 W b k).length=k*b.w.toNat:=by
 induction k with
 |zero=>simp[w9]
 |succ k ih=>rw[R3,Fad,ih,ep,Fdd]
theorem eo(W:Int){b:Bld}(hb:y9 b):(vq W b).length<=16:=by
 unfold vq
 rw[R4]
 unfold y9 at hb
 have:b.h.toNat*b.w.toNat<=4*4:=Fda (by omega) (by omega)
 omega
theorem Ko(hg:zp g){x y:Int}(hx:0<=x/\x<g.W)(hy:0<=y/\y<g.H):
  0<=x+g.W*y/\x+g.W*y<g.W*g.H/\(x+g.W*y)%g.W=x/\(x+g.W*y)/g.W=y:=by
 obtain⟨⟨h1,h2⟩,⟨h3,h4⟩,_⟩:=hg
 have a1:0<=g.W*y:=Fa1 (by omega) hy.1
 have a2:g.W*y<=g.W*(g.H-1):=Fdg (by omega) (by omega)
 have a3:g.W*(g.H-1)=g.W*g.H-g.W:=by rw[Int.mul_sub,Int.mul_one]
 refine⟨by omega,by omega,?_,?_⟩
 ·rw[Int.add_mul_emod_self_left];exact Fdv hx.1 hx.2
 ·rw[Int.add_mul_ediv_left _ _ (by omega),Fc5 hx.1 hx.2];omega
theorem Fo(hg:zp g){b:Bld}(hb:y9 b)(ho:onP g b)(t:Int):t∈vq g.W b↔∃n:Nat,t=(n:Int)/\(n:Int)<g.W*g.H/\Aj g b n:=by
 have hb':=hb
 have ho':=ho
 unfold y9 at hb'
 unfold onP at ho'
 unfold vq w9 wq
 rw[List.mem_flatMap]
 constructor
 ·rintro⟨y,hy,hx⟩
  obtain⟨x,hx2,rfl⟩:=Fae.1 hx
  have hy:=Fbi.1 hy
  have hx:=Fbi.1 hx2
  obtain⟨q1,q2,q3,q4⟩:=Ko hg (x:=b.x+x) (y:=b.y+y) (by omega) (by omega)
  refine⟨(b.x+(x:Int)+g.W*(b.y+(y:Int))).toNat,by omega,by omega,?_⟩
  unfold Aj
  rw[show(((b.x+(x:Int)+g.W*(b.y+(y:Int))).toNat:Nat):Int)=b.x+(x:Int)+g.W*(b.y+(y:Int)) by omega,q3,q4]
  omega
 ·rintro⟨n,rfl,hn,hh⟩
  unfold Aj at hh
  refine⟨((n:Int)/g.W-b.y).toNat,Fbi.2 (by omega),Fae.2 ⟨((n:Int)%g.W-b.x).toNat,Fbi.2 (by omega),?_⟩⟩
  have:=Int.emod_add_mul_ediv (n:Int) g.W
  rw[show(((n:Int)%g.W-b.x).toNat:Int)=(n:Int)%g.W-b.x by omega,show(((n:Int)/g.W-b.y).toNat:Int)=(n:Int)/g.W-b.y by omega]
  rw[show b.x+((n:Int)%g.W-b.x)=(n:Int)%g.W by omega,show b.y+((n:Int)/g.W-b.y)=(n:Int)/g.W by omega]
  exact this
def bl(n:Nat)(f:Nat->Bool):List AV:=(List.range n).map λt=>bool (f t)
theorem Ao(n:Nat)(f:Nat->Bool):(bl n f).length=n:=by simp[bl]
theorem F8{f:Nat->Bool}(h:t<n):(bl n f)[t]?=some (bool (f t)):=by simp[bl,h]
theorem Pq(n:Nat):List.replicate n (AV.s (.bool false))=bl n λ_=>false:=by
 unfold bl
 rw[List.map_const',List.length_range]
 rfl
theorem I9{f:Nat->Bool}(h:t<n)(g:Nat->Bool)(hg:∀s,s≠t->g s=f s):zt (bl n f) t [bool (g t)]=bl n g:=by
 unfold zt
 apply Fbw
 intro s
 by_cases h1:s<t
 ·rw[Faz,Far (by rw[Fal,Ao];omega),Fbs h1,F8 (by omega),F8 (by omega),hg s (by omega)]
 ·by_cases h2:s=t
  ·subst h2
   rw[Faz,Fax (by rw[Fal,Ao];omega),Fal,Ao,show s-min s n=0 by omega,F8 h]
   rfl
  ·rw[Fax (by rw[Fad,Fal,Ao];simp;omega),Fad,Fal,Ao,Fce]
   by_cases h3:s<n
   ·have e:t+[bool (g t)].length+(s-(min t n+[bool (g t)].length))=s:=by simp;omega
    rw[e,F8 h3,F8 h3,hg s h2]
   ·rw[Fbp (by rw[Ao];simp;omega),Fbp (by rw[Ao];omega)]
def jd(g:Gnd)(l:List Bld)(i:Nat)(ts:List Int)(k:Nat)(t:Nat):Bool:=xn g (l.take i) t||(ts.take k).contains (t:Int)
theorem rm(g:Gnd)(l:List Bld)(i:Nat)(ts:List Int)(t:Nat):jd g l i ts 0 t=xn g (l.take i) t:=by simp[jd]
theorem rn{l:List Bld}{ts:List Int}{k n:Nat}(hk:k<ts.length)(hn:ts[k]=(n:Int)):
  jd g l i ts (k+1) n=true/\∀s,s≠n->jd g l i ts (k+1) s=jd g l i ts k s:=by
 unfold jd
 rw[Fac hk,hn]
 refine⟨by simp,λs hs=>?_⟩
 rw[List.contains_append]
 have:[((n:Nat):Int)].contains (s:Int)=false:=by simp;omega
 rw[this,Bool.or_false]
theorem ro(hg:zp g){l:List Bld}(hi:i<l.length)(hb:y9 l[i]/\onP g l[i])(ht:t<g.T.length):
  jd g l i (vq g.W l[i]) (vq g.W l[i]).length t=xn g (l.take (i+1)) t:=by
 have ha:=qr hg
 unfold jd xn
 rw[Fap,Fac hi,List.any_append]
 congr 1
 rw[Fc2,List.contains_iff_mem,Fo hg hb.1 hb.2]
 simp only[List.any_cons,List.any_nil,Bool.or_false,decide_eq_true_eq]
 constructor
 ·rintro⟨n,h1,_,h2⟩
  have:n=t:=by omega
  subst this;exact h2
 ·intro h
  exact⟨t,rfl,by omega,h⟩
def qd(b:Bool):List AV:=[bool b]
def blL(n:Nat)(f:Nat->Bool):List Bool:=(List.range n).map f
theorem D6(n:Nat)(f:Nat->Bool):(blL n f).length=n:=by simp[blL]
theorem Hn{f:Nat->Bool}(h:t<n):(blL n f)[t]'(by rw[D6];exact h)=f t:=by simp[blL]
theorem ydo(n:Nat)(f:Nat->Bool):(rws qd (blL n f)).flatten=bl n f:=by
 unfold rws blL bl qd
 induction List.range n with
 |nil=>rfl
 |cons a l ih=>simp at ih⊢;exact ih
theorem ydq{f:Nat->Bool}(h:t<n):(rws qd (blL n f))[t]?=some (qd (f t)):=by
 unfold rws blL
 simp[h]
end
section
variable {g:Gnd}
theorem zbt(W:Int)(b:Bld)(y k:Nat):(wq W b y k).Pairwise (·<·):=by grind[wq,List.pairwise_lt_range]
theorem zbr{W:Int}{b:Bld}(hW:1<=W)(hx:0<=b.x/\b.x+b.w<=W)(hw:1<=b.w)(k:Nat):(w9 W b k).Pairwise (·<·)/\∀t∈w9 W b k,t<W*(b.y+(k:Int)):=by
 induction k with
 |zero=>simp_all[w9]
 |succ k ih=>
  rw[R3]
  have hrow:∀t∈wq W b k b.w.toNat,W*(b.y+(k:Int))<=t/\t<W*(b.y+(k:Int))+W:=by
   intro t ht
   obtain⟨x,hx2,rfl⟩:=Fae.1 ht
   grind
  have e:W*(b.y+((k+1:Nat):Int))=W*(b.y+(k:Int))+W:=by grind
  grind[zbt]
theorem zbs(hg:zp g){b:Bld}(hb:y9 b/\onP g b):(vq g.W b).Pairwise (·<·):=by
 unfold y9 onP at hb
 exact(zbr hg.1.1 hb.2.1 (by omega) _).1
theorem zvy{l:List Int}(h:l.Pairwise (·<·)){k:Nat}(hk:k<l.length):l[k]∉l.take k:=by grind[List.getElem_of_mem,List.pairwise_iff_getElem]
theorem my(hg:zp g){a b:Bld}(ha:y9 a/\onP g a)(hb:y9 b/\onP g b):Bz a b↔∃t:Nat,(t:Int)<g.W*g.H/\Aj g a t/\Aj g b t:=by
 unfold y9 onP at ha hb
 unfold Bz
 constructor
 ·intro h
  obtain⟨q1,q2,q3,q4⟩:=Ko hg (x:=max a.x b.x) (y:=max a.y b.y) (by omega) (by omega)
  refine⟨(max a.x b.x+g.W*max a.y b.y).toNat,by omega,?_⟩
  grind[Aj]
 grind[Aj]
theorem covB_iff{l:List Bld}{t:Nat}:xn g l t=true↔∃b∈l,Aj g b t:=by grind[xn]
def br(g:Gnd)(l:List Bld)(i:Nat):Prop:=∀j,(h:j<l.length)->j<i->(y9 l[j]/\onP g l[j]/\D2 g l[j])/\∀k,(hk:k<j)->¬Bz l[j] (l[k]'(by omega))
theorem yde{l:List Bld}(h:br g l l.length):(∀b∈l,y9 b/\onP g b/\D2 g b)/\Px l:=by
 refine⟨λb hb=>?_,λj hj k hk=>(h j hj hj).2 k hk⟩
 obtain⟨j,hj,rfl⟩:=Faj hb
 exact(h j hj hj).1
theorem ycd(hg:zp g){l:List Bld}{i:Nat}(hi:i<l.length)(hb:y9 l[i]/\onP g l[i])(hup:br g l i):
  (∃t∈vq g.W l[i],xn g (l.take i) t.toNat=true)↔∃k,∃hk:k<i,Bz l[i] (l[k]'(by omega)):=by
 constructor
 ·rintro⟨t,ht,hc⟩
  obtain⟨n,rfl,hn,hh⟩:=(Fo hg hb.1 hb.2 t).1 ht
  rw[Fbb]at hc
  obtain⟨b,hb2,hh2⟩:=covB_iff.1 hc
  obtain⟨k,hk,rfl⟩:=Faj hb2
  rw[Fal]at hk
  rw[Fc7]at hh2
  have:=(hup k (by omega) (by omega)).1
  grind[my]
 ·rintro⟨k,hk,hm⟩
  have:=(hup k (by omega) (by omega)).1
  obtain⟨n,hn,h1,h2⟩:=(my hg hb ⟨this.1,this.2.1⟩).1 hm
  refine⟨(n:Int),(Fo hg hb.1 hb.2 _).2 ⟨n,rfl,hn,h1⟩,?_⟩
  rw[Fbb]
  refine covB_iff.2 ⟨l[k],?_,h2⟩
  have:(l.take i)[k]'(by grind)=l[k]:=Fc7
  grind
end
end Go.V
namespace Go.V
theorem Ow{g:Gnd}{t:Nat}{p:Vc}{r:Int}(hr:0<r)(h:wj g t p r):
  (tx g t<p.1+r/\p.1-r<tx g t+65536)/\(ty g t<p.2+r/\p.2-r<ty g t+65536):=by
 unfold wj at h
 have n:∀x lo:Int,0<=off x lo:=λx lo=>by grind[off]
 have a:=ft (n p.1 (tx g t)) hr (by have:=Fa1 (n p.2 (ty g t)) (n p.2 (ty g t));omega)
 have b:=ft (n p.2 (ty g t)) hr (by have:=Fa1 (n p.1 (tx g t)) (n p.1 (tx g t));omega)
 grind[off]
section
variable {P:Program} {c:Cfg}
theorem qy{ops:Array Oper}{o:Oper}{A:Fr}{go skip:Fr->Prop}(hg:o.guard=none)(h:go A):F4 ops o A go skip:=by
 unfold F4;grind
theorem qw{o:Oper}{t:TypeId}{a x:Operand}{K:Fr->Store->Prop}{A:Fr}{st:Store}{i:TI}{v:AV}(ho:o.op=.store t a x)(hd:o.dst=none)(hi:c.I t=some i)(hx:A.ev x=.av v)(h:Dm i A st (A.ev a) v K):Av P c o K A st:=by
 unfold Av
 rw[ho]
 show Cm P c o K A st
 simp_all[Cm,za]
end
theorem mp{A:Int}{m:Nat}(h:(m:Int)<A):A.toNat-(m+1)<A.toNat-m:=by omega
theorem bp(a:Int)(m:Nat):a+((m+1:Nat):Int)=a+(m:Int)+1:=by omega
theorem Ok{A x:Int}{m:Nat}(h:x+(m:Int)<A):((m+1:Nat):Int)<=A-x:=by omega
def I6(g:Gnd)(l:List Bld)(c:Int)(p:Vc)(r y:Int):Prop:=∀t,t<g.T.length->(t:Int)/g.W<y->yf g l c t=false->¬wj g t p r
def L7(g:Gnd)(l:List Bld)(c:Int)(p:Vc)(r y x:Int):Prop:=∀t,t<g.T.length->(t:Int)/g.W=y->(t:Int)%g.W<x->yf g l c t=false->¬wj g t p r
theorem ycu{g:Gnd}{l:List Bld}{c:Int}{p:Vc}{r:Int}(hr:0<r)(hp:0<=p.2-r):I6 g l c p r ((p.2-r)/65536):=by
 intro t _ hy _ hh
 have:=(Ow hr hh).2
 grind[ty]
theorem ycx{g:Gnd}{l:List Bld}{c:Int}{p:Vc}{r y:Int}(hr:0<r)(hp:0<=p.1-r):L7 g l c p r y ((p.1-r)/65536):=by
 intro t _ _ hx _ hh
 have:=(Ow hr hh).1
 grind[tx]
theorem ycy{g:Gnd}(hg:zp g){l:List Bld}{c:Int}{p:Vc}{r y x:Int}(hr:0<r)(hp:0<=p.1+r)(hx:¬(x<=(p.1+r)/65536)\/¬(x<g.W))(hu:I6 g l c p r y)(h:L7 g l c p r y x):I6 g l c p r (y+1):=by
 intro t ht hy ho hh
 by_cases e:(t:Int)/g.W=y
 ·by_cases e2:(t:Int)%g.W<x
  ·exact h t ht e e2 ho hh
  ·have h1:=(Ow hr hh).1
   have h2:=(Gj hg (t:=t) (by have:=(qr hg).2.2;omega)).1
   grind[tx]
 ·exact hu t ht (by omega) ho hh
theorem ycv{g:Gnd}(hg:zp g){l:List Bld}{c:Int}{p:Vc}{r y:Int}(hr:0<r)(hp:0<=p.2+r)(hy:¬(y<=(p.2+r)/65536)\/¬(y<g.H))(hu:I6 g l c p r y):∀t,t<g.T.length->yf g l c t=false->¬wj g t p r:=by
 intro t ht ho hh
 by_cases e:(t:Int)/g.W<y
 ·exact hu t ht e ho hh
 ·have h1:=(Ow hr hh).2
  have h2:=(Gj hg (t:=t) (by have:=(qr hg).2.2;omega)).2
  grind[ty]
theorem ycw{g:Gnd}(hg:zp g){l:List Bld}{c:Int}{p:Vc}{r y x:Int}(hx:0<=x/\x<g.W)(hy:0<=y/\y<g.H)(h:L7 g l c p r y x)(hn:yf g l c (x+g.W*y).toNat=false->¬wj g (x+g.W*y).toNat p r):L7 g l c p r y (x+1):=by
 intro t ht e1 e2 ho
 by_cases e:(t:Int)%g.W<x
 ·exact h t ht e1 e ho
 ·have e3:(t:Int)%g.W=x:=by omega
  have q:=Int.emod_add_mul_ediv (t:Int) g.W
  grind
theorem oi{F N S:Store}(hd:zg F N):((F.un N).un S).Has (F.un S):=by
 refine⟨λb y h=>?_,λb x h=>?_⟩
 ·rcases dz h with h1|⟨h1,h2⟩
  ·exact zd h1
  ·have h3:(F.un N).obj b=some y:=yr hd h2
   show(match S.obj b with|some y=>some y|none=>(F.un N).obj b)=some y
   rw[h1];exact h3
 ·rcases dw h with h1|⟨h1,h2⟩
  ·exact Fb h1
  ·have h3:(F.un N).tok b=some x:=Ki hd h2
   show(match S.tok b with|some y=>some y|none=>(F.un N).tok b)=some x
   rw[h1];exact h3
theorem Cp{l:List Unt}(hr:yi l){a b:Nat}(hab:a<b)(hb:b<l.length):(l[a]'(by omega)).id<l[b].id:=by
 induction b with
 |zero=>omega
 |succ b ih=>
  have h3:=hr (b+1) hb (by omega)
  simp only[Fdn]at h3
  by_cases e:a=b
  ·subst e;exact h3
  ·have:=ih (by omega) (by omega)
   omega
theorem Gu{l:List Unt}(hr:yi l){u v:Unt}(hu:u∈l)(hv:v∈l)(h:u.id=v.id):u=v:=by
 obtain⟨a,ha,rfl⟩:=Faj hu
 obtain⟨b,hb,rfl⟩:=Faj hv
 rcases Nat.lt_trichotomy a b with q|q|q
 ·have:=Cp hr q hb;omega
 ·subst q;rfl
 ·have:=Cp hr q ha;omega
def Bv(w:Wld)(L:List Ent):Prop:=∀e,e∈L↔∃u∈w.U,u.inn=0/\e=(u.id,u.pos)
theorem Vi{w:Wld}{L:List Ent}(h:Bv w L)(hn:∀u∈w.U,u.pos.ok):∀e∈L,e.2.ok:=λe he=>by
 obtain⟨u,hu,_,rfl⟩:=(h e).1 he
 exact hn u hu
def G4(w:Wld)(p:Vc)(r:Int)(us:List Unt):Prop:=∀u,u∈us↔(u∈w.U/\u.inn=0)/\near p u.pos r=true
theorem mg{w:Wld}{L:List Ent}(hr:yi w.U)(hL:Bv w L){p:Vc}{r:Int}{ns:List Int}(hn:Mi L p r ns){us:List Unt}(h1:us.map (·.id)=ns)(h2:∀u∈us,u∈w.U/\u.inn=0):G4 w p r us:=by
 intro u
 constructor
 ·intro hu
  refine⟨h2 u hu,?_⟩
  have:u.id∈ns:=by rw[<-h1];exact Fae.2 ⟨u,hu,rfl⟩
  obtain⟨e,he,h3,h4⟩:=(hn.2 _).1 this
  obtain⟨v,hv,_,rfl⟩:=(hL e).1 he
  rw[Gu hr (h2 u hu).1 hv h3.symm]
  exact h4
 ·rintro⟨⟨h3,h4⟩,h5⟩
  have:u.id∈ns:=(hn.2 _).2 ⟨(u.id,u.pos),(hL _).2 ⟨u,h3,h4,rfl⟩,rfl,h5⟩
  rw[<-h1]at this
  obtain⟨v,hv,h6⟩:=Fae.1 this
  rw[Gu hr h3 (h2 v hv).1 h6.symm]
  exact hv
theorem Fv(k:Int):0<zq k/\zq k<=81920:=by unfold zq;split<;>(try split)<;>omega
theorem Oi(k:Int):qa k=0\/qa k=1\/qa k=2:=by unfold qa;split<;>(try split)<;>(try split)<;>omega
theorem mf{a b:Vc}{r r':Int}(h:r<=r')(hn:near a b r=true):near a b r'=true:=by
 unfold near at*
 rw[decide_eq_true_iff]at*
 have:r*r<=r'*r':=Fbj h h (by omega) (by omega)
 omega
theorem sa{w:Wld}{id k:Int}{q:Vc}{us:List Unt}(hf:Ak w.G w.B (qa k) q (zq k))(hus:G4 w q (zq k+81920) us):
  xi w id k q↔∀u∈us,u.id≠id->vf q (zq k) u.pos (zq u.kind)=true:=by
 constructor
 ·intro h u hu hne
  have:=(hus u).1 hu
  exact h.2 u this.1.1 this.1.2 hne
 ·intro h
  refine⟨hf,λu hu h0 hne=>?_⟩
  unfold vf
  cases hc:near q u.pos (zq k+zq u.kind)with
  |false=>rfl
  |true=>
   have h1:=mf (r':=zq k+81920) (by have:=Fv u.kind;omega) hc
   have:=h u ((hus u).2 ⟨⟨hu,h0⟩,h1⟩) hne
   unfold vf at this
   rw[hc]at this
   exact this
end Go.V
namespace Go.V
def yb{α:Type}(f:α->AV)(e:Int×α):AV×AV:=(int e.1,f e.2)
def ye{α:Type}(cs:List (Int×α))(k:Int):Option α:=(cs.find? λe=>k==e.1).map (·.2)
def ya{α:Type}:List (Int×α)->Int->α->List (Int×α)
 |[],k,v=>[(k,v)]
 |e::l,k,v=>if k==e.1 then(k,v)::l else e::ya l k v
theorem pr{α:Type}(f:α->AV)(cs:List (Int×α))(k:Int):(cs.map (yb f)).find? (qA k)=(cs.find? λe=>k==e.1).map (yb f):=by
 rw[List.find?_map];rfl
theorem Fq{α:Type}(f:α->AV)(cs:List (Int×α))(k:Int)(z:AV):C6 false z ((cs.map (yb f)).find? (qA k))=((ye cs k).map f).getD z:=by
 rw[pr]
 unfold ye
 cases cs.find? λe=>k==e.1 with
 |none=>rfl
 |some e=>rfl
theorem lb{α:Type}(f:α->AV)(k:Int)(v:α):∀cs:List (Int×α),
  (match(cs.map (yb f)).findIdx? (qA k)with|some i=>(cs.map (yb f)).set i (int k,f v)|none=>cs.map (yb f)++[(int k,f v)])=(ya cs k v).map (yb f)
 |[]=>rfl
 |e::l=>by
  have ih:=lb f k v l
  rw[Fb0,List.findIdx?_cons]
  unfold ya
  by_cases h:k==e.1
  ·have h2:qA k (yb f e)=true:=h
   rw[h2]
   simp only[h,if_true,List.set_cons_zero,Fb0]
   rfl
  ·have h:(k==e.1)=false:=by simpa using h
   have h2:qA k (yb f e)=false:=h
   rw[h2]
   simp only[h,if_false,Fb0]
   cases hx:(l.map (yb f)).findIdx? (qA k)with
   |none=>rw[hx]at ih;simp at ih⊢;exact ih
   |some i=>rw[hx]at ih;simp at ih⊢;exact ih
theorem Il{α:Type}(f:α->AV)(cs:List (Int×α))(bs:List Nat)(clk:Nat)(k:Int)(v:α):∃bs' clk',jl (cs.map (yb f)) bs clk (qA k) (int k) (f v)=.map ((ya cs k v).map (yb f)) bs' clk':=by
 have h:=lb f k v cs
 unfold jl
 cases hx:(cs.map (yb f)).findIdx? (qA k)with
 |none=>rw[hx]at h;exact⟨_,_,by rw[<-h]⟩
 |some i=>rw[hx]at h;exact⟨_,_,by rw[<-h]⟩
theorem Bm{α:Type}(k:Int)(v:α)(j:Int):∀cs:List (Int×α),ye (ya cs k v) j=if j=k then some v else ye cs j
 |[]=>by
  unfold ya ye
  by_cases h:j=k<;>simp[h]
 |e::l=>by
  have ih:=Bm k v j l
  unfold ye at ih⊢
  by_cases h:k=e.1
  ·have h1:(k==e.1)=true:=by simpa using h
   rw[show ya (e::l) k v=(k,v)::l by unfold ya;simp[h1]]
   by_cases h2:j=k
   ·simp[h2]
   ·have e1:(j==k)=false:=by simpa using h2
    have e2:(j==e.1)=false:=by rw[<-h];exact e1
    rw[List.find?_cons,List.find?_cons,if_neg h2]
    simp only[e1,e2]
  ·have h1:(k==e.1)=false:=by simpa using h
   rw[show ya (e::l) k v=e::ya l k v by rw[ya];simp[h1]]
   rw[List.find?_cons,List.find?_cons]
   by_cases h2:j=e.1
   ·have e1:(j==e.1)=true:=by simpa using h2
    simp only[e1]
    rw[if_neg (by omega)]
   ·have e1:(j==e.1)=false:=by simpa using h2
    simp only[e1]
    exact ih
end Go.V
namespace Go.V
theorem Lk{l:List Unt}{i:Nat}(hi:i<l.length)(id:Int):((yd (l.take (i+1)) id).length:Int)=((yd (l.take i) id).length:Int)+(if l[i].inn=id then 1 else 0):=by
 unfold yd
 rw[Fac hi,Fdp,Fa3,Fad]
 by_cases h:l[i].inn=id
 ·simp[h]
 ·simp[h]
theorem nz{l:List Unt}(i:Nat)(id:Int):(yd (l.take i) id).length<=(yd l id).length:=by
 have h:(yd l id).length=(yd (l.take i) id).length+(yd (l.drop i) id).length:=by
  unfold yd
  rw[<-Fad,<-Fa3,<-Fdp,Fb1]
 omega
def Sq(w:Wld)(i:Nat):Prop:=
 (∀j,(h:j<w.U.length)->j<i->w.U[j].inn≠0->∃x∈w.U,x.id=w.U[j].inn/\(x.inn=0/\x.owner=w.U[j].owner)/\xz w.U[j].kind=0/\w.U[j].pos=(0,0)/\w.U[j].goal=-1/\w.U[j].state=0)∧
 ∀x∈w.U,x.id≠0->((yd (w.U.take i) x.id).length:Int)<=xz x.kind
theorem ztv{w:Wld}(h:Sq w w.U.length):∀u∈w.U,u.inn≠0->Cq w u:=by
 intro u hu hne
 obtain⟨j,hj,rfl⟩:=Faj hu
 obtain⟨x,hx,h1,h2,h3,h4,h5,h6⟩:=h.1 j hj hj hne
 have:=h.2 x hx (by rw[h1];exact hne)
 rw[Fap,h1]at this
 exact⟨x,hx,h1,h2,this,h3,h4,h5,h6⟩
theorem V7(k:Int):0<=xz k/\xz k<=4:=by unfold xz;split<;>(try split)<;>(try split)<;>omega
end Go.V
namespace Go.V
def Ge(w:Wld)(i:Nat):Prop:=∀j,(h:j<w.U.length)->j<i->(xw w w.U[j]/\∀b∈w.B,b.id≠w.U[j].id)/\(0<j->(w.U[j-1]'(by omega)).id<w.U[j].id)
theorem zay{w:Wld}(h:Ge w w.U.length):Kh w:=by
 refine⟨λj hj h0=>(h j hj hj).2 h0,λu hu=>?_⟩
 obtain⟨j,hj,rfl⟩:=Faj hu
 exact(h j hj hj).1
theorem zax{w:Wld}(h:Kh w)(i:Nat):Ge w i:=λj hj _=>⟨h.2 _ (Faa hj),h.1 j hj⟩
end Go.V
namespace Go.V
def RowsO{α:Type}(k:Nat)(f:α->List AV)(st:Store)(v:AV)(l:List α):Prop:=
 (v=.s (.slice none 0 0)/\l=[])\/∃b cap L,v=.s (.slice (some ⟨b,0,none⟩) l.length cap)/\st.obj b=some (.cells ((rws f l).flatten++L))/\l.length<=cap/\cap*k<=l.length*k+L.length/\cap<=9223372036854775807
section
variable {α:Type} {f:α->List AV} {k:Nat}
theorem Fi(hf:∀x,(f x).length=k)(l:List α):(rws f l).flatten.length=l.length*k:=by
 induction l with
 |nil=>simp[rws]
 |cons a l ih=>
  show(f a++(rws f l).flatten).length=(l.length+1)*k
  rw[Fad,hf,ih,Fdd];omega
theorem Nb(a b:List α):(rws f (a++b)).flatten=(rws f a).flatten++(rws f b).flatten:=by
 rw[<-Gt,Fdk]
theorem Na{l:List α}{i:Nat}(hi:i<l.length):(rws f l).flatten=(rws f (l.take i)).flatten++(f l[i]++(rws f (l.drop (i+1))).flatten):=by
 have e:l=l.take i++(l[i]::l.drop (i+1)):=by
  rw[<-Fdr hi,Fb1]
 have e2:(rws f (l[i]::l.drop (i+1))).flatten=f l[i]++(rws f (l.drop (i+1))).flatten:=rfl
 rw[<-e2,<-Nb,<-e]
theorem zpt{X Y ys:List AV}{j:Nat}(h:j+ys.length<=X.length):zt (X++Y) j ys=zt X j ys++Y:=by
 unfold zt
 rw[Fcl (by omega),List.drop_append_of_le_length (by omega)]
 simp only[Faz]
theorem fz(hf:∀x,(f x).length=k){l:List α}{i j:Nat}(hi:i<l.length){x':α}{ys L:List AV}(hj:j+ys.length<=k)(hx:f x'=zt (f l[i]) j ys):
  zt ((rws f l).flatten++L) (i*k+j) ys=(rws f (l.set i x')).flatten++L:=by
 have h1:(rws f (l.take i)).flatten.length=i*k:=by rw[Fi hf,Fal,Nat.min_eq_left (by omega)]
 have hi2:i<(l.set i x').length:=by rw[Faw];exact hi
 rw[Na hi,Na hi2,Faz,Faz,<-h1,fx]
 have e1:(l.set i x').take i=l.take i:=by rw[List.take_set_of_le (Fah i)]
 have e2:(l.set i x').drop (i+1)=l.drop (i+1):=by rw[List.drop_set_of_lt (by omega)]
 rw[e1,e2,Fde,hx]
 have h3:=hf l[i]
 rw[Faz,zpt (by omega)]
 simp only[Faz]
theorem RowsO.un{a g:Store}{v:AV}{l:List α}(h:RowsO k f g v l):RowsO k f (a.un g) v l:=by
 rcases h with h|⟨b1,cap,L,h1,h2,h3⟩
 ·exact .inl h
 ·exact .inr ⟨b1,cap,L,h1,zd h2,h3⟩
theorem RowsO.unL{a g:Store}{v:AV}{l:List α}(h:RowsO k f a v l)(hd:zg a g):RowsO k f (a.un g) v l:=by
 rcases h with h|⟨b1,cap,L,h1,h2,h3⟩
 ·exact .inl h
 ·exact .inr ⟨b1,cap,L,h1,yr hd h2,h3⟩
theorem RowsO.borrow{st:Store}{v:AV}{l:List α}(hf:∀x,(f x).length=k)(hs:∀x,∀y∈f x,∃u,y=AV.s u/\ql u=true)(hv:RowsO k f st v l){Oth M:Nat->Nat->Prop}{w:World}(sto:StoreOK st Oth M w){x:Value}(hx:VRel w (λb o=>M b o\/Oth b o) v x):
  VRel w (λb o=>(M b o\/Oth b o)/\st.obj b=none) (lst k f l) x:=by
 rcases hv with⟨rfl,rfl⟩|⟨b,cap,L,rfl,ho,h1,h2,h3⟩
 ·cases hx
  exact AV.le_nil k _ _ _ (.s _)
 ·cases hx
  exact sw (sto.obj b _ ho).1 (λo hT=>by rw[ho]at hT;exact absurd hT.2 (by simp)) (zh l) h1
   (λrow hr=>by obtain⟨n,_,rfl⟩:=Fae.1 hr;exact hf n) (λrow hr y hy=>by
    obtain⟨n,_,rfl⟩:=Fae.1 hr
    exact hs n y hy)
theorem yd9{P:Program}{c:Cfg}{e:TypeId}{ie:TI}(hie:c.I e=some ie)(hf:∀x,(f x).length=ie.size)(hby:ie.bytes<=1000){st:Store}{v:AV}{l:List α}(hv:RowsO ie.size f st v l)(x:α){src:AV}(hsrc:jv ie.size (.av src)=some [f x])(hlen:l.length<=1000000000){K:Ja}
  (h:∀b cap L,(Fresh st b\/∃c0,v=.s (.slice (some ⟨b,0,none⟩) l.length c0))->(l++[x]).length<=cap->cap*ie.size<=(l++[x]).length*ie.size+L.length->cap<=9223372036854775807->
   K (.s (.slice (some ⟨b,0,none⟩) (l++[x]).length cap)) (st.sO b (.cells ((rws f (l++[x])).flatten++L)))):appendK P c st e (.av v) (.av src) K:=by
 refine⟨.inr ⟨v,_,rfl,rfl,?_⟩⟩
 have hl:(l++[x]).length=l.length+1:=by simp
 have hfl:=Fi hf l
 have hmul:(l.length+1)*ie.bytes<=1000000001*1000:=Fda (by omega) hby
 have happ:(rws f (l++[x])).flatten=(rws f l).flatten++f x:=by
  rw[Nb]
  show _++(f x++[])=_
  rw[Fc0]
 rcases hv with⟨rfl,rfl⟩|⟨b,cap,L,rfl,ho,h1,h2,h3⟩
 ·refine tg hie hsrc ⟨by simp at hmul⊢;omega,by simp⟩ (by simp) (λb' cap' hb hc hc2=>?_)
  have:=h b' cap' (List.replicate ((cap'-[f x].length)*ie.size) .any) (.inl hb) (by simpa using hc) (by
   simp only[Fao,Fdj,Fbc,<-Fcp]
   exact Fa5 _ (by omega)) hc2
  exact this
 ·refine ck hie (cap:=cap) ho (by rw[Fad,hfl];exact h2) h1 hsrc ⟨by simp;omega,by simp;omega⟩ (λhc=>?_) (λhc b' cap' hb hc1 hc2=>?_)
  ·have hc:l.length+1<=cap:=hc
   have hcm:(l.length+1)*ie.size<=cap*ie.size:=Fa5 _ hc
   rw[Fdd]at hcm
   have e1:zt ((rws f l).flatten++L) (l.length*ie.size) [f x].flatten=(rws f (l++[x])).flatten++L.drop ie.size:=by
    rw[Gl hfl,happ]
    simp[hf x]
   have:=h b cap (L.drop ie.size) (.inr ⟨cap,rfl⟩) (by omega) (by rw[hl,Fdd,List.length_drop];omega) h3
   rw[hl,<-e1]at this
   exact this
  ·have hc1:l.length+1<=cap':=hc1
   have e1:((rws f l).flatten++L).take (l.length*ie.size)++[f x].flatten++List.replicate ((cap'-(l.length+1))*ie.size) .any=(rws f (l++[x])).flatten++List.replicate ((cap'-(l.length+1))*ie.size) .any:=by
    rw[Fcl (by omega),Fco (by omega),happ]
    simp
   have:=h b' cap' (List.replicate ((cap'-(l.length+1))*ie.size) .any) (.inl hb) (by omega) (by
    rw[hl,Fao,<-Fcp]
    exact Fa5 _ (by omega)) hc2
   rw[hl,<-e1]at this
   exact this
end
theorem Cn(u:Unt):(zl u).length=10:=rfl
theorem Rv(u:Unt):∀y∈zl u,∃x,y=AV.s x/\ql x=true:=by
 intro y hy
 simp[zl]at hy
 rcases hy with rfl|rfl|rfl|rfl|rfl|rfl|rfl|rfl|rfl|rfl<;>exact⟨_,rfl,rfl⟩
def q9(w:Wld)(v:AV):List AV:=[int w.tick,int w.players,int w.next,int w.G.W,int w.G.H,qc w.G.T,lst 6 zr w.B,v]
theorem Kz{l:List Unt}(hr:yi l){a b:Nat}(hab:a<b)(hb:b<l.length):(l[a]'(by omega)).id<l[b].id:=by
 induction b with
 |zero=>omega
 |succ b ih=>
  have h3:=hr (b+1) hb (by omega)
  simp only[Fdn]at h3
  by_cases e:a=b
  ·subst e;exact h3
  ·have:=ih (by omega) (by omega)
   omega
theorem ku{i:TI}{A:Fr}{st:Store}{b o:Nat}{v:AV}{xs l:List AV}{K:Fr->Store->Prop}(hc:cellsOf v=some xs)(h1:xs.all AV.one=true)(hi:i.size=xs.length)(ho:st.obj b=some (.cells l))(hl:o+xs.length<=l.length)
  (hk:K A (st.sO b (.cells (zt l o xs)))):Dm i A st (.av (.s (.pointer (some ⟨b,o,none⟩)))) v K:=by
 unfold Dm
 rw[hc]
 show(bif Nat.beq xs.length i.size&&(xs.all AV.one)then _ else False)
 rw[hi]
 simp only[h1,Fbo,Fdx,cond_true]
 rw[ho]
 exact⟨hl,Hf hk⟩
theorem K4(k:Int):24576<=zq k/\zq k<=81920:=by unfold zq;split<;>(try split)<;>omega
theorem Lt{g:Gnd}(hg:zp g){l:List Bld}{c:Int}{p:Vc}{k:Int}(h:Ak g l c p (zq k)):(24576<=p.1/\p.1+24576<=g.W*65536)/\(24576<=p.2/\p.2+24576<=g.H*65536)/\(p.1<=8388608/\p.2<=8388608):=by
 have h1:=h.1
 have h2:=K4 k
 obtain⟨⟨_,h3⟩,⟨_,h4⟩,_⟩:=hg
 omega
def kr(g:Gnd)(p:Vc):Nat:=(p.1/65536+g.W*(p.2/65536)).toNat
theorem et{g:Gnd}(hg:zp g){p:Vc}(h:(0<=p.1/\p.1<g.W*65536)/\(0<=p.2/\p.2<g.H*65536)):
  ((kr g p:Nat):Int)=p.1/65536+g.W*(p.2/65536)/\kr g p<g.T.length/\((kr g p:Nat):Int)%g.W=p.1/65536/\((kr g p:Nat):Int)/g.W=p.2/65536:=by
 have hs:=Ko hg (x:=p.1/65536) (y:=p.2/65536) (by omega) (by omega)
 have ha:=qr hg
 unfold kr
 generalize p.1/65536=x at*
 generalize p.2/65536=y at*
 have e:((x+g.W*y).toNat:Int)=x+g.W*y:=by omega
 rw[e]
 exact⟨rfl,by omega,hs.2.2.1,hs.2.2.2⟩
theorem ACalls.frozen{P:Program}{f:FuncId}{xs:List AV}{Q:Ja}{R:AV->Prop}(h:ACalls P f xs Store.empty Q)
  (hQ:∀r S,Q r S->∃r2,R r2/\∀(Oth M:Nat->Nat->Prop) (w:World) (v:Value),StoreOK S Oth M w->VRel w (λb o=>M b o\/Oth b o) r v->VRel w (λb o=>(M b o\/Oth b o)/\S.obj b=none) r2 v):
  ACalls P f xs Store.empty λr _=>R r:=by
 refine⟨λOth M w vs sto hr=>?_⟩
 have h1:=h.out Oth M w vs sto hr
 have key:∀v w',qh Store.empty Q Oth M w v w'->qh Store.empty (λr _=>R r) Oth M w v w':=by
  rintro v w' ⟨r,S,M',hq,hv,hs,hc⟩
  obtain⟨r2,hr2,hk⟩:=hQ r S hq
  refine⟨r2,Store.empty,λb o=>M' b o/\S.obj b=none,hr2,(hk Oth M' w' v hs hv).mono λb o hT=>?_,?_,?_⟩
  ·rcases hT with⟨h1,h2⟩|h1
   ·exact⟨.inl h1,h2⟩
   ·refine⟨.inr h1,?_⟩
    cases hb:S.obj b with
    |none=>rfl
    |some y=>exact absurd ((hs.obj b y hb).2 o) (hs.dis b o h1)
  ·exact{obj:=λb x hx=>(by cases hx),tok:=λb x hx=>(by cases hx),mlt:=λb o hm=>hs.mlt b o hm.1,olt:=hs.olt,dis:=λb o ho hm=>hs.dis b o ho hm.1}
  ·exact{size:=hc.size,keep:=hc.keep,blk:=hc.blk,shp:=hc.shp,sub:=λb o hm hb=>hc.sub b o hm.1 hb,tape:=hc.tape,os:=hc.os,output:=hc.output}
 generalize(callFunc f vs).run P w=res at h1
 cases res with
 |ok n w'=>
  cases n with
  |enter g args=>exact Calls.mono h1 λe w'' ⟨v,he,hv⟩=>⟨v,he,key _ _ hv⟩
  |value v=>exact key _ _ h1
  |_=>exact h1
 |_=>exact h1
theorem ACalls.frozenTo{P:Program}{f:FuncId}{xs:List AV}{st0:Store}{Q:Ja}{R:Ja}(h:ACalls P f xs st0 Q)
    (hQ:∀r S,Q r S->∃r2 S2,R r2 S2/\(∀b x,S2.obj b=some x->S.obj b=some x)/\(∀b x,S2.tok b≠some x)∧
      ∀(Oth M:Nat->Nat->Prop) (w:World) (v:Value),StoreOK S Oth M w->VRel w (λb o=>M b o\/Oth b o) r v->VRel w (λb o=>(M b o\/Oth b o)/\(S.obj b=none\/S2.obj b≠none)) r2 v):
    ACalls P f xs st0 R:=by
  refine⟨λOth M w vs sto hr=>?_⟩
  have h1:=h.out Oth M w vs sto hr
  have key:∀v w',qh st0 Q Oth M w v w'->qh st0 R Oth M w v w':=by
    rintro v w' ⟨r,S,M',hq,hv,hs,hc⟩
    obtain⟨r2,S2,hr2,hsub,htok,hk⟩:=hQ r S hq
    have hT:∀b o,((M' b o/\(S.obj b=none\/S2.obj b≠none))\/Oth b o)->(M' b o\/Oth b o):=λb o h=>h.imp (·.1) id
    refine⟨r2,S2,λb o=>M' b o/\(S.obj b=none\/S2.obj b≠none),hr2,(hk Oth M' w' v hs hv).mono λb o hT=>?_,?_,?_⟩
    · rcases hT with⟨h1,h2⟩|h1
      · exact⟨.inl h1,h2⟩
      · refine⟨.inr h1,?_⟩
        cases hb:S.obj b with
        |none=>exact .inl rfl
        |some y=>exact absurd ((hs.obj b y hb).2 o) (hs.dis b o h1)
    · exact { obj:=λb x hx=>⟨(hs.obj b x (hsub b x hx)).1.mono hT,λo=>⟨(hs.obj b x (hsub b x hx)).2 o,.inr (by rw[hx];simp)⟩⟩
              tok:=λb x hx=>absurd hx (htok b x),mlt:=λb o hm=>hs.mlt b o hm.1,olt:=hs.olt,dis:=λb o ho hm=>hs.dis b o ho hm.1}
    · exact{size:=hc.size,keep:=hc.keep,blk:=hc.blk,shp:=hc.shp,sub:=λb o hm hb=>hc.sub b o hm.1 hb,tape:=hc.tape,os:=hc.os,output:=hc.output}
  generalize(callFunc f vs).run P w=res at h1
  cases res with
  | ok n w'=>
    cases n with
    |enter g args=>exact Calls.mono h1 λe w'' ⟨v,he,hv⟩=>⟨v,he,key _ _ hv⟩
    |value v=>exact key _ _ h1
    |_=>exact h1
  |_=>exact h1
end Go.V
