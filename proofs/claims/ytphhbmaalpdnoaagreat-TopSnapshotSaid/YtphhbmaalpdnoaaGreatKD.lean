/- Ground of laws of throngtop: contracts and plain lemmas; no condition beyond the row's own. -/
import Derived.Shelf.Sort.Plain
import Derived.Shelf.Slices.SearchI
import Derived.Shelf.Slices.Empties
import Derived.Shelf.Slices.Delete
import Derived.Shelf.Slices.In.SortNone
import Derived.Shelf.Spec.SlicesInsertGrow
import Derived.Shelf.Spec.BitsCarry
import Derived.Test.YtphhbmaalpdnoaaGreatKC
set_option linter.unusedSimpArgs false
set_option linter.unusedVariables false
set_option linter.defProp false
namespace Go.V
section
variable {P:Program} {c:Cfg} {w:World} {st:Store} {Oth M:Nat->Nat->Prop}
theorem ia(sto:StoreOK st Oth M w)(new:Obj){y:AObj}(hy:ObjRel (w.alloc new) (λb o=>ku M w.heap.size b o\/Oth b o) y w.heap.size):
    Fresh st w.heap.size/\StoreOK (st.sO w.heap.size y) Oth (ku M w.heap.size) (w.alloc new)/\Chg M w (ku M w.heap.size) (w.alloc new):=by
  refine⟨sto.fresh (Fak _),?_,I3 w new M⟩;have h:=sto.alloc new;refine{obj:=λb z hz=>?_,tok:=h.tok,mlt:=h.mlt,olt:=h.olt,dis:=h.dis};by_cases hb:b=w.heap.size
  · subst hb
    rw[zd]at hz;cases hz;exact⟨hy,λo=>.inr rfl⟩
  · rw[zg hb]at hz
    exact h.obj b z hz
theorem Hw{o:Oper}{t:TypeId}(ho:o.op=.makeMap t none){R:Ja}
    (h:∀b,Fresh st b->R (.s (.map (some b))) (st.sO b (.map [] [] 0))):AEff P c o [] st R:=by
  refine⟨λOth M w ρ hI sto hr=>?_⟩;have hrun:(execOp ρ o).run P w=.ok (.value (.map (some w.heap.size))) (w.alloc (.map #[] 0)):=by simp[execOp,ho,Instr.makeMap]
  rw[hrun];obtain⟨h1,h2,h3⟩:=ia sto (.map #[] 0) (y:=.map [] [] 0) ⟨#[],Ix w _,rfl,λi x y hx=>φ,rfl,φ,List.Pairwise.nil⟩;exact⟨_,_,_,h _ h1,.s _,h2,h3⟩
def D5(es:List (AV×AV))(bs:List Nat)(clk:Nat)(q:AV×AV->Bool):AObj:=
  match es.findIdx? q with
  |some i=>.map (es.eraseIdx i) (bs.eraseIdx i) clk
  |none=>.map es bs clk
theorem getElem?_eraseIdx'{α:Type}(l:List α)(i j:Nat):(l.eraseIdx i)[j]?=if j<i then l[j]? else l[j+1]?:=List.getElem?_eraseIdx
theorem W7{α β:Type}(f:α->β):∀(l:List α) (i:Nat),(l.map f).eraseIdx i=(l.eraseIdx i).map f
  |[],_=>rfl
  |_::_,0=>rfl
  |a::l,i+1=>by simp[W7 f l i]
theorem ci{o:Oper}{cl:Call}{t kt e:TypeId}{x ix:Operand}(ho:o.op=.call cl)(hcl:cl.callee=.builtin .delete)(hargs:cl.args=#[x,ix])(hat:cl.argTypes[0]?=some t)
    {it ik:TI} (hit:c.I t=some it) (hty:it.ty=.map kt e) (hik:c.I kt=some ik)
    {m clk:Nat} {es:List (AV×AV)} {bs:List Nat} {k:AV} (hm:st.obj m=some (.map es bs clk)) (hk:Pf c.I kt k=true) (q:AV×AV->Bool) (hq:∀e∈es,F0 c.I 5 kt k e.1=some (q e))
    {R:Ja} (h:R (.tup []) (st.sO m (D5 es bs clk q))):AEff P c o [.s (.map (some m)),k] st R:=by
  refine⟨λOth M w ρ hI sto hr=>?_⟩;have hops:o.op.operands=#[x,ix]:=ψj;rw[hops]at hr;have hr:Reads w (λb o=>M b o\/Oth b o) [.s (.map (some m)),k] [ρ x,ρ ix]:=δ;obtain⟨u,v',he,h1,h2⟩:=O0 hr;simp only[Fcf,and_true]at he;obtain⟨hu,hv⟩:=he;rw[<-hu]at h1;rw[<-hv]at h2;have h1:=VRel.eq_s h1;obtain⟨⟨ms,g1,g2,g3,g4,g5,g6⟩,hM⟩:=sto.obj m _ hm;obtain⟨r,r1,r2⟩:=mr (kt:=kt) (k:=k) (kv:=ρ ix) hI h2 q (es:=es) (ms:=ms.toList) θ (λi x y hx hy=>(g3 i x y hx δ).1) hq δ;have hck:=n8 hI hk h2 ms.isEmpty;have hund:=yn (P:=P) (Ke (hI _ _ hit) hty);have hexec:(execOp ρ o).run P w=((Builtin.delete_ cl.argTypes o.type #[ρ x,ρ ix]).run P w).andThen λv w'=>.ok (.value v) w':=by simp_all[execOp,resolve,invoke,builtin]
  have done:∀w',(execOp ρ o).run P w=.ok (.value (.tuple #[])) w'->(StoreOK (st.sO m (D5 es bs clk q)) Oth M w'/\Chg M w M w')->
      match(execOp ρ o).run P w with
      |.ok (.value v) w'=>qy st R Oth M w v w'
      |.ok .skip w'=>o.dst=none/\qy st R Oth M w (.tuple #[]) w'
      |_=>False:=by
    intro w' hrun hok;rw[hrun];exact⟨_,_,M,h,vx Reads.nil,hok.1,hok.2⟩
  rcases r2 with⟨rfl,r3⟩|⟨i,en,me,rfl,r3,r4,r5,r6⟩
  · refine done {w with heap:=w.heap.setIfInBounds m (.map ms clk)} ?_ ?_
    · rw[hexec]
      simp[Builtin.delete_,hat,hund,h1,Dd g1,hck,r1,Ov _ g1]
    · refine L8 sto hm g1 trivial trivial ?_
      unfold D5;rw[r3];have hkp:=Lc (new:=.map ms clk) g1 trivial trivial (λb o=>M b o\/Oth b o);exact⟨_,M5 _ g1,g2,λi x' y' hx hy=>⟨(g3 i x' y' hx hy).1.keep hkp,(g3 i x' y' hx hy).2.keep hkp⟩,g4,g5,g6⟩
  · refine done {w with heap:=w.heap.setIfInBounds m (.map (ms.eraseIdxIfInBounds i) clk)} ?_ ?_
    · rw[hexec]
      simp[Builtin.delete_,hat,hund,h1,Dd g1,hck,r1,Ov _ g1]
    · refine L8 sto hm g1 trivial trivial ?_
      unfold D5;rw[r3];have hkp:=Lc (new:=.map (ms.eraseIdxIfInBounds i) clk) g1 trivial trivial (λb o=>M b o\/Oth b o);have hi:i<ms.size:=δ;have htl:(ms.eraseIdxIfInBounds i).toList=ms.toList.eraseIdx i:=φ;have hsub:(bs.eraseIdx i).Sublist bs:=List.eraseIdx_sublist ..;refine⟨_,M5 _ g1,?_,λj x' y' hx hy=>?_,?_,λt ht=>g5 t (hsub.subset ht),g6.sublist hsub⟩
      · grind
      · have hy:(ms.toList.eraseIdx i)[j]?=some y':=by grind
        rw[getElem?_eraseIdx']at hx hy;by_cases hj:j<i
        · rw[if_pos hj]at hx hy
          have:=g3 j x' y' hx δ;exact⟨this.1.keep hkp,this.2.keep hkp⟩
        · rw[if_neg hj]at hx hy
          have:=g3 (j+1) x' y' hx δ;exact⟨this.1.keep hkp,this.2.keep hkp⟩
      · rw[htl,g4,W7]
theorem ysz{o:Oper}{t kt e:TypeId}{x:Operand}(ho:o.op=.range t x){it:TI}(hit:c.I t=some it)(hty:it.ty=.map kt e)
    {m clk:Nat} {es:List (AV×AV)} {bs:List Nat} (hm:st.obj m=some (.map es bs clk)) {R:Ja}
    (h:∀b,Fresh st b->R (.s (.pointer (some ⟨b,0,none⟩))) (st.sO b (.iter m clk [] clk))):AEff P c o [.s (.map (some m))] st R:=by
  refine⟨λOth M w ρ hI sto hr=>?_⟩;rw[ho]at hr;have hr:Reads w (λb o=>M b o\/Oth b o) [.s (.map (some m))] [ρ x]:=θr;obtain⟨u,he,h1⟩:=Kr hr;simp only[Fcf,and_true]at he;rw[<-he]at h1;have h1:=VRel.eq_s h1;obtain⟨⟨ms,g1,g2⟩,hM⟩:=sto.obj m _ hm;have hund:=yn (P:=P) (Ke (hI _ _ hit) hty);have hrun:(execOp ρ o).run P w=.ok (.value (.pointer (some ⟨w.heap.size,0,none⟩))) (w.alloc (.mapIter (some m) clk #[] clk)):=by simp[execOp,ho,Instr.range,hund,h1,Dd g1]
  rw[hrun];obtain⟨h2,h3,h4⟩:=ia sto (.mapIter (some m) clk #[] clk) (y:=.iter m clk [] clk) (Ix w _);exact⟨_,_,_,h _ h2,.s _,h3,h4⟩
theorem yee(n:Nat)(hn:0<n)(w:World):∃i w',i<n/\Grow w w'/\w'.heap=w.heap/\(choose (.mapNext n)).run P w=.ok i w':=by
  by_cases h1:n<=1
  · refine⟨0,w,hn,Grow.refl w,rfl,?_⟩
    simp_all[Question.forced]
  · refine⟨w.tape w.drawn (.mapNext n)%n,w.drew,Nat.mod_lt _ hn,Grow.drew w,rfl,?_⟩
    simp only[choose,Sem.run];rw[if_neg (by simpa [Question.forced]using h1)];rfl
theorem ys0{o:Oper}{x:Operand}(ho:o.op=.next x false)
    {b m clk:Nat} {es:List (AV×AV)} {bs seen:List Nat} (hb:st.obj b=some (.iter m clk seen clk)) (hm:st.obj m=some (.map es bs clk)) {R:Ja}
    (h1:(∀t∈bs,t∈seen)->R (.tup [.s (.bool false)]) st)
    (h2:∀(i:Nat) (e:AV×AV) (t:Nat),es[i]?=some e->bs[i]?=some t->t∉seen->R (.tup [.s (.bool true),e.1,e.2]) (st.sO b (.iter m clk (seen++[t]) clk))):AEff P c o [.s (.pointer (some ⟨b,0,none⟩))] st R:=by
  refine⟨λOth M w ρ hI sto hr=>?_⟩;rw[ho]at hr;have hr:Reads w (λb o=>M b o\/Oth b o) [.s (.pointer (some ⟨b,0,none⟩))] [ρ x]:=θr;obtain⟨u,he,hx⟩:=Kr hr;simp only[Fcf,and_true]at he;rw[<-he]at hx;have hx:=VRel.eq_s hx;obtain⟨⟨ms,g1,g2,g3,g4,g5,g6⟩,hM⟩:=sto.obj m _ hm;obtain⟨hit,hMb⟩:=sto.obj b _ hb;have hit:w.heap[b]?=some (.mapIter (some m) clk seen.toArray clk):=hit;have born:∀y∈ms,y.born<clk:=λy hy=>g5 _ δ;have hall:(!seen.toArray.isEmpty&& !ms.isEmpty&&ms.all (λe=>decide (e.born>=clk)))=false:=by
    cases hms:ms.isEmpty with
    |true=>simp
    | false=>
      have hne:0<ms.size:=δ;grind
  have hnew:(Array.filter (λe=> !seen.toArray.contains e.born) ms).filter (λe=>decide (e.born>=clk))=#[]:=by grind[Array.filter_eq_empty_iff]
  have hold:(Array.filter (λe=> !seen.toArray.contains e.born) ms).filter (λe=>decide (e.born<clk))=Array.filter (λe=> !seen.toArray.contains e.born) ms:=by grind[Array.filter_eq_self]
  have hgo:(getObj b).run P w=.ok (.mapIter (some m) clk seen.toArray clk) w:=by simp[getObj,Sem.run,hit]
  generalize hleft:Array.filter (λe=> !seen.toArray.contains e.born) ms=left at hnew hold;have hlm:∀y∈left,y∈ms/\y.born∉seen:=δ
  let cands:Array (Option MapEntry):=(if left.isEmpty then #[none]else #[])++(left++#[]).map some
  have hcs:0<cands.size:=δ;obtain⟨i,w1,hi,hg,hheap,hch⟩:=yee (P:=P) cands.size hcs w;have hexec:(execOp ρ o).run P w=((Instr.next (ρ x) false o.type).run P w).andThen λv w'=>.ok (.value v) w':=by simp[execOp,ho]
  cases hl:left.isEmpty with
  | true=>
    have hc0:cands=#[none]:=by
      have:left=#[]:=by simpa using hl
      simp[cands,this]
    have hi0:i=0:=by rw[hc0]at hi;simpa using hi
    have hrun:(execOp ρ o).run P w=.ok (.value (.tuple #[.bool false])) w1:=by rw[hexec];simp only[Instr.next,hx,Sem.run_bind,hgo,Result.andThen_ok,Dd g1,hall,Fah,if_false,hleft,hold,hnew,Sem.run_pure];show((((choose (.mapNext cands.size)).run P w).andThen _).andThen _)=_;rw[hch];simp only[Result.andThen_ok];rw[show((if left.isEmpty=true then #[none]else #[])++Array.map some (left++#[]):Array (Option MapEntry))=cands from rfl,hc0,hi0];simp
    rw[hrun];refine⟨_,st,M,h1 λt ht=>?_,vx (Reads.cons (.s _) Reads.nil),sto.grow hg,hg.chg M⟩;rw[g4]at ht;obtain⟨y,hy,rfl⟩:=Fai.1 ht;have hle:left=#[]:=by simpa using hl
    rw[<-hleft,Array.filter_eq_empty_iff]at hle;have:=hle _ (Array.mem_toList_iff.1 hy);simpa using this
  | false=>
    have hce:cands=left.map some:=by simp[cands,hl]
    have hil:i<left.size:=by rw[hce]at hi;simpa using hi
    have hcg:cands[i]?=some (some left[i]):=by rw[hce];simp[hil]
    have hgo1:w1.heap[b]?=some (.mapIter (some m) clk seen.toArray clk):=by rw[hheap];exact hit
    have hset:∀ob:Obj,(setObj b ob).run P w1=.ok () {w1 with heap:=w1.heap.setIfInBounds b ob}:=λob=>by simp[setObj,Sem.run,hgo1]
    have hrun:(execOp ρ o).run P w=.ok (.value (.tuple #[.bool true,left[i].key,left[i].val])) {w1 with heap:=w1.heap.setIfInBounds b (.mapIter (some m) clk (seen.toArray.push left[i].born) clk)}:=by rw[hexec];simp only[Instr.next,hx,Sem.run_bind,hgo,Result.andThen_ok,Dd g1,hall,Fah,if_false,hleft,hold,hnew,Sem.run_pure];show((((choose (.mapNext cands.size)).run P w).andThen _).andThen _)=_;rw[hch];simp only[Result.andThen_ok];rw[show((if left.isEmpty=true then #[none]else #[])++Array.map some (left++#[]):Array (Option MapEntry))=cands from rfl,hcg];simp only[Sem.run_bind,hset,Result.andThen_ok,Sem.run_pure]
    rw[hrun];obtain⟨hlm1,hlm2⟩:=hlm left[i] φ;obtain⟨j,hj,hje⟩:=Array.mem_iff_getElem.1 hlm1;have hjs:j<es.length:=θ;have hms:ms[j]?=some left[i]:=by rw[Fb4 hj,hje]
    have hrel:=g3 j es[j] left[i] (Fac hjs) hms;have hbs:bs[j]?=some left[i].born:=by rw[g4,Faq,Fc7,hms];rfl
    have sto1:=sto.grow hg;have hk1:=hg.keeps (λb o=>M b o\/Oth b o);have hk2:=Lc (new:=.mapIter (some m) clk (seen.toArray.push left[i].born) clk) hgo1 trivial trivial (λb o=>M b o\/Oth b o);obtain⟨s1,s2⟩:=L8 (y:=.iter m clk (seen++[left[i].born]) clk) sto1 hb hgo1 trivial trivial (new:=.mapIter (some m) clk (seen.toArray.push left[i].born) clk) (by show _=_;rw[M5 _ hgo1];simp)
    exact⟨_,_,M,h2 j es[j] left[i].born (Fac hjs) hbs hlm2,
      vx (Reads.cons (.s _) (Reads.cons ((hrel.1.keep hk1).keep hk2) (Reads.cons ((hrel.2.keep hk1).keep hk2) Reads.nil))),s1,(hg.chg M).trans s2⟩
end
section
variable {P:Program} {c:Cfg} {w:World} {st:Store} {Oth M:Nat->Nat->Prop}
theorem Co(sto:StoreOK st Oth M w){b o:Nat}{l xs:List AV}{vs:List Value}{w':World}(hk:st.obj b=some (.cells l))
    (hx:Reads w (λb o=>M b o\/Oth b o) xs vs) (hw:Wrote w b o vs w'):StoreOK (st.sO b (.cells (zp l o xs))) Oth M w'/\Chg M w M w':=by
  have hM:=(sto.obj b _ hk).2;have hT:∀o,M b o\/Oth b o:=λo=>.inl (hM o);refine⟨{obj:=λb' x hx'=>?_,tok:=λb' top ht=>?_,mlt:=λb' o' hm=>?_,olt:=λb' o' hm=>?_,dis:=sto.dis},hw.chg hM⟩
  · by_cases he:b'=b
    · subst he
      rw[zd]at hx';cases hx';exact⟨CellsRel.wrote hw hT (sto.obj b' _ hk).1 hx,hM⟩
    · rw[zg he]at hx'
      exact⟨ObjRel.same (sto.obj b' x hx').1 (hw.keeps hT) (hw.other b' he),(sto.obj b' x hx').2⟩
  · obtain⟨c,e,fr,h1,h2,h3,h4⟩:=sto.tok b' top ht
    by_cases he:b'=b
    · subst he
      obtain⟨c',h5,_,h6⟩:=hw.blk c e fr h1;grind
    · exact⟨c,e,fr,θ5,h2,h3,h4⟩
  · rw[hw.size];exact sto.mlt b' o' hm
  · rw[hw.size];exact sto.olt b' o' hm
theorem Hg(sto:StoreOK st Oth M w)(cs:Array Value)(e:TypeId){l:List AV}(h:Reads w (λb o=>M b o\/Oth b o) l cs.toList):
    Fresh st w.heap.size/\StoreOK (st.sO w.heap.size (.cells l)) Oth (ku M w.heap.size) (w.alloc (.cells cs e))/\Chg M w (ku M w.heap.size) (w.alloc (.cells cs e)):=
  ia sto (.cells cs e) (y:=.cells l) (Rg w e M Oth h)
theorem zd2{T:Nat->Nat->Prop}{b n cap k:Nat}{l:List AV}(h:CellsRel w T l b)(hn:n*k<=l.length):
    ∃new:Array Value,Reads w T (l.take (n*k)) new.toList/\new.size=n*k/\∀w',w'.heap=w.heap->(Builtin.firstCells k n (.slice (some ⟨b,0,none⟩) n cap)).run P w'=.ok new w':=by
  obtain⟨c,e,fr,h1,h2,h3,h4⟩:=h;have hsz:n*k<=c.size:=θ;refine⟨((List.range' 0 (n*k)).map λi=>c.getD i undef).toArray,?_,φ,λw' hw=>?_⟩
  · refine⟨δ,λi x y hx hy=>?_⟩
    have hi:i<n*k:=δ;rw[Fb5 hi]at hx;simp[hi]at hy;grind
  · have:=Mg (P:=P) ⟨b,0,none⟩ w' (λi=>c.getD i undef) (n*k) 0 #[] (λp _ hp=>by
      rw[wx,ls hw];simp only[World.cell?,h1];have:p<c.size:=θ;simp[this])
    grind[Builtin.firstCells,loadCells]
theorem zbh{T:Nat->Nat->Prop}{xs:List AV}{vs:List Value}(h:Reads w T xs vs)(h1:∀x∈xs,x.one=true):∀v∈vs,qw v=true:=by
  intro v hv;obtain⟨i,hi⟩:=Fa4.1 hv;have hlt:i<xs.length:=by rw[h.1];grind
  exact gq (h.2 i xs[i] v (Fac hlt) hi) (h1 _ (Faa hlt))
theorem ph{e:TypeId}{ie:TI}(hie:c.I e=some ie){b n cap:Nat}{l:List AV}{x:AV}{rows:List (List AV)}(ho:st.obj b=some (.cells l))(hcap:cap*ie.size<=l.length)(hn:n<=cap)
    (hx:Ab ie.size (.av x)=some rows) (hroom:room (n+rows.length) ie.bytes) {K:Ja}
    (h1:n+rows.length<=cap->K (.s (.slice (some ⟨b,0,none⟩) (n+rows.length) cap)) (st.sO b (.cells (zp l (n*ie.size) rows.flatten))))
    (h2:cap<n+rows.length->∀b' cap',Fresh st b'->n+rows.length<=cap'->cap'<=9223372036854775807->K (.s (.slice (some ⟨b',0,none⟩) (n+rows.length) cap')) (st.sO b' (.cells (l.take (n*ie.size)++rows.flatten++List.replicate ((cap'-(n+rows.length))*ie.size) .any)))):
    AppX P c st e (.s (.slice (some ⟨b,0,none⟩) n cap)) x K:=by
  refine⟨⟨ie,hie⟩,λie' hie' Oth M w sv xv argTypes ty args t sto hs hxv hat ht1 hu hti h0 h1'=>?_⟩;rw[hie]at hie';cases hie';have hs:=VRel.eq_s hs;subst hs;have A:AppArgs P c argTypes args t e ie (some ⟨b,0,none⟩) n cap xv:=⟨hat,ht1,hu,hti,h0,h1'⟩
  obtain⟨hl1,hl2,new,hnew,hone,hnsz,hfc⟩:=Ma (P:=P) (β:=λ_=>0) (k:=ie.size) (x:=.av x) hxv hx;have hnn:n*ie.size<=l.length:=Fbv (Fa9 _ hn) hcap;by_cases hc:n+rows.length<=cap
  · obtain⟨⟨cs,e0,fr,hb0,huf,hlen,hrel⟩,hM⟩:=sto.obj b _ ho
    have hfit:n*ie.size+new.toList.length<=cs.size:=by rw[Fco,hnsz,<-Fcw,<-hlen];exact Fbv (Fa9 _ hc) hcap
    obtain⟨w',hw1,hw2⟩:=Kq (P:=P) w b (n*ie.size) new.toList 0 w cs e0 fr hb0 (.inl huf) hfit hone;have hrun:=Nw (w':=w') ty A hl1 (hfc w rfl) hc (λa ha=>by cases ha;rw[wx,Fbi];exact hw1) (λh=>ω);obtain⟨k1,k2⟩:=Co sto ho hnew hw2;exact⟨_,_,hrun,_,_,M,h1 hc,.s _,k1,k2⟩
  · have hc:cap<n+rows.length:=θ
    obtain⟨old,hold1,hold2,hold3⟩:=zd2 (P:=P) (cap:=cap) (sto.obj b _ ho).1 hnn;obtain⟨newCap,rest,g1,g0,g2,g3⟩:=Lo ty A hl1 (hfc w.drew rfl) (hold3 w.drew rfl) hc hroom;have gd:Grow w w.drew:=Grow.drew w;have sto1:=sto.grow gd;obtain⟨f1,f2,f3⟩:=Hg sto1 (old++new++rest) e (l:=l.take (n*ie.size)++rows.flatten++List.replicate rest.size .any) (by
      rw[Fbf,Fbf];refine((hold1.append hnew).append ⟨φ,λi x y hx hy=>?_⟩).keep (gd.keeps _);rw[Fb1]at hx;split at hx
      · cases hx;exact .any _
      grind)
    have e1:w.drew.heap.size=w.heap.size:=rfl;rw[g2]at f2;exact⟨_,_,g3,_,_,_,h2 hc _ newCap f1 g1 g0,.s _,f2,(gd.chg M).trans f3⟩
theorem zgr{e:TypeId}{ie:TI}(hie:c.I e=some ie){x:AV}{rows:List (List AV)}(hx:Ab ie.size (.av x)=some rows)(hroom:room rows.length ie.bytes)(hne:0<rows.length){K:Ja}
    (h2:∀b' cap',Fresh st b'->rows.length<=cap'->cap'<=9223372036854775807->K (.s (.slice (some ⟨b',0,none⟩) rows.length cap')) (st.sO b' (.cells (rows.flatten++List.replicate ((cap'-rows.length)*ie.size) .any)))):
    AppX P c st e (.s (.slice none 0 0)) x K:=by
  refine⟨⟨ie,hie⟩,λie' hie' Oth M w sv xv argTypes ty args t sto hs hxv hat ht1 hu hti h0 h1'=>?_⟩;rw[hie]at hie';cases hie';have hs:=VRel.eq_s hs;subst hs;have A:AppArgs P c argTypes args t e ie none 0 0 xv:=⟨hat,ht1,hu,hti,h0,h1'⟩
  obtain⟨hl1,hl2,new,hnew,hone,hnsz,hfc⟩:=Ma (P:=P) (β:=λ_=>0) (k:=ie.size) (x:=.av x) hxv hx;obtain⟨newCap,rest,g1,g0,g2,g3⟩:=Lo (old:=#[]) ty A hl1 (hfc w.drew rfl) ξ θ δ;have gd:Grow w w.drew:=Grow.drew w;have sto1:=sto.grow gd;obtain⟨f1,f2,f3⟩:=Hg sto1 (#[]++new++rest) e (l:=rows.flatten++List.replicate rest.size .any) (by
    rw[Fbf,Fbf];refine((show Reads w _ rows.flatten ([]++new.toList)from hnew).append ⟨φ,λi x y hx hy=>?_⟩).keep (gd.keeps _);rw[Fb1]at hx;split at hx
    · cases hx;exact .any _
    grind)
  rw[g2]at f2;simp only[Fbi]at g1 g3 f2;exact⟨_,_,g3,_,_,_,h2 _ newCap f1 g1 g0,.s _,f2,(gd.chg M).trans f3⟩
def Ints(st:Store)(v:AV)(ns:List Int):Prop:=
  (v=.s (.slice none 0 0)/\ns=[])\/∃b cap L,v=.s (.slice (some ⟨b,0,none⟩) ns.length cap)/\st.obj b=some (.cells (ns.map (λn=>AV.s (.int .i64 n))++L))/\ns.length<=cap/\cap<=ns.length+L.length/\cap<=9223372036854775807
end
open Go.Proofs Go.Shelf Go.Sort Go.RowKit
section
variable {P:Program} {ρ:Ren} {w:World} {st:Store} {Oth M:Nat->Nat->Prop}
def vI(n:Int):Value:=.int .i64 n
def aI(n:Int):AV:=.s (.int .i64 n)
theorem Gi(T:Nat->Nat->Prop)(ns:List Int):Reads w T (ns.map aI) (ns.map vI):=by
  have:=Reads.map_s (w:=w) (T:=T) (ns.map vI)
  rwa [List.map_map]at this
theorem pt{w:World}{b q:Nat}{c:Array Value}{e:TypeId}{fr:Nat×Nat}(hb:w.heap[b]?=some (.cells c e fr))(ns:List Int)(hl:ns.length<=c.size):
    Wrote w b 0 (ns.map vI) (putRow (Value.int .i64) (Sort.ahead w q) b 0 ns.toArray) where
  size:=φ
  other b' hne:=by simp_all[putRow,mapBlock,Fcv,Ne.symm]
  blk c' e' fr' h:=by
    rw[hb]at h;cases h;refine⟨putCells (Value.int .i64) 0 ns.toArray c,?_,?_,by simp[putCells]⟩
    · simp_all[putRow,mapBlock,Fcv,onCells]
    · apply Fb8
      intro i;simp only[putCells,Fc7,Fc1,Fdh,Fbi,Fap,Array.getElem?_mapIdx];by_cases hi:i<ns.length
      · grind[vI]
      grind
  tape:=rfl
  os:=rfl
  output:=rfl
theorem ymi(w:World)(os:Array Obj):Grow w (Sort.grow w os) where
  size:=φ
  blk b hb:=by grind[Sort.grow]
  tape:=rfl
  os:=rfl
  output:=rfl
theorem My{T:Nat->Nat->Prop}{b:Nat}{ns:List Int}{L:List AV}(h:CellsRel w T (ns.map aI++L) b):
    ∃c e fr,w.heap[b]?=some (.cells c e fr)/\fr.2=fr.1/\ns.length+L.length=c.size/\∀j,j<ns.length->c[j]?=some (vI (ns.getD j 0)):=by
  obtain⟨c,e,fr,h1,h2,h3,h4⟩:=h;refine⟨c,e,fr,h1,h2,δ,λj hj=>?_⟩;have hlt:j<c.size:=δ;have h5:=h4 j (aI ns[j]) c[j] δ φ;rw[Fb4 hlt,VRel.eq_s h5];simp[hj,vI]
theorem zdb{T:Nat->Nat->Prop}{b:Nat}{ns:List Int}{L:List AV}(h:CellsRel w T (ns.map aI++L) b):Holds (Value.int .i64) w b 0 ns.toArray:=by obtain⟨c,e,fr,h1,h2,h3,h4⟩:=My h;intro j hj;simp_all[World.cell?,vI,World.frozen?]
theorem ti{xs l L:List AV}(h:xs.length=l.length):zp (l++L) 0 xs=xs++L:=by simp_all[zp]
theorem Gd{A B xs:List AV}{o:Nat}(h:A.length=o):zp (A++B) o xs=A++xs++B.drop xs.length:=by grind[zp,List.take_left,List.drop_append]
theorem zgn{x:AV}{vs:Array Value}{T:Nat->Nat->Prop}(h:Reads w T [x] vs.toList):∃v,vs=#[v]/\VRel w T x v:=by grind[Kr]
theorem ysb{x y:AV}{vs:Array Value}{T:Nat->Nat->Prop}(h:Reads w T [x,y] vs.toList):∃u v,vs=#[u,v]/\VRel w T x u/\VRel w T y v:=by grind[O0]
theorem o8{x y z:AV}{vs:Array Value}{T:Nat->Nat->Prop}(h:Reads w T [x,y,z] vs.toList):∃u v t,vs=#[u,v,t]/\VRel w T x u/\VRel w T y v/\VRel w T z t:=by grind[zam]
theorem Pg{v:AV}{ns:List Int}(h:Ints st v ns):(v=.s (.slice none 0 0)/\ns=[])\/∃b cap L,v=.s (.slice (some ⟨b,0,none⟩) ns.length cap)/\st.obj b=some (.cells (ns.map aI++L))/\ns.length<=cap/\cap<=ns.length+L.length/\cap<=9223372036854775807:=h
theorem zzf (Ly : Lays.n189 P ρ) {fn : Func} {code : Code} (hf : P.funcs[ρ.f 189]? = some fn) (hb : fn.body = some code) (hname : (fn.name == "runtime.NumGoroutine") = false) {b cap : Nat} {ns : List Int} {L : List AV} (ho : st.obj b = some (.cells (ns.map aI ++ L)))
    (hlen:ns.length<4611686018427387904) {R:Ja} (h:R (.tup []) (st.sO b (.cells ((ns.mergeSort λx y=>decide (x<=y)).map aI++L)))):
    ACalls P (ρ.f 189) [.s (.slice (some ⟨b,0,none⟩) ns.length cap)] st R:=by
  refine ACalls.of_calls hf hb hname λOth M w vs sto hr=>?_;obtain⟨v,rfl,hv⟩:=zgn hr;cases hv;have hobj:=(sto.obj b _ ho).1;obtain⟨c,e,fr,h1,h2,h3,h4⟩:=My hobj;refine Calls.mono (Any.slices_Sort_int Ly b 0 cap ns w (zdb hobj) (Gs h1) hlen) λe' w' ⟨he,n,os,hw'⟩=>⟨_,he,?_⟩
  subst hw';have hsl:(ns.mergeSort λx y=>decide (x<=y)).length=ns.length:=List.length_mergeSort ns;have hw:=pt (q:=n) h1 (ns.mergeSort λx y=>decide (x<=y)) θ;obtain⟨k1,k2⟩:=Co sto ho (Gi _ _) hw;have hg:=ymi (putRow (Value.int .i64) (Sort.ahead w n) b 0 (ns.mergeSort λx y=>decide (x<=y)).toArray) os;refine⟨.tup [],_,M,h,vx Reads.nil,?_,k2.trans (hg.chg M)⟩;rw[ti φ]at k1;exact k1.grow hg
theorem zze (Ly : Lays.n189 P ρ) {fn : Func} {code : Code} (hf : P.funcs[ρ.f 189]? = some fn) (hb : fn.body = some code) (hname : (fn.name == "runtime.NumGoroutine") = false) {R : Ja} (h : R (.tup []) st) :
    ACalls P (ρ.f 189) [.s (.slice none 0 0)] st R:=by
  refine ACalls.of_calls hf hb hname λOth M w vs sto hr=>?_;obtain⟨v,rfl,hv⟩:=zgn hr;cases hv;refine Calls.mono (Any.slices_Sort_int_none Ly none 0 w) λe' w' ⟨he,hw'⟩=>⟨_,he,?_⟩
  subst hw';exact⟨.tup [],st,M,h,vx Reads.nil,sto,Chg.refl _ _⟩
theorem zzz (Ly : Lays2.n25 P ρ) {fn : Func} {code : Code} (hf : P.funcs[ρ.f 25]? = some fn) (hb : fn.body = some code) (hname : (fn.name == "runtime.NumGoroutine") = false) {v : AV} {ns : List Int} (hv : Ints st v ns) (x : Int)
    (hlen:ns.length<4611686018427387904) (hs:ns.Pairwise (·<=·)) {R:Ja} (h:R (.tup [aI (ns.countP (·<x):Nat),.s (.bool (ns.contains x))]) st):
    ACalls P (ρ.f 25) [v,aI x] st R:=by
  refine ACalls.of_calls hf hb hname λOth M w vs sto hr=>?_;obtain⟨u,t,rfl,hu,ht⟩:=ysb hr;cases ht;rcases Pg hv with⟨rfl,rfl⟩|⟨b,cap,L,rfl,ho,hc1,hc2⟩
  · cases hu
    refine Calls.mono (Any.slices_BinarySearch_int_empty Ly none 0 x w) λe' w' ⟨he,hw'⟩=>⟨_,he,?_⟩
    subst hw';refine⟨_,st,M,h,vx (Reads.cons (.s _) (Reads.cons (.s _) Reads.nil)),sto,Chg.refl _ _⟩
  · cases hu
    have hobj:=(sto.obj b _ ho).1;obtain⟨c,e,fr,h1,h2,h3,h4⟩:=My hobj;refine Calls.mono (Any.slices_BinarySearch_int Ly b 0 ns.length cap ns x w (Fak _) hlen (λj hj=>?_) δ) λe' w' ⟨he,q,hw'⟩=>⟨_,he,?_⟩
    · rw[Fbi]
      simp only[World.cell?,h1];exact h4 j hj
    · subst hw'
      rw[Fal];have hg:Grow w (w.drewN q):=⟨Fak _,λ_ _=>rfl,rfl,rfl,rfl⟩
      exact⟨_,st,M,h,vx (Reads.cons (.s _) (Reads.cons (.s _) Reads.nil)),sto.grow hg,hg.chg M⟩
theorem yp2 (Ly : Lays2.n23 P ρ) {fn : Func} {code : Code} (hf : P.funcs[ρ.f 23]? = some fn) (hb : fn.body = some code) (hname : (fn.name == "runtime.NumGoroutine") = false) {b cap i j : Nat} {ns : List Int} {L : List AV} (ho : st.obj b = some (.cells (ns.map aI ++ L)))
    (hc1:ns.length<=cap) (hc2:cap<=9223372036854775807) (hij:i<=j) (hj:j<=ns.length) {R:Ja}
    (h:R (.s (.slice (some ⟨b,0,none⟩) (ns.take i++ns.drop j).length cap)) (st.sO b (.cells ((ns.take i++ns.drop j).map aI++(List.replicate (j-i) (aI 0)++L))))):
    ACalls P (ρ.f 23) [.s (.slice (some ⟨b,0,none⟩) ns.length cap),aI i,aI j] st R:=by
  refine ACalls.of_calls hf hb hname λOth M w vs sto hr=>?_;obtain⟨u,v,t,rfl,hu,hv,ht⟩:=o8 hr;cases hu;cases hv;cases ht;have hobj:=(sto.obj b _ ho).1;obtain⟨c,e,fr,h1,h2,h3,h4⟩:=My hobj;have hl2:(ns.take i++ns.drop j++List.replicate (j-i) 0).length=ns.length:=δ;have hl1:(ns.take i++ns.drop j).length=ns.length-(j-i):=δ;refine Calls.mono (Any.slices_Delete_int Ly b 0 cap i j ns w (zdb hobj) hc1 hc2 hij hj) λe' w' ⟨he,q,hw'⟩=>⟨_,he,?_⟩
  subst hw';have hw:=pt (q:=q) h1 (ns.take i++ns.drop j++List.replicate (j-i) 0) θ;obtain⟨k1,k2⟩:=Co sto ho (Gi _ _) hw;rw[<-hl1];refine⟨_,_,M,h,.s _,?_,k2⟩;grind[ti,List.map_replicate]
theorem ys5(Ly:Lays7.n25 P ρ)(x y c:Nat)(hc:c<=1){R:Ja}
    (h:R (.tup [.s (.int .u64 ((x+y+c)%18446744073709551616:Nat)),.s (.int .u64 ((x+y+c)/18446744073709551616:Nat))]) st):
    ACalls P (ρ.f 25) [.s (.int .u64 x),.s (.int .u64 y),.s (.int .u64 c)] st R:=by
  refine ACalls.of_value λOth M w vs sto hr=>?_;obtain⟨u,v,t,rfl,hu,hv,ht⟩:=o8 hr;cases hu;cases hv;cases ht;exact⟨_,w,Any7.bits_Add64 Ly x y c hc w,_,st,M,h,vx (Reads.cons (.s _) (Reads.cons (.s _) Reads.nil)),sto,Chg.refl _ _⟩
theorem Lr{b:Nat}:∀(vs:List Value) (o:Nat) (w:World) (c:Array Value) (e:TypeId) (fr:Nat×Nat),w.heap[b]?=some (.cells c e fr)->o+vs.length<=c.size->Wrote w b o vs (w.setCells b o vs):=by
  intro vs;induction vs with
  |nil=>intro o w c e fr h _;exact⟨rfl,λ_ _=>rfl,λc e fr h=>⟨c,h,φ,rfl⟩,rfl,rfl,rfl⟩
  | cons v vs ih=>
    intro o w c e fr h hl;simp only[Fbd]at hl;have h1:(w.setCell ⟨b,o,none⟩ v).heap[b]?=some (.cells (c.setIfInBounds o v) e fr):=by rw[Wp,if_pos rfl,h];rfl
    have k:=ih (o+1) (w.setCell ⟨b,o,none⟩ v) _ e fr h1 δ;refine⟨by rw[World.setCells,k.size];simp,λb' hb=>by rw[World.setCells,k.other b' hb,Wp,if_neg hb],λc1 e1 fr1 hc1=>?_,by rw[World.setCells,k.tape];rfl,by rw[World.setCells,k.os];rfl,by rw[World.setCells,k.output];rfl⟩;rw[h]at hc1;cases hc1;obtain⟨c',g1,g2,g3⟩:=k.blk _ _ _ h1;refine⟨c',g1,?_,δ⟩;rw[g2,Array.toList_setIfInBounds];have hlt:o<c.toList.length:=δ;have hA:(c.toList.take o).length=o:=δ;rw[List.set_eq_take_append_cons_drop,if_pos hlt];have t1:(c.toList.take o++v::c.toList.drop (o+1)).take (o+1)=c.toList.take o++[v]:=δ;have t2:(c.toList.take o++v::c.toList.drop (o+1)).drop (o+1+vs.length)=c.toList.drop (o+(vs.length+1)):=by rw[List.drop_append,hA,show o+1+vs.length-o=vs.length+1 by omega,Fc2 θ,Fdh,List.drop_succ_cons,List.drop_drop];grind
    grind
theorem yld (Ly : Lays2.n21 P ρ) {fn : Func} {code : Code} (hf : P.funcs[ρ.f 21]? = some fn) (hb : fn.body = some code) (hname : (fn.name == "runtime.NumGoroutine") = false) {v : AV} {ns : List Int} (hv : Ints st v ns) {vb : Nat} (x : Int) (i : Nat) (hi : i <= ns.length)
    (hvb:st.obj vb=some (.cells [aI x])) (hne:∀b cap,v=.s (.slice (some ⟨b,0,none⟩) ns.length cap)->b≠vb) (hlen:(ns.length+1)*8<=140737488355328) {R:Ja}
    (h:∀b cap L,(Fresh st b\/∃c0,v=.s (.slice (some ⟨b,0,none⟩) ns.length c0))->(ns.take i++x::ns.drop i).length<=cap->cap<=(ns.take i++x::ns.drop i).length+L.length->cap<=9223372036854775807->
      R (.s (.slice (some ⟨b,0,none⟩) (ns.take i++x::ns.drop i).length cap)) (st.sO b (.cells ((ns.take i++x::ns.drop i).map aI++L)))):
    ACalls P (ρ.f 21) [v,aI i,.s (.slice (some ⟨vb,0,none⟩) 1 1)] st R:=by
  refine ACalls.of_calls hf hb hname λOth M w vs sto hr=>?_;obtain⟨u,t,s,rfl,hu,ht,hs⟩:=o8 hr;cases ht;cases hs;have hvo:=(sto.obj vb _ hvb).1;obtain⟨cv,ev,frv,v1,v2,v3,v4⟩:=My (ns:=[x]) (L:=[]) (show CellsRel w _ ([x].map aI++[]) vb from hvo);have hvs:∀j v,([vI x]:List Value)[j]?=some v->w.cell? ⟨vb,0+j,none⟩=some v:=by grind[World.cell?]
  have h1v:∀v∈([vI x]:List Value),v.oneCell'=true:=by intro v hv;simp at hv;subst hv;rfl
  have hl':(ns.take i++x::ns.drop i).length=ns.length+1:=δ;have hcut:∀(w:World) (need old:Nat) (e:TypeId),need<=140737488355328->need<=grownCap w need old e/\grownCap w need old e<=9223372036854775807:=by intro w need old e hn;unfold grownCap;simp only[Question.cut];have:=Nat.mod_lt (w.tape w.drawn (.appendCap need old e)) (show 0<2^63-need by omega);omega
  rcases Pg hv with⟨rfl,rfl⟩|⟨b,cap,L,rfl,ho,hc1,hc2,hc3⟩
  · cases hu
    simp only[Fc5,Nat.le_zero]at hi;subst hi;refine Calls.mono (Any2.slices_Insert_int_end_grow Ly none 0 0 vb 0 1 1 [] [vI x] w θ (Fak _) θ θ rfl rfl (λ_=>rfl) (λa ha=>by cases ha) hvs h1v) λe' w' ⟨he,hw'⟩=>⟨_,he,?_⟩
    obtain⟨g1,g2⟩:=hcut w (0+1) 0 (ρ.t 3) θ;generalize grownCap w (0+1) 0 (ρ.t 3)=gc at*;subst hw';have gd:Grow w w.drew:=Grow.drew w;obtain⟨f1,f2,f3⟩:=Hg (sto.grow gd) ((([]:List Value)++[vI x]).toArray++Builtin.zeroCells (Value.int .i64 0).cells (gc-(0+1))) (ρ.t 3) (l:=[x].map aI++List.replicate (gc-(0+1)) .any) (by
      rw[Fbf];refine Reads.append (Gi _ [x]) ⟨ψk,λi x y hx hy=>?_⟩;rw[Fb1]at hx;split at hx
      · cases hx;exact .any _
      grind)
    have:=h w.heap.size gc (List.replicate (gc-(0+1)) .any) (.inl f1) δ δ g2;exact⟨_,_,_,this,.s _,f2,(gd.chg M).trans f3⟩
  · cases hu
    have hbv:b≠vb:=hne b cap rfl;have hobj:=(sto.obj b _ ho).1;obtain⟨c,e,fr,h1,h2,h3,h4⟩:=My hobj;have cell:∀j,j<c.size->w.cell? ⟨b,0+j,none⟩=c[j]?:=λj hj=>by simp_all[World.cell?]
    have froz:∀o,w.frozen? ⟨b,o,none⟩=false:=λo=>by grind[World.frozen?]
    have hcs:∀j v,(ns.map vI)[j]?=some v->w.cell? ⟨b,0+j,none⟩=some v:=δ;have h1c:∀v∈ns.map vI,v.oneCell'=true:=by intro v hv;obtain⟨n,_,rfl⟩:=Fai.1 hv;rfl
    by_cases hroom:ns.length+1<=cap
    · obtain⟨L0,hL⟩:∃L0,L=L0:=⟨_,rfl⟩
      by_cases hin:i=ns.length
      · subst hin
        refine Calls.mono (Any2.slices_Insert_int_end_room Ly b 0 ns.length cap vb 0 1 1 [vI x] w θ hroom hc3 rfl (λj hj=>?_) (λj hj=>froz _) hvs h1v) λe' w' ⟨he,hw'⟩=>⟨_,he,?_⟩
        · grind
        · subst hw'
          rw[Fbi];have hw:=Lr [vI x] ns.length w c e fr h1 δ;obtain⟨k1,k2⟩:=Co sto ho (Gi _ [x]) hw;rw[Gd φ]at k1;have e2:(ns.take ns.length++x::ns.drop ns.length).map aI=ns.map aI++[x].map aI:=φ;have:=h b cap (L.drop 1) (.inr ⟨cap,rfl⟩) θ δ hc3;rw[hl',e2]at this;exact⟨_,_,M,this,.s _,k1,k2⟩
      · have hsz:∀j,j<ns.length+1->(w.cell? ⟨b,0+j,none⟩).isSome=true:=λj hj=>by grind
        refine Calls.mono (Any2.slices_Insert_int_shift Ly b 0 ns.length cap i vb 0 1 1 (ns.map vI) [vI x] w θ θ hroom hc3 (Ne.symm hbv) φ rfl hcs hsz (λj _=>froz _) hvs h1c h1v ev e cv.size c.size
          (by simp[World.shape?,v1]) (by simp[World.shape?,h1]) θ ?_ ?_) λe' w' ⟨he,hw'⟩=>⟨_,he,?_⟩
        · grind[World.frozen?]
        · grind[World.frozen?]
        · subst hw'
          rw[Fbi,Fbi,<-List.map_drop];have gd:Grow w w.drew:=Grow.drew w;have hw1:=Lr ((ns.drop i).map vI) (i+1) w.drew c e fr h1 δ;obtain⟨k1,k2⟩:=Co (sto.grow gd) ho (Gi _ _) hw1;obtain⟨c',m1,_,m2⟩:=hw1.blk c e fr h1;have hw2:=Lr [vI x] i _ c' e fr m1 δ;obtain⟨k3,k4⟩:=Co k1 (zd _ _ _) (Gi _ [x]) hw2;rw[ym]at k3;have e1:zp (zp (ns.map aI++L) (i+1) ((ns.drop i).map aI)) i ([x].map aI)=(ns.take i++x::ns.drop i).map aI++L.drop 1:=by
            have hL1:1<=L.length:=θ;cases L with
            |nil=>grind
            | cons y L=>
              have q1:ns.map aI++y::L=(ns.map aI++[y]).take (i+1)++((ns.map aI++[y]).drop (i+1)++L):=by grind[List.take_append_drop]
              have q2:((ns.map aI++[y]).take (i+1)).length=i+1:=δ;grind[Gd,List.map_take,List.take_succ_eq_append_getElem]
          rw[e1]at k3;have:=h b cap (L.drop 1) (.inr ⟨cap,rfl⟩) θ (by rw[hl'];simp;omega) hc3;rw[hl']at this;exact⟨_,_,M,this,.s _,k3,((gd.chg M).trans k2).trans k4⟩
    · obtain⟨g1,g2⟩:=hcut w (ns.length+1) cap (ρ.t 3) θ
      by_cases hin:i=ns.length
      · subst hin
        refine Calls.mono (Any2.slices_Insert_int_end_grow Ly (some ⟨b,0,none⟩) ns.length cap vb 0 1 1 (ns.map vI) [vI x] w θ hc1 θ hlen φ rfl (λhh=>by cases hh) (λa ha j v hj=>?_) hvs h1v) λe' w' ⟨he,hw'⟩=>⟨_,he,?_⟩
        · cases ha;rw[wx];exact hcs j v hj
        · generalize grownCap w (ns.length+1) cap (ρ.t 3)=gc at*
          subst hw';have gd:Grow w w.drew:=Grow.drew w;obtain⟨f1,f2,f3⟩:=Hg (sto.grow gd) ((ns.map vI++[vI x]).toArray++Builtin.zeroCells (Value.int .i64 0).cells (gc-(ns.length+1))) (ρ.t 3) (l:=(ns++[x]).map aI++List.replicate (gc-(ns.length+1)) .any) (by
            rw[Fbf];refine Reads.append ?_ ⟨ψk,λi x y hx hy=>?_⟩
            · have:=Gi (w:=w.drew) (λb o=>M b o\/Oth b o) (ns++[x])
              rw[Fax (f:=vI)]at this;exact this
            · rw[Fb1]at hx
              split at hx
              · cases hx;exact .any _
              · cases hx)
          have e2:ns.take ns.length++x::ns.drop ns.length=ns++[x]:=φ;rw[e2]at h;have:=h w.heap.size gc (List.replicate (gc-(ns.length+1)) .any) (.inl f1) (by simpa using g1) χ g2;rw[Fad]at this;exact⟨_,_,_,this,.s _,f2,(gd.chg M).trans f3⟩
      · refine Calls.mono (Any2.slices_Insert_int_grow Ly b 0 ns.length cap i vb 0 1 1 (ns.map vI) [vI x] w θ θ hc1 θ hlen φ rfl hcs hvs h1c h1v) λe' w' ⟨he,hw'⟩=>⟨_,he,?_⟩
        generalize grownCap w (ns.length+1) cap (ρ.t 3)=gc at*;subst hw';rw[<-List.map_take,<-List.map_drop];obtain⟨f1,f2,f3⟩:=Hg sto (((ns.take i).map vI).toArray++Builtin.zeroCells (Value.int .i64 0).cells (ns.length+1-i)++Builtin.zeroCells (Value.int .i64 0).cells (gc-(ns.length+1))) (ρ.t 3) (l:=(ns.take i).map aI++List.replicate (ns.length+1-i+(gc-(ns.length+1))) .any) (by
          rw[Array.append_assoc,Fbf];refine Reads.append (Gi _ _) ⟨ψk,λi x y hx hy=>?_⟩;rw[Fb1]at hx;split at hx
          · cases hx;exact .any _
          · cases hx)
        generalize hArr:(((ns.take i).map vI).toArray++Builtin.zeroCells (Value.int .i64 0).cells (ns.length+1-i)++Builtin.zeroCells (Value.int .i64 0).cells (gc-(ns.length+1)))=Arr at*;have hAs:Arr.size=gc:=by rw[<-hArr];simp[Builtin.zeroCells,Value.cells];omega
        have hb1:(w.alloc (.cells Arr (ρ.t 3))).drew.heap[w.heap.size]?=some (.cells Arr (ρ.t 3) (0,0)):=Ix w _;have gd1:Grow (w.alloc (.cells Arr (ρ.t 3))) (w.alloc (.cells Arr (ρ.t 3))).drew:=Grow.drew _;have hw1:=Lr [vI x] i _ _ _ _ hb1 χ;obtain⟨k1,k2⟩:=Co (f2.grow gd1) (zd _ _ _) (Gi _ [x]) hw1;obtain⟨c',m1,_,m2⟩:=hw1.blk _ _ _ hb1;have gd2:Grow ((w.alloc (.cells Arr (ρ.t 3))).drew.setCells w.heap.size i [vI x]) ((w.alloc (.cells Arr (ρ.t 3))).drew.setCells w.heap.size i [vI x]).drew:=Grow.drew _;have hw2:=Lr ((ns.drop i).map vI) (i+1) ((w.alloc (.cells Arr (ρ.t 3))).drew.setCells w.heap.size i [vI x]).drew c' _ _ m1 χ;obtain⟨k3,k4⟩:=Co (k1.grow gd2) (zd _ _ _) (Gi _ _) hw2;rw[ym,ym]at k3;have e1:zp (zp ((ns.take i).map aI++List.replicate (ns.length+1-i+(gc-(ns.length+1))) .any) i ([x].map aI)) (i+1) ((ns.drop i).map aI)=(ns.take i++x::ns.drop i).map aI++List.replicate (gc-(ns.length+1)) .any:=by rw[Gd χ,Gd χ,List.drop_replicate,List.drop_replicate];have q:ns.length+1-i+(gc-(ns.length+1))-([x].map aI).length-((ns.drop i).map aI).length=gc-(ns.length+1):=χ;rw[q];simp
        rw[e1]at k3;have:=h w.heap.size gc (List.replicate (gc-(ns.length+1)) .any) (.inl f1) θ (by rw[hl'];simp;omega) g2;rw[hl']at this;exact⟨_,_,_,this,.s _,k3,((((f3.trans (gd1.chg _)).trans k2).trans (gd2.chg _)).trans k4)⟩
end
section
variable {a g:Store} {b j:Nat} {x id:Int}
theorem zz(a g:Store)(b:Nat)(x:AObj):(a.un g).sO b x=a.un (g.sO b x):=by unfold Store.un Store.sO;grind
theorem Du(a:Store):a.un Store.empty=a:=ξ
theorem ypw(a:Store):zh a Store.empty:=λb _ h=>h.elim (λh=>h rfl) (λh=>h rfl)
theorem fresh_un(h:Fresh (a.un g) b):Fresh a b/\Fresh g b:=by grind[fresh_iff,un_has]
theorem has_setObj_iff{i:Nat}{x:AObj}:(g.sO b x).has i↔i=b\/g.has i:=by grind[Store.has,zd,qe,Store.sO]
theorem disj_setR{x:AObj}(h:zh a g)(hb:Fresh a b):zh a (g.sO b x):=by
 intro i hi hg;rcases has_setObj_iff.1 hg with rfl|hg
 ·exact(fresh_iff.1 hb) hi
 ·exact h i hi hg
theorem Ni{x y:AObj}(h:zh a g)(hb:g.obj b=some y):zh a (g.sO b x):=by
 intro i hi hg;rcases has_setObj_iff.1 hg with rfl|hg
 ·exact h i hi (k9 hb)
 ·exact h i hi hg
def zy(p:Vc):Int×Int:=(nrm p.1/131072,nrm p.2/131072)
abbrev Ent:=Int×Vc
def Af(e:Ent):AV×AV:=(int e.1,.agg (yd e.2))
structure Grp where
 x:Int
 y:Int
 ns:List Int
 b:Nat
 cap:Nat
 L:List AV
def Grp.key(g:Grp):Int×Int:=(g.x,g.y)
def Ae(g:Grp):AV×AV:=(.agg [int g.x,int g.y],.s (.slice (some ⟨g.b,0,none⟩) g.ns.length g.cap))
def Grp.fits(g:Grp):Prop:=g.ns.length<=g.cap/\g.cap<=g.ns.length+g.L.length/\g.cap<=9223372036854775807
structure CellsAt(a:Store)(p ma mi:Nat)(l:List Ent)(bs1:List Nat)(c1:Nat)(G:List Grp)(bs2:List Nat)(c2:Nat):Prop where
 hp:a.obj p=some (.cells [.s (.map (some ma)),.s (.map (some mi))])
 ha:a.obj ma=some (.map (l.map Af) bs1 c1)
 hi:a.obj mi=some (.map (G.map Ae) bs2 c2)
 ne:ma≠mi
 hg:∀g∈G,a.obj g.b=some (.cells (g.ns.map aI++g.L))/\g.fits/\g.b≠p
 nd:(G.map (·.b)).Nodup
structure Inv(l:List Ent)(G:List Grp):Prop where
 n1:(l.map (·.1)).Nodup
 n2:(G.map (·.key)).Nodup
 s:∀g∈G,g.ns.Pairwise (·<·)/\g.ns≠[]
 m1:∀g∈G,∀id,id∈g.ns↔∃e∈l,e.1=id/\zy e.2=g.key
 m2:∀e∈l,∃g∈G,g.key=zy e.2
def vg(a:Store)(p:Nat)(l:List Ent):Prop:=∃ma mi bs1 c1 G bs2 c2,CellsAt a p ma mi l bs1 c1 G bs2 c2/\Inv l G
theorem ze2(x:Int):∀{ns:List Int},ns.Pairwise (·<·)->ns.take (ns.countP (·<x))=ns.filter (·<x)/\ns.drop (ns.countP (·<x))=ns.filter (x<=·):=by
 intro ns;induction ns with
 |nil=>simp
 |cons a ns ih=>
  intro h;obtain⟨h1,h2⟩:=Fct.1 h;grind
theorem yqg(x:Int)(ns:List Int):ns.countP (·<x)<=ns.length:=List.countP_le_length
theorem ylf{ns:List Int}(h:ns.Pairwise (·<·))(hx:x∉ns):
  (ns.take (ns.countP (·<x))++x::ns.drop (ns.countP (·<x))).Pairwise (·<·)/\∀y,y∈ns.take (ns.countP (·<x))++x::ns.drop (ns.countP (·<x))↔y=x\/y∈ns:=by
 obtain⟨h1,h2⟩:=ze2 x h;rw[h1,h2];refine⟨?_,λy=>?_⟩
 ·rw[List.pairwise_append,Fct];refine⟨h.filter _,⟨λy hy=>?_,h.filter _⟩,λa ha b hb=>?_⟩
  ·have h3:=Fbx.1 hy;have h4:x<=y:=by simpa using h3.2
   have h5:y≠x:=λe=>hx (e▸h3.1);omega
  ·have h3:=(Fbx.1 ha).2;have h3:a<x:=by simpa using h3
   rcases Fa6.1 hb with rfl|hb
   ·exact h3
   ·have h4:x<=b:=by simpa using(Fbx.1 hb).2
    omega
 grind
theorem yp3{ns:List Int}(h:ns.Pairwise (·<·))(hx:x∈ns):
  ns.countP (·<x)+1<=ns.length/\(ns.take (ns.countP (·<x))++ns.drop (ns.countP (·<x)+1)).Pairwise (·<·)/\∀y,y∈ns.take (ns.countP (·<x))++ns.drop (ns.countP (·<x)+1)↔y≠x/\y∈ns:=by
 obtain⟨h1,h2⟩:=ze2 x h;have hsub:(ns.take (ns.countP (·<x))++ns.drop (ns.countP (·<x)+1)).Sublist ns:=by grind[List.take_append_drop]
 have h3:ns.filter (x<=·)=x::ns.filter (x<·):=by
  clear h1 h2 hsub;induction ns with
  |nil=>cases hx
  |cons a ns ih=>
   obtain⟨k1,k2⟩:=Fct.1 h;rcases Fa6.1 hx with rfl|hx
   ·grind[List.filter_congr]
   grind
 have h4:ns.drop (ns.countP (·<x)+1)=ns.filter (x<·):=by rw[<-List.drop_drop,h2,h3];rfl
 grind
theorem Fp{α β:Type}{f:α->β}:∀{G:List α} {i j:Nat} {a b:α},(G.map f).Nodup->G[i]?=some a->G[j]?=some b->f a=f b->i=j:=by
 intro G i j a b hn hi hj h;have hi':(G.map f)[i]?=some (f a):=by simp[hi]
 have hj':(G.map f)[j]?=some (f b):=by simp[hj]
 grind[List.getElem?_inj]
theorem Fq{α β:Type}{f:α->β}{G:List α}{g g' g1:α}(hn:(G.map f).Nodup)(hj:G[j]?=some g):g1∈G.set j g'↔g1=g'\/(g1∈G/\f g1≠f g):=by
 have hlt:=(Fa2.1 hj).1;constructor
 ·intro h;obtain⟨i,hi⟩:=Fa4.1 h;by_cases hij:j=i
  ·grind
  grind[Fp]
 ·rintro(rfl|⟨h1,h2⟩)
  ·grind[List.getElem?_set_self]
  ·obtain⟨i,hi⟩:=Fa4.1 h1;have hij:j≠i:=λe=>by grind
   exact Fa4.2 ⟨i,δ⟩
theorem V6{α β:Type}{f:α->β}{G:List α}{g g1:α}(hn:(G.map f).Nodup)(hj:G[j]?=some g):g1∈G.eraseIdx j↔(g1∈G/\f g1≠f g):=by
 constructor
 ·grind[List.mem_iff_getElem?,Fp]
 ·rintro⟨h1,h2⟩;obtain⟨i,hi⟩:=Fa4.1 h1;have hij:i≠j:=λe=>by grind
  refine Fa4.2 ?_;by_cases hlt:i<j
  ·exact⟨i,δ⟩
  ·refine⟨i-1,?_⟩;grind
theorem map_set_same{α β:Type}(f:α->β){G:List α}{g g':α}(hj:G[j]?=some g)(h:f g'=f g):(G.set j g').map f=G.map f:=by rw[Fc4,h];apply Fb8;grind
theorem ykt{G:List Grp}(hn:(G.map (·.key)).Nodup){g g1:Grp}(h:g∈G)(h1:g1∈G)(hk:g1.key=g.key):g1=g:=by grind[List.mem_iff_getElem?,Fp]
theorem Pm{l:List Ent}(hn:(l.map (·.1)).Nodup){e e1:Ent}(h:e∈l)(h1:e1∈l)(hk:e1.1=e.1):e1=e:=by obtain⟨i,hi⟩:=Fa4.1 h;obtain⟨j,hj⟩:=Fa4.1 h1;have:=Fp (f:=λ(e:Ent)=>e.1) hn hj hi hk;grind
def qn(l:List Ent)(id:Int):List Ent:=l.filter λe=>e.1 != id
theorem mem_dropId{l:List Ent}{e:Ent}:e∈qn l id↔e∈l/\e.1≠id:=by simp[qn]
theorem zer{l:List Ent}(h:(l.map (·.1)).Nodup):((qn l id).map (·.1)).Nodup:=h.sublist ((List.filter_sublist).map _)
theorem yk2{l:List Ent}{G:List Grp}(h:Inv l G){e:Ent}(he:e∈l){g:Grp}(hj:G[j]?=some g)(hk:g.key=zy e.2){ns':List Int}(hs:ns'.Pairwise (·<·))(hm:∀y,y∈ns'↔y≠e.1/\y∈g.ns):
  (ns'=[]->Inv (qn l e.1) (G.eraseIdx j))/\(ns'≠[]->∀g':Grp,g'.key=g.key->g'.ns=ns'->Inv (qn l e.1) (G.set j g')):=by
 have hgm:=Fba hj;have key:∀g1∈G,g1.key≠g.key->∀id,id∈g1.ns↔∃e1∈qn l e.1,e1.1=id/\zy e1.2=g1.key:=by
  intro g1 h1 h2 id;rw[h.m1 g1 h1 id];constructor
  ·rintro⟨e1,h3,h4,h5⟩;refine⟨e1,mem_dropId.2 ⟨h3,λh6=>h2 ?_⟩,h4,h5⟩;rw[<-h5,Pm h.n1 he h3 h6,hk]
  grind[mem_dropId]
 refine⟨λhn=>?_,λhn g' hk' hns=>?_⟩
 ·refine⟨zer h.n1,h.n2.sublist ((List.eraseIdx_sublist ..).map _),λg1 h1=>?_,λg1 h1=>?_,λe1 h1=>?_⟩
  ·exact h.s g1 ((V6 (f:=Grp.key) h.n2 hj).1 h1).1
  ·obtain⟨h2,h3⟩:=(V6 (f:=Grp.key) h.n2 hj).1 h1;grind
  ·obtain⟨h2,h3⟩:=mem_dropId.1 h1;obtain⟨g1,h4,h5⟩:=h.m2 e1 h2;refine⟨g1,(V6 (f:=Grp.key) h.n2 hj).2 ⟨h4,λh6=>?_⟩,h5⟩;have h7:e1.1∈g.ns:=(h.m1 g hgm e1.1).2 ⟨e1,h2,rfl,δ⟩;grind
 ·refine⟨zer h.n1,by rw[map_set_same Grp.key hj hk'];exact h.n2,λg1 h1=>?_,λg1 h1=>?_,λe1 h1=>?_⟩
  ·rcases(Fq (f:=Grp.key) h.n2 hj).1 h1 with rfl|⟨h2,_⟩
   ·grind
   ·exact h.s g1 h2
  ·rcases(Fq (f:=Grp.key) h.n2 hj).1 h1 with rfl|⟨h2,h3⟩
   ·intro id;rw[hns,hm,h.m1 g hgm,hk'];constructor
    ·rintro⟨h4,e1,h5,h6,h7⟩;grind[mem_dropId]
    grind[mem_dropId]
   grind
  ·obtain⟨h2,h3⟩:=mem_dropId.1 h1;obtain⟨g1,h4,h5⟩:=h.m2 e1 h2;by_cases h6:g1.key=g.key
   ·exact⟨g',(Fq (f:=Grp.key) h.n2 hj).2 (.inl rfl),δ⟩
   ·exact⟨g1,(Fq (f:=Grp.key) h.n2 hj).2 (.inr ⟨h4,h6⟩),h5⟩
theorem yk3{l:List Ent}{G:List Grp}(h:Inv l G){e:Ent}(he:∀e1∈l,e1.1≠e.1):
  (∀j g g',G[j]?=some g->g.key=zy e.2->g'.key=g.key->g'.ns.Pairwise (·<·)->(∀y,y∈g'.ns↔y=e.1\/y∈g.ns)->Inv (l++[e]) (G.set j g'))∧
  ((∀g∈G,g.key≠zy e.2)->∀g',g'.key=zy e.2->g'.ns=[e.1]->Inv (l++[e]) (G++[g'])):=by
 have n1:((l++[e]).map (·.1)).Nodup:=by rw[Fax,Fc8];refine⟨h.n1,φ,λa ha b hb=>?_⟩;grind
 have key:∀g1∈G,g1.key≠zy e.2->∀id,id∈g1.ns↔∃e1∈l++[e],e1.1=id/\zy e1.2=g1.key:=by
  intro g1 h1 h2 id;rw[h.m1 g1 h1 id];constructor
  ·simp_all
  grind
 refine⟨λj g g' hj hk hk' hs hm=>?_,λhno g' hk' hns=>?_⟩
 ·have hgm:=Fba hj;refine⟨n1,by rw[map_set_same Grp.key hj hk'];exact h.n2,λg1 h1=>?_,λg1 h1=>?_,λe1 h1=>?_⟩
  ·rcases(Fq (f:=Grp.key) h.n2 hj).1 h1 with rfl|⟨h2,_⟩
   ·grind
   ·exact h.s g1 h2
  ·rcases(Fq (f:=Grp.key) h.n2 hj).1 h1 with rfl|⟨h2,h3⟩
   ·intro id;rw[hm,h.m1 g hgm,hk'];constructor
    ·rintro(rfl|⟨e1,h5,h6,h7⟩)
     ·grind
     grind
    grind
   grind
  ·rcases Fat.1 h1 with h1|h1
   ·obtain⟨g1,h4,h5⟩:=h.m2 e1 h1;by_cases h6:g1.key=g.key
    ·exact⟨g',(Fq (f:=Grp.key) h.n2 hj).2 (.inl rfl),δ⟩
    ·exact⟨g1,(Fq (f:=Grp.key) h.n2 hj).2 (.inr ⟨h4,h6⟩),h5⟩
   ·simp at h1;subst h1;exact⟨g',(Fq (f:=Grp.key) h.n2 hj).2 (.inl rfl),δ⟩
 ·refine⟨n1,?_,λg1 h1=>?_,λg1 h1=>?_,λe1 h1=>?_⟩
  ·rw[Fax,Fc8];refine⟨h.n2,φ,λa ha b hb=>?_⟩;grind
  ·rcases Fat.1 h1 with h1|h1
   ·exact h.s g1 h1
   grind
  ·rcases Fat.1 h1 with h1|h1
   ·grind
   ·simp at h1;subst h1;intro id;rw[hns,hk'];constructor
    ·grind
    ·rintro⟨e1,h2,h3,h4⟩;rcases Fat.1 h2 with h2|h2
     ·obtain⟨g2,h5,h6⟩:=h.m2 e1 h2;grind
     grind
  ·rcases Fat.1 h1 with h1|h1
   ·obtain⟨g1,h4,h5⟩:=h.m2 e1 h1;grind
   grind
end
def qA(id:Int)(e:AV×AV):Bool:=match e.1 with|.s (.int _ n)=>id==n|_=>false
def qG(x y:Int)(e:AV×AV):Bool:=match e.1 with|.agg [.s (.int _ a),.s (.int _ b)]=>(x==a&&(y==b&&true))|_=>false
def Ay(id:Int)(e:Ent):Bool:=id==e.1
def G7(k:Int×Int)(g:Grp):Bool:=(k.1==g.x&&(k.2==g.y&&true))
theorem atKey_iff{k:Int×Int}{g:Grp}:G7 k g=true↔g.key=k:=by grind[G7,Grp.key]
theorem zd6(l:List Ent)(id:Int):(l.map Af).find? (qA id)=(l.find? (Ay id)).map Af:=by rw[List.find?_map];rfl
theorem W4(l:List Ent)(id:Int):(l.map Af).findIdx? (qA id)=l.findIdx? (Ay id):=by rw[List.findIdx?_map];rfl
theorem Px(G:List Grp)(k:Int×Int):(G.map Ae).find? (qG k.1 k.2)=(G.find? (G7 k)).map Ae:=by rw[List.find?_map];rfl
theorem W3(G:List Grp)(k:Int×Int):(G.map Ae).findIdx? (qG k.1 k.2)=G.findIdx? (G7 k):=by rw[List.findIdx?_map];rfl
theorem W0{α:Type}{q:α->Bool}{l:List α}{e:α}(h:l.find? q=some e):e∈l/\q e=true:=⟨Fd7 h,List.find?_some h⟩
theorem yok{α:Type}{q:α->Bool}{l:List α}{i:Nat}(h:l.findIdx? q=some i):∃e,l[i]?=some e/\q e=true/\l.find? q=some e:=by grind[List.findIdx?_eq_some_iff_getElem,zd4]
theorem mp{α:Type}{q:α->Bool}{l:List α}{e:α}(h:l.find? q=some e):∃i,l.findIdx? q=some i/\l[i]?=some e:=by
 cases hi:l.findIdx? q with
 |none=>grind
 |some i=>
  obtain⟨e',h1,_,h3⟩:=yok hi;grind
theorem yov{l:List Ent}(hn:(l.map (·.1)).Nodup){i:Nat}{e:Ent}(hi:l[i]?=some e):l.eraseIdx i=qn l e.1:=by
 induction l generalizing i with
 |nil=>rfl
 |cons a l ih=>
  rw[Fb7,List.nodup_cons]at hn;grind[List.eraseIdx_cons_zero,qn,List.filter_eq_self]
theorem ypb{l:List Ent}{id:Int}(h:l.find? (Ay id)=none):qn l id=l:=by grind[qn,List.filter_eq_self,Ay]
section
variable {a:Store} {p ma mi:Nat} {l:List Ent} {bs1:List Nat} {c1:Nat} {G:List Grp} {bs2:List Nat} {c2:Nat}
theorem CellsAt.p_ne(h:CellsAt a p ma mi l bs1 c1 G bs2 c2):ma≠p/\mi≠p:=by
 refine⟨λe=>?_,λe=>?_⟩
 ·have:=h.ha;rw[e,h.hp]at this;cases this
 ·have:=h.hi;rw[e,h.hp]at this;cases this
theorem CellsAt.g_ne(h:CellsAt a p ma mi l bs1 c1 G bs2 c2){g:Grp}(hg:g∈G):g.b≠ma/\g.b≠mi/\g.b≠p:=by
 obtain⟨h1,h2,h3⟩:=h.hg g hg;refine⟨λe=>?_,λe=>?_,h3⟩
 ·have:=h.ha;grind
 ·have:=h.hi;grind
theorem CellsAt.other(h:CellsAt a p ma mi l bs1 c1 G bs2 c2){b:Nat}(x:AObj)(hp:b≠p)(hma:b≠ma)(hmi:b≠mi)(hg:∀g∈G,b≠g.b):CellsAt (a.sO b x) p ma mi l bs1 c1 G bs2 c2:=
 ⟨by rw[zg (Ne.symm hp)];exact h.hp,by rw[zg (Ne.symm hma)];exact h.ha,by rw[zg (Ne.symm hmi)];exact h.hi,h.ne,
  λg hg'=>by rw[zg (Ne.symm (hg g hg'))];exact h.hg g hg',h.nd⟩
theorem CellsAt.fresh(h:CellsAt a p ma mi l bs1 c1 G bs2 c2){b:Nat}(x:AObj)(hb:Fresh a b):CellsAt (a.sO b x) p ma mi l bs1 c1 G bs2 c2:=
 h.other x (hb.ne_obj h.hp) (hb.ne_obj h.ha) (hb.ne_obj h.hi) λg hg=>hb.ne_obj (h.hg g hg).1
theorem CellsAt.setA(h:CellsAt a p ma mi l bs1 c1 G bs2 c2)(l':List Ent)(bs:List Nat)(c:Nat):CellsAt (a.sO ma (.map (l'.map Af) bs c)) p ma mi l' bs c G bs2 c2:=
 ⟨by rw[zg (Ne.symm h.p_ne.1)];exact h.hp,zd _ _ _,by rw[zg (Ne.symm h.ne)];exact h.hi,h.ne,
  λg hg=>by rw[zg (h.g_ne hg).1];exact h.hg g hg,h.nd⟩
theorem CellsAt.setI(h:CellsAt a p ma mi l bs1 c1 G bs2 c2){G':List Grp}(bs:List Nat)(c:Nat)(hg:∀g∈G',a.obj g.b=some (.cells (g.ns.map aI++g.L))/\g.fits/\g.b≠p)(nd:(G'.map (·.b)).Nodup):
  CellsAt (a.sO mi (.map (G'.map Ae) bs c)) p ma mi l bs1 c1 G' bs c:=
 ⟨by rw[zg (Ne.symm h.p_ne.2)];exact h.hp,by rw[zg h.ne];exact h.ha,zd _ _ _,h.ne,
  λg hg'=>by
   obtain⟨h1,h2,h3⟩:=hg g hg';have:g.b≠mi:=λe=>by have:=h.hi;grind
   grind[zg],nd⟩
structure CellsMid(a:Store)(p ma mi:Nat)(l:List Ent)(bs1:List Nat)(c1:Nat)(G:List Grp)(bs2:List Nat)(c2:Nat)(b:Nat):Prop where
 hp:a.obj p=some (.cells [.s (.map (some ma)),.s (.map (some mi))])
 ha:a.obj ma=some (.map (l.map Af) bs1 c1)
 hi:a.obj mi=some (.map (G.map Ae) bs2 c2)
 ne:ma≠mi
 hg:∀g∈G,g.b≠b->a.obj g.b=some (.cells (g.ns.map aI++g.L))/\g.fits/\g.b≠p
 nd:(G.map (·.b)).Nodup
theorem CellsAt.mid(h:CellsAt a p ma mi l bs1 c1 G bs2 c2){b:Nat}(x:AObj)(hp:b≠p)(hma:b≠ma)(hmi:b≠mi):CellsMid (a.sO b x) p ma mi l bs1 c1 G bs2 c2 b:=
 ⟨by rw[zg (Ne.symm hp)];exact h.hp,by rw[zg (Ne.symm hma)];exact h.ha,by rw[zg (Ne.symm hmi)];exact h.hi,h.ne,
  λg hg' hne=>by rw[zg hne];exact h.hg g hg',h.nd⟩
theorem CellsMid.setI{b:Nat}(h:CellsMid a p ma mi l bs1 c1 G bs2 c2 b){G':List Grp}(bs:List Nat)(c:Nat)(hg:∀g∈G',(g∈G/\g.b≠b)\/(a.obj g.b=some (.cells (g.ns.map aI++g.L))/\g.fits/\g.b≠p))(nd:(G'.map (·.b)).Nodup):
  CellsAt (a.sO mi (.map (G'.map Ae) bs c)) p ma mi l bs1 c1 G' bs c:=by
 have hpi:mi≠p:=λe=>by have:=h.hi;rw[e,h.hp]at this;cases this
 refine⟨by rw[zg (Ne.symm hpi)];exact h.hp,by rw[zg h.ne];exact h.ha,zd _ _ _,h.ne,λg hg'=>?_,nd⟩;have key:a.obj g.b=some (.cells (g.ns.map aI++g.L))/\g.fits/\g.b≠p:=by grind[hg]
 obtain⟨h1,h2,h3⟩:=key;have:g.b≠mi:=λe=>by have:=h.hi;grind
 grind[zg]
end
theorem ygr{a:Store}{p ma mi:Nat}{l:List Ent}{bs1:List Nat}{c1:Nat}{G:List Grp}{bs2:List Nat}{c2:Nat}(ha:CellsAt a p ma mi l bs1 c1 G bs2 c2)(hi:Inv l G){id:Int}{pos:Vc}(hno:∀e∈l,e.1≠id):
  ∃cur ns,Ft false (.s (.slice none 0 0)) ((G.find? (G7 (zy pos))).map Ae)=cur/\Ints a cur ns/\ns.Pairwise (·<·)/\(ns=[]\/∃g∈G,ns=g.ns)/\(∀b cap,cur=.s (.slice (some ⟨b,0,none⟩) ns.length cap)->a.obj b≠none)∧
   ∀vb lit b cap L,Fresh a vb->(Fresh (a.sO vb lit) b\/∃c0,cur=.s (.slice (some ⟨b,0,none⟩) ns.length c0))->
    (ns.take (ns.countP (·<id))++id::ns.drop (ns.countP (·<id))).length<=cap->cap<=(ns.take (ns.countP (·<id))++id::ns.drop (ns.countP (·<id))).length+L.length->cap<=9223372036854775807->
    ((a.sO vb lit).sO b (.cells ((ns.take (ns.countP (·<id))++id::ns.drop (ns.countP (·<id))).map aI++L))).obj mi=some (.map (G.map Ae) bs2 c2)∧
    ((a.sO vb lit).sO b (.cells ((ns.take (ns.countP (·<id))++id::ns.drop (ns.countP (·<id))).map aI++L))).obj p=some (.cells [.s (.map (some ma)),.s (.map (some mi))])∧
    ∃G' bs2' c2',vq (G.map Ae) bs2 c2 (qG (zy pos).1 (zy pos).2) (.agg [int (zy pos).1,int (zy pos).2]) (.s (.slice (some ⟨b,0,none⟩) (ns.take (ns.countP (·<id))++id::ns.drop (ns.countP (·<id))).length cap))=.map (G'.map Ae) bs2' c2'∧
     CellsAt (((a.sO vb lit).sO b (.cells ((ns.take (ns.countP (·<id))++id::ns.drop (ns.countP (·<id))).map aI++L))).sO mi (.map (G'.map Ae) bs2' c2')) p ma mi l bs1 c1 G' bs2' c2'/\Inv (l++[(id,pos)]) G':=by
 obtain⟨w1,w2⟩:=yk3 (e:=(id,pos)) hi hno;cases hf:G.find? (G7 (zy pos))with
 |none=>
  refine⟨_,[],rfl,.inl ⟨rfl,rfl⟩,List.Pairwise.nil,.inl rfl,λb cap h=>?_,λvb lit b cap L hvb hb h1 h2 h3=>?_⟩
  ·simp[Ft]at h
  have hb:Fresh (a.sO vb lit) b:=by grind[Ft]
  simp only[List.countP_nil,List.take_nil,List.drop_nil,Fdh]at*;have a1:=ha.fresh lit hvb;have a2:=a1.fresh (.cells ([id].map aI++L)) hb;refine⟨a2.hi,a2.hp,G++[⟨(zy pos).1,(zy pos).2,[id],b,cap,L⟩],bs2++[c2],c2+1,?_,?_,?_⟩
  ·unfold vq;have:G.findIdx? (G7 (zy pos))=none:=by grind
   rw[W3,this,Fax];rfl
  ·refine a2.setI _ _ (λg hg=>?_) ?_
   ·rcases Fat.1 hg with hg|hg
    ·exact a2.hg g hg
    ·simp at hg;subst hg;exact⟨zd _ _ _,⟨h1,h2,h3⟩,hb.ne_obj a1.hp⟩
   ·rw[Fax,Fc8];refine⟨ha.nd,φ,λx hx y hy=>?_⟩;obtain⟨g,hg,rfl⟩:=Fai.1 hx;simp at hy;subst hy;exact Ne.symm (hb.ne_obj (a1.hg g hg).1)
  ·refine w2 (λg hg hk=>?_) _ rfl rfl;grind[atKey_iff]
 |some g=>
  obtain⟨hg,hk⟩:=W0 hf;have hk:=atKey_iff.1 hk;obtain⟨j,hj1,hj2⟩:=mp hf;obtain⟨k1,k2,k3⟩:=ha.hg g hg;obtain⟨s1,s2⟩:=hi.s g hg;have hnin:id∉g.ns:=λh=>by obtain⟨e,he,h1,_⟩:=(hi.m1 g hg id).1 h;grind
  obtain⟨i1,i2⟩:=ylf s1 hnin;refine⟨_,g.ns,rfl,.inr ⟨g.b,g.cap,g.L,rfl,k1,k2⟩,s1,.inr ⟨g,hg,rfl⟩,λb cap h=>?_,λvb lit b cap L hvb hb h1 h2 h3=>?_⟩
  ·grind[Ft,Ae]
  generalize g.ns.take (g.ns.countP (·<id))++id::g.ns.drop (g.ns.countP (·<id))=ins at*;have a1:=ha.fresh lit hvb;have hbne:b≠p/\b≠ma/\b≠mi/\∀g1∈G,g1≠g->g1.b≠b:=by
   rcases hb with hb|⟨c0,hb⟩
   ·exact⟨hb.ne_obj a1.hp,hb.ne_obj a1.ha,hb.ne_obj a1.hi,λg1 hg1 _=>Ne.symm (hb.ne_obj (a1.hg g1 hg1).1)⟩
   ·have:g.b=b:=by simp[Ft,Ae]at hb;exact hb.1
    subst this;obtain⟨n1,n2,n3⟩:=ha.g_ne hg;refine⟨n3,n1,n2,λg1 hg1 hne he=>hne ?_⟩;obtain⟨i,hi1⟩:=Fa4.1 hg1;have:=Fp (f:=λg:Grp=>g.b) ha.nd hi1 hj2 he;grind
  obtain⟨n3,n1,n2,n4⟩:=hbne;have mid:=a1.mid (.cells (ins.map aI++L)) n3 n1 n2
  let g2:Grp:=⟨g.x,g.y,ins,b,cap,L⟩
  have hmem:∀g1,g1∈G.set j g2->g1=g2\/(g1∈G/\g1≠g):=λg1 h=>by
   rcases(Fq (f:=Grp.key) hi.n2 hj2).1 h with h|⟨h,h'⟩
   ·grind
   grind
  refine⟨mid.hi,mid.hp,G.set j g2,bs2,c2,?_,?_,w1 j g g2 hj2 hk rfl i1 i2⟩
  ·unfold vq;rw[W3,hj1,Fc4];simp only
   congr 2
   show _=(AV.agg [int g.x,int g.y],_)
   rw[<-hk];rfl
  ·refine mid.setI _ _ (λg1 h1'=>?_) ?_
   ·rcases hmem g1 h1' with rfl|⟨q1,q2⟩
    ·exact .inr ⟨zd _ _ _,⟨h1,h2,h3⟩,n3⟩
    grind
   ·rw[Fc4];have hlt:=(Fa2.1 hj2).1;unfold List.Nodup;rw[Fce];intro i1 i2 hl1' hl2 hlt12 he;replace he:=congrArg some he;rw[<-Fac,<-Fac]at he;rw[Fd9,Fd9]at he;simp only[Fap,Faz]at hl2 he;have nd:=ha.nd;by_cases e1:j=i1
    ·subst e1;rw[if_pos rfl,if_pos hlt,if_neg θ,Faq,Fac hl2]at he;simp at he;refine n4 G[i2] (Faa hl2) (λe=>?_) he.symm;have:=Fp (f:=Grp.key) hi.n2 (Fac hl2) hj2 (by rw[e]);omega
    ·by_cases e2:j=i2
     ·subst e2;have hl1:i1<G.length:=θ;rw[if_neg e1,if_pos rfl,if_pos hlt,Faq,Fac hl1]at he;simp at he;refine n4 G[i1] (Faa hl1) (λe=>?_) he;have:=Fp (f:=Grp.key) hi.n2 (Fac hl1) hj2 (by rw[e]);omega
     ·have hl1:i1<G.length:=θ;rw[if_neg e1,if_neg e2,Faq,Faq,Fac hl1,Fac hl2]at he;simp at he;have:=Fp (f:=λg:Grp=>g.b) nd (Fac hl1) (Fac hl2) he;omega
theorem Ints.fresh{st:Store}{v:AV}{ns:List Int}(h:Ints st v ns){b:Nat}(x:AObj)(hb:Fresh st b):Ints (st.sO b x) v ns:=by
 rcases h with h|⟨b1,cap,L,h1,h2,h3⟩
 ·exact .inl h
 ·exact .inr ⟨b1,cap,L,h1,by rw[zg (Ne.symm (hb.ne_obj h2))];exact h2,h3⟩
theorem ysf{P:Program}{c:Cfg}{e:TypeId}{ie:TI}(hie:c.I e=some ie)(hsz:ie.size=1)(hby:ie.bytes=8){st:Store}{v:AV}{ns:List Int}(hv:Ints st v ns)(x:Int)(hlen:ns.length<=1000000000000){K:Ja}
  (h:∀b cap L,(Fresh st b\/∃c0,v=.s (.slice (some ⟨b,0,none⟩) ns.length c0))->(ns++[x]).length<=cap->cap<=(ns++[x]).length+L.length->cap<=9223372036854775807->
   K (.s (.slice (some ⟨b,0,none⟩) (ns++[x]).length cap)) (st.sO b (.cells ((ns++[x]).map aI++L)))):appendK P c st e (.av v) (.av (.lst 1 [[aI x]] none)) K:=by
 have hrows:Ab ie.size (.av (.lst 1 [[aI x]] none))=some [[aI x]]:=by simp[Ab,hsz]
 refine⟨.inr ⟨v,_,rfl,rfl,?_⟩⟩;have hl:(ns++[x]).length=ns.length+1:=φ;rcases hv with⟨rfl,rfl⟩|⟨b,cap,L,rfl,ho,h1,h2,h3⟩
 ·refine zgr hie hrows ⟨δ,φ⟩ φ (λb' cap' hb hc hc2=>?_);grind
 ·refine ph hie (cap:=cap) ho δ h1 hrows ⟨δ,δ⟩ (λhc=>?_) (λhc b' cap' hb hc1 hc2=>?_)
  ·have hc:ns.length+1<=cap:=hc;have e1:zp (ns.map aI++L) (ns.length*ie.size) ([[aI x]]:List (List AV)).flatten=(ns++[x]).map aI++L.drop 1:=by simp_all[Gd]
   have e0:ns.map (λn=>AV.s (.int .i64 n))++L=ns.map aI++L:=rfl;have:=h b cap (L.drop 1) (.inr ⟨cap,rfl⟩) θ δ h3;grind
  ·have hc1:ns.length+1<=cap':=hc1;have e1:(ns.map aI++L).take (ns.length*ie.size)++([[aI x]]:List (List AV)).flatten++List.replicate ((cap'-(ns.length+1))*ie.size) .any=(ns++[x]).map aI++List.replicate (cap'-(ns.length+1)) .any:=by simp_all
   have:=h b' cap' (List.replicate (cap'-(ns.length+1)) .any) (.inl hb) θ δ hc2;rw[hl,<-e1]at this;exact this
structure NearAt(N:Store)(b3 b4 b5 b6 p:Nat)(q:Vc)(r:Int)(v:AV)(acc:List Int):Prop where
 h3:N.obj b3=some (.cells [.s (.pointer (some ⟨p,0,none⟩))])
 h4:N.obj b4=some (.cells (yd q))
 h5:N.obj b5=some (.cells [int r])
 h6:N.obj b6=some (.cells [v])
 hv:Ints N v acc
 n36:b3≠b6
 n46:b4≠b6
 n56:b5≠b6
 nv:∀b n cap,v=.s (.slice (some ⟨b,0,none⟩) n cap)->b≠b3/\b≠b4/\b≠b5/\b≠b6
theorem NearAt.app{N:Store}{b3 b4 b5 b6 p:Nat}{q:Vc}{r:Int}{v:AV}{acc:List Int}(h:NearAt N b3 b4 b5 b6 p q r v acc){b cap:Nat}{L:List AV}{x:Int}
  (hb:Fresh N b\/∃c0,v=.s (.slice (some ⟨b,0,none⟩) acc.length c0)) (h1:(acc++[x]).length<=cap) (h2:cap<=(acc++[x]).length+L.length) (h3:cap<=9223372036854775807):
  NearAt ((N.sO b (.cells ((acc++[x]).map aI++L))).sO b6 (.cells [.s (.slice (some ⟨b,0,none⟩) (acc++[x]).length cap)])) b3 b4 b5 b6 p q r (.s (.slice (some ⟨b,0,none⟩) (acc++[x]).length cap)) (acc++[x]):=by
 have hne:b≠b3/\b≠b4/\b≠b5/\b≠b6:=by
  rcases hb with hb|⟨c0,hb⟩
  ·exact⟨hb.ne_obj h.h3,hb.ne_obj h.h4,hb.ne_obj h.h5,hb.ne_obj h.h6⟩
  ·exact h.nv b _ _ hb
 obtain⟨n3,n4,n5,n6⟩:=hne;refine⟨?_,?_,?_,zd _ _ _,.inr ⟨b,cap,L,rfl,?_,h1,h2,h3⟩,h.n36,h.n46,h.n56,λb' n c e=>?_⟩
 ·rw[zg h.n36,zg (Ne.symm n3)];exact h.h3
 ·rw[zg h.n46,zg (Ne.symm n4)];exact h.h4
 ·rw[zg h.n56,zg (Ne.symm n5)];exact h.h5
 ·rw[zg n6,zd];rfl
 grind
theorem Ints.un{a g:Store}{v:AV}{ns:List Int}(h:Ints g v ns):Ints (a.un g) v ns:=by
 rcases h with h|⟨b1,cap,L,h1,h2,h3⟩
 ·exact .inl h
 ·exact .inr ⟨b1,cap,L,h1,zf h2,h3⟩
section
variable {P:Program} {c:Cfg} {w:World} {st:Store} {Oth M:Nat->Nat->Prop}
structure Stamps(es:List (AV×AV))(bs:List Nat)(clk:Nat):Prop where
  len:es.length=bs.length
  lt:∀t∈bs,t<clk
  inc:bs.Pairwise (·<·)
theorem ysx{o:Oper}{args:List AV}{m clk:Nat}{es:List (AV×AV)}{bs:List Nat}(hm:st.obj m=some (.map es bs clk)){R:Ja}(h:Stamps es bs clk->AEff P c o args st R):AEff P c o args st R:=by refine⟨λOth M w ρ hI sto hr=>?_⟩;obtain⟨⟨ms,g1,g2,g3,g4,g5,g6⟩,hM⟩:=sto.obj m _ hm;exact(h ⟨δ,g5,g6⟩).out Oth M w ρ hI sto hr
theorem yoh{t:Nat}{me:MapEntry}:∀{L:List MapEntry} {i:Nat},(L.map (·.born)).Pairwise (·<·)->L[i]?=some me->me.born=t->L.find? (λe=>e.born==t)=some me:=by
  intro L;induction L with
  |nil=>simp
  | cons a L ih=>
    grind[List.pairwise_cons]
theorem ys3{o:Oper}{x:Operand}(ho:o.op=.entry x){b m clk since:Nat}{es:List (AV×AV)}{bs seen:List Nat}{i t:Nat}{e:AV×AV}(hb:st.obj b=some (.iter m since (seen++[t]) clk))(hm:st.obj m=some (.map es bs clk))
    (he:es[i]?=some e) (hbi:bs[i]?=some t) {R:Ja} (h:R (.tup [e.1,e.2]) st):AEff P c o [.s (.pointer (some ⟨b,0,none⟩))] st R:=by
  refine⟨λOth M w ρ hI sto hr=>?_⟩;rw[ho]at hr;have hr:Reads w (λb o=>M b o\/Oth b o) [.s (.pointer (some ⟨b,0,none⟩))] [ρ x]:=θr;obtain⟨u,hx0,hx⟩:=Kr hr;simp only[Fcf,and_true]at hx0;rw[<-hx0]at hx;have hx:=VRel.eq_s hx;obtain⟨⟨ms,g1,g2,g3,g4,g5,g6⟩,hM⟩:=sto.obj m _ hm;obtain⟨hit,hMb⟩:=sto.obj b _ hb;have hit:w.heap[b]?=some (.mapIter (some m) since (seen++[t]).toArray clk):=hit;have hgo:(getObj b).run P w=.ok (.mapIter (some m) since (seen++[t]).toArray clk) w:=by simp[getObj,Sem.run,hit]
  have hlt:i<ms.size:=δ;have hmi:ms[i]?=some ms[i]:=Fb4 hlt;have hbt:ms[i].born=t:=δ;have hfind:ms.find? (λe=>e.born==t)=some ms[i]:=by rw[<-Array.find?_toList];exact yoh δ (by rw[Fc7];exact hmi) hbt
  have hback:(seen++[t]).toArray.back?=some t:=φ;have hrun:(execOp ρ o).run P w=.ok (.value (.tuple #[ms[i].key,ms[i].val])) w:=by simp only[execOp,ho,Instr.entry,hx,Sem.run_bind,hgo,Result.andThen_ok,hback,Dd g1,bne_self_eq_false,Fah,if_false,hfind,Sem.run_pure]
  rw[hrun];have hrel:=g3 i e ms[i] he hmi;exact⟨_,st,M,h,vx (Reads.cons hrel.1 (Reads.cons hrel.2 Reads.nil)),sto,Chg.refl _ _⟩
end
section
variable {r:Int} {g:Store}
theorem zcm{x:Int}(hx:0<=x)(hr:0<r)(h:x*x<r*r):x<r:=by
 by_cases h1:x<r
 ·exact h1
 ·have h2:r<=x:=θ;have h3:r*r<=x*x:=Fbc h2 h2 θ hx;omega
theorem zez{a b:Int}(ha:yg a)(hb:yg b)(hr:0<r)(hr2:r<=9223372036854775807)(h:asz (qa a b)<r):qa a r<=nrm b/\nrm b<=qg a r:=by grind[Ac,Fm,nrm,qa,asz,qg,vd]
theorem yiu{q p:Vc}(hq:q.ok)(hp:p.ok)(hr:0<r)(hr2:r<=9223372036854775807)(h:near q p r=true):
  ((zy (qa q.1 r,qa q.2 r)).1<=(zy p).1/\(zy p).1<=(zy (qg q.1 r,qg q.2 r)).1)/\((zy (qa q.1 r,qa q.2 r)).2<=(zy p).2/\(zy p).2<=(zy (qg q.1 r,qg q.2 r)).2):=by
 unfold near at h;have h:=(of_decide_eq_true h).2;have e1:=I5 (I1 q.1 p.1);have e2:=I5 (I1 q.2 p.2);have m1:0<=asz (qa q.1 p.1)*asz (qa q.1 p.1):=Faw e1.1 e1.1;have m2:0<=asz (qa q.2 p.2)*asz (qa q.2 p.2):=Faw e2.1 e2.1;have h':asz (qa q.1 p.1)*asz (qa q.1 p.1)+asz (qa q.2 p.2)*asz (qa q.2 p.2)<r*r:=h;have d1:=zez hq.1 hp.1 hr hr2 (zcm e1.1 hr θ);have d2:=zez hq.2 hp.2 hr hr2 (zcm e2.1 hr θ);grind[Fm,mh,zy]
theorem yfw{q:Vc}(hq:q.ok)(hr:0<r)(hr2:r<=9223372036854775807):
  (zy (qa q.1 r,qa q.2 r)).1<=(zy (qg q.1 r,qg q.2 r)).1/\(zy (qa q.1 r,qa q.2 r)).2<=(zy (qg q.1 r,qg q.2 r)).2:=by
 have key:∀a:Int,yg a->qa a r<=qg a r:=by grind[qa,qg,vd,nrm]
 have k1:=key q.1 hq.1;have k2:=key q.2 hq.2;grind[Fm,mh,zy]
theorem zft{p:Vc}(h:p.ok):(-70368744177664<=(zy p).1/\(zy p).1<=70368744177664)/\(-70368744177664<=(zy p).2/\(zy p).2<=70368744177664):=by have h1:=Ac h.1;have h2:=Ac h.2;unfold zy;omega
def NearIn(l:List Ent)(q:Vc)(r:Int)(D:Ent->Prop)(acc:List Int):Prop:=acc.Nodup/\∀id,id∈acc↔∃e∈l,e.1=id/\near q e.2 r=true/\D e
theorem NearIn.congr{l:List Ent}{q:Vc}{D D':Ent->Prop}{acc:List Int}(h:NearIn l q r D acc)(hD:∀e∈l,near q e.2 r=true->(D e↔D' e)):NearIn l q r D' acc:=by refine⟨h.1,λid=>?_⟩;rw[h.2 id];grind
theorem NearIn.len{l:List Ent}{q:Vc}{D:Ent->Prop}{acc:List Int}(h:NearIn l q r D acc):acc.length<=l.length:=by have:=Fbp (l₂:=l.map (·.1)) h.1 (λid hid=>by obtain⟨e,h1,h2,_⟩:=(h.2 id).1 hid;grind);grind
theorem NearIn.step{l:List Ent}(hn:(l.map (·.1)).Nodup){q:Vc}{D:Ent->Prop}{acc:List Int}(h:NearIn l q r D acc){e:Ent}(he:e∈l)(hD:¬D e):NearIn l q r (λe'=>D e'\/e'=e) (if near q e.2 r then acc++[e.1]else acc):=by
 cases hnr:near q e.2 r with
 |false=>
  refine h.congr λe' he' hn'=>⟨.inl,λhh=>hh.elim id λhh=>?_⟩
  grind
 |true=>
  refine⟨?_,λid=>?_⟩
  ·rw[if_pos rfl,Fc8];refine⟨h.1,φ,λa ha b hb=>?_⟩;simp at hb;subst hb;intro hab;subst hab;obtain⟨e',h1,h2,_,h4⟩:=(h.2 _).1 ha;grind[Pm]
  ·rw[if_pos rfl,Fat,h.2 id];grind
theorem ymj{l:List Ent}{G:List Grp}(h:Inv l G):G.length<=l.length:=by
 have h1:(G.map λg=>g.ns.headD 0).Nodup:=by
  unfold List.Nodup;rw[List.pairwise_map];have n2:=h.n2;unfold List.Nodup at n2;rw[List.pairwise_map]at n2;have key:∀g∈G,g.ns.headD 0∈g.ns:=λg hg=>by
   have:=(h.s g hg).2;cases hns:g.ns with
   |nil=>grind
   |cons a t=>simp
  rw[Fce]at n2⊢;intro i j hi hj hij he;obtain⟨e1,q1,q2,q3⟩:=(h.m1 G[i] (Faa hi) _).1 (key _ (Faa hi));obtain⟨e2,q4,q5,q6⟩:=(h.m1 G[j] (Faa hj) _).1 (key _ (Faa hj));refine n2 i j hi hj hij ?_;rw[<-q3,<-q6,Pm h.n1 q4 q1 θ]
 have:=Fbp (l₂:=l.map (·.1)) h1 (λid hid=>by
  obtain⟨g,hg,rfl⟩:=Fai.1 hid;have:=(h.s g hg).2;cases hns:g.ns with
  |nil=>grind
  |cons a t=>
   obtain⟨e,q1,q2,_⟩:=(h.m1 g hg a).1 δ;grind)
 grind
theorem yjb{xs:List Int}(h:xs.Nodup):(xs.mergeSort λx y=>decide (x<=y)).Pairwise (·<·)/\∀n,n∈(xs.mergeSort λx y=>decide (x<=y))↔n∈xs:=by have h1:=List.pairwise_mergeSort (le:=λx y:Int=>decide (x<=y)) (λa b c h1 h2=>δ) (λa b=>δ) xs;have h2:(xs.mergeSort λx y=>decide (x<=y)).Nodup:=(List.mergeSort_perm xs _).nodup_iff.2 h;refine⟨?_,λn=>List.mem_mergeSort⟩;have h3:=h1.and h2;grind
def Rq(l:List Ent)(q:Vc)(r:Int)(ns:List Int):Prop:=ns.Pairwise (·<·)/\∀id,id∈ns↔∃e∈l,e.1=id/\near q e.2 r=true
theorem Gb{a:Store}{b:Nat}{x:AObj}(h:¬g.has b):(a.un g).sO b x=(a.sO b x).un g:=by obtain⟨h1,h2⟩:=wl h;unfold Store.un Store.sO;grind[qe]
theorem nh{a:Store}{b:Nat}{x:AObj}(h:zh a g)(hb:¬g.has b):zh (a.sO b x) g:=by
 intro i hi hg;rcases has_setObj_iff.1 hi with rfl|hi
 ·grind
 ·exact h i hi hg
theorem ypv{a:Store}{b:Nat}{x y:AObj}(h:zh (a.sO b x) g):zh (a.sO b y) g/\¬g.has b:=by
 have h1:¬g.has b:=h b (has_setObj_iff.2 (.inl rfl));refine⟨λi hi hg=>?_,h1⟩;rcases has_setObj_iff.1 hi with rfl|hi
 ·grind
 ·exact h i (has_setObj_iff.2 (.inr hi)) hg
theorem zd3{l:List Ent}(hn:(l.map (·.1)).Nodup){e:Ent}(he:e∈l):l.find? (Ay e.1)=some e:=by
 cases hf:l.find? (Ay e.1)with
 |none=>
  grind[Ay]
 |some e'=>
  grind[Ay,Pm]
end
def Fz:Option Nat->Int|some i=>(i:Int)|none=>-1
theorem Kd(a b c:Store):(a.un b).un c=a.un (b.un c):=by unfold Store.un;grind
theorem Ag(a:Store):Store.empty.un a=a:=by
 unfold Store.un Store.empty
 congr<;>funext i
 ·grind
 grind
theorem disj_un{a b c:Store}:zh (a.un b) c↔zh a c/\zh b c:=
 ⟨λh=>⟨λi h1=>h i (un_has.2 (.inl h1)),λi h1=>h i (un_has.2 (.inr h1))⟩,λ⟨h1,h2⟩ i h=>(un_has.1 h).elim (h1 i) (h2 i)⟩
theorem ziz{a g:Store}:(a.un g).Le g:=⟨λb y h=>⟨y,zf h,AObj.le_refl y⟩,λb x h=>Ha h⟩
theorem AWp.leS{P:Program}{c:Cfg}{code:Code}{Q:Exit->Fr->Store->Prop}{A:Fr}{st st':Store}(hle:st.Le st')(h:AWp P c code Q A st'):AWp P c code Q A st:=by
 refine⟨λOth M a w ⟨β,s⟩=>h.out Oth M a w ⟨β,{tsz:=s.tsz,dfr:=s.dfr,tm:=s.tm,bx:=s.bx,inj:=s.inj,sep:=λk b hk hb=>s.sep k b hk ?_,sto:=s.sto.weakenLe hle}⟩⟩;rcases hb with hb|hb
 ·cases hx:st'.obj b with
  |none=>grind
  |some y=>
   obtain⟨x,h1,_⟩:=hle.obj b y hx;grind
 ·cases hx:st'.tok b with
  |none=>grind
  |some y=>exact .inr (by rw[hle.tok b y hx];simp)
theorem xg{st:Store}{x:AV}{Oth M:Nat->Nat->Prop}{w:World}{v:Value}(h:VRel w (λb o=>M b o\/Oth b o) x v):VRel w (λb o=>(M b o\/Oth b o)/\st.obj b=none) x v:=
 h.mono λ_ _ h=>h.1
structure Bld where
 id:Int
 owner:Int
 x:Int
 y:Int
 w:Int
 h:Int
 deriving DecidableEq
structure Unt where
 id:Int
 owner:Int
 kind:Int
 pos:Vc
 goal:Int
 next:Int
 stuck:Int
 inn:Int
 state:Int
 deriving DecidableEq
structure Wld where
 tick:Int
 players:Int
 next:Int
 G:Gnd
 B:List Bld
 U:List Unt
 deriving DecidableEq
def zi(b:Bld):List AV:=[int b.id,int b.owner,int b.x,int b.y,int b.w,int b.h]
def zn(u:Unt):List AV:=[int u.id,int u.owner,int u.kind,int u.pos.1,int u.pos.2,int u.goal,int u.next,int u.stuck,int u.inn,int u.state]
def zo(w:Wld):List AV:=[int w.tick,int w.players,int w.next,int w.G.W,int w.G.H,ya w.G.T,lst 6 zi w.B,lst 10 zn w.U]
def Wld.fits(w:Wld):Prop:=w.G.fits/\w.B.length<=1000000000000/\w.U.length<=1000000000000
def zx(k:Int):Int:=if k=0 then 24576 else if k=2 then 81920 else 32768
def wq(k:Int):Int:=if k=0 then 16384 else if k=1 then 24576 else if k=2 then 8192 else 16384
def qi(k:Int):Int:=if k=0 then 0 else if k=1 then 1 else if k=2 then 0 else 2
def kj(k:Int):Int:=if k=2 then 1 else 0
def jh(k:Int):Int:=if k=0 then 0 else if k=1 then 0 else if k=2 then 0 else 4
def Fw(k:Int):List AV:=[int (zx k),int (wq k),int (qi k),int (kj k),int (jh k)]
def Av(k:Int):Prop:=0<=k/\k<=3
def Bt(c:Int)(t:Nat):Int:=((if c=0 then [2,1,3,5,0,0]else if c=1 then [2,1,6,0,0,0]else [2,1,0,3,2,0]):List Int).getD t 0
def yk(b:Bld):Prop:=(1<=b.id/\b.id<=1099511627776)/\(1<=b.owner/\b.owner<=8)/\(1<=b.w/\b.w<=4)/\(1<=b.h/\b.h<=4)
def onP(g:Gnd)(b:Bld):Prop:=(0<=b.x/\b.x+b.w<=g.W)/\(0<=b.y/\b.y+b.h<=g.H)
def wu(g:Gnd)(b:Bld)(t:Nat):Prop:=(b.x<=(t:Int)%g.W/\(t:Int)%g.W<b.x+b.w)/\(b.y<=(t:Int)/g.W/\(t:Int)/g.W<b.y+b.h)
instance(g:Gnd)(b:Bld)(t:Nat):Decidable (wu g b t):=inferInstanceAs (Decidable (_/\_))
def Fa(g:Gnd)(b:Bld):Prop:=∀t,t<g.T.length->wu g b t->(g.T.getD t 0).toNat<=1
def vo(a b:Bld):Prop:=(a.x<b.x+b.w/\b.x<a.x+a.w)/\(a.y<b.y+b.h/\b.y<a.y+a.h)
def Ow(l:List Bld):Prop:=∀j,(h:j<l.length)->0<j->(l[j-1]'θ).id<l[j].id
def yl(l:List Unt):Prop:=∀j,(h:j<l.length)->0<j->(l[j-1]'θ).id<l[j].id
def cf(l:List Bld):Prop:=∀j,(h:j<l.length)->∀i,(hi:i<j)->¬vo l[j] (l[i]'θ)
def Hs(g:Gnd)(l:List Bld):Prop:=l.length<=256/\Ow l/\(∀b∈l,yk b/\onP g b/\Fa g b)/\cf l
def qx(g:Gnd)(l:List Bld)(t:Nat):Bool:=l.any λb=>decide (wu g b t)
def yq(g:Gnd)(l:List Bld)(c:Int)(t:Nat):Bool:= !qx g l t&&decide (0<Bt c (g.T.getD t 0).toNat)
def tx(g:Gnd)(t:Nat):Int:=(t:Int)%g.W*65536
def ty(g:Gnd)(t:Nat):Int:=(t:Int)/g.W*65536
def off(x lo:Int):Int:=if x<lo then lo-x else if x>lo+65536 then x-(lo+65536)else 0
def jz(g:Gnd)(t:Nat)(p:Vc)(r:Int):Prop:=off p.1 (tx g t)*off p.1 (tx g t)+off p.2 (ty g t)*off p.2 (ty g t)<r*r
instance(g:Gnd)(t:Nat)(p:Vc)(r:Int):Decidable (jz g t p r):=inferInstanceAs (Decidable (_<_))
def Cl(g:Gnd)(l:List Bld)(c:Int)(p:Vc)(r:Int):Prop:=
 ((r<=p.1/\p.1+r<=g.W*65536)/\(r<=p.2/\p.2+r<=g.H*65536))/\∀t,t<g.T.length->yq g l c t=false->¬jz g t p r
def vf(p:Vc)(r:Int)(q:Vc)(s:Int):Bool:= !near p q (r+s)
def qu(w:Wld)(id k:Int)(p:Vc):Prop:=
 Cl w.G w.B (qi k) p (zx k)/\∀u∈w.U,u.inn=0->u.id≠id->vf p (zx k) u.pos (zx u.kind)=true
def wg(g:Gnd)(t:Int):Prop:=t=-1\/(0<=t/\t<g.W*g.H)
def jx(w:Wld)(u:Unt):Prop:=
 ((1<=u.id/\u.id<w.next)/\(1<=u.owner/\u.owner<=w.players)/\Av u.kind)/\(wg w.G u.goal/\wg w.G u.next/\(0<=u.stuck/\u.stuck<8))∧
 ((0<=u.state/\u.state<=4)/\(u.state=1↔u.goal≠-1))/\(u.goal=-1->u.next=-1/\u.stuck=0)
def Iy(w:Wld):Prop:=
 ((0<=w.tick/\w.tick<=1099511627776)/\(1<=w.players/\w.players<=8)/\(1<=w.next/\w.next<=1099511627776))∧
 (zt w.G/\Hs w.G w.B/\w.U.length<=4096)/\∀b∈w.B,b.owner<=w.players/\b.id<w.next
def Kc(w:Wld):Prop:=yl w.U/\∀u∈w.U,jx w u/\∀b∈w.B,b.id≠u.id
def z8(l:List Unt)(id:Int):List Int:=(l.filter λu=>u.inn==id).map (·.id)
def Bs(w:Wld)(u:Unt):Prop:=
 ∃x∈w.U,x.id=u.inn/\(x.inn=0/\x.owner=u.owner)/\((z8 w.U u.inn).length:Int)<=jh x.kind/\jh u.kind=0/\u.pos=(0,0)/\u.goal=-1/\u.state=0
def z7(w:Wld):Prop:=(Iy w/\Kc w)/\(∀u∈w.U,u.inn=0->qu w u.id u.kind u.pos)/\∀u∈w.U,u.inn≠0->Bs w u
theorem bv(a b:Int):(a==b)=decide (a=b):=ξ
theorem qm{g:Gnd}(h:zt g):1<=g.W*g.H/\g.W*g.H<=16384/\(g.T.length:Int)=g.W*g.H:=by obtain⟨⟨h1,h2⟩,⟨h3,h4⟩,h5,_⟩:=h;have:1*1<=g.W*g.H:=Fbc h1 h3 ψ θ;have:g.W*g.H<=128*128:=Fbc h2 h4 θ ψ;omega
def Po(w:Wld):Prop:=(w.G.T.length>700\/w.B.length>30)\/w.U.length>30
section
variable {x r w lo a:Int} {g:Gnd} {t:Nat}
theorem p8{a b:Vc}(h1:-2305843009213693952<=a.1/\a.1<=2305843009213693952)(h2:-2305843009213693952<=a.2/\a.2<=2305843009213693952)(h3:-2305843009213693952<=b.1/\b.1<=2305843009213693952)(h4:-2305843009213693952<=b.2/\b.2<=2305843009213693952):
  xc a b=(a.1-b.1,a.2-b.2):=by
 have n:∀x:Int,-4611686018427387904<=x/\x<=4611686018427387904->nrm x=x:=λx hx=>by unfold nrm;omega
 have c:∀x:Int,-4611686018427387904<=x/\x<=4611686018427387904->vd x=x:=λx hx=>by unfold vd;omega
 grind[xc,qa,qg]
theorem o5(h:-4611686018427387904<=x/\x<=4611686018427387904):asz x*asz x=x*x:=by
 have n:nrm x=x:=by unfold nrm;omega
 grind[asz]
theorem ic{a b:Vc}(h1:-2305843009213693952<=a.1/\a.1<=2305843009213693952)(h2:-2305843009213693952<=a.2/\a.2<=2305843009213693952)(h3:-2305843009213693952<=b.1/\b.1<=2305843009213693952)(h4:-2305843009213693952<=b.2/\b.2<=2305843009213693952)(hr:0<r):
  near a b r=decide ((a.1-b.1)*(a.1-b.1)+(a.2-b.2)*(a.2-b.2)<r*r):=by
 unfold near sqr;rw[p8 h1 h2 h3 h4,o5 θ,o5 θ];grind
theorem Gc(hg:zt g){t:Nat}(ht:(t:Int)<g.W*g.H):(0<=(t:Int)%g.W/\(t:Int)%g.W<g.W)/\(0<=(t:Int)/g.W/\(t:Int)/g.W<g.H):=by obtain⟨⟨h1,h2⟩,⟨h3,h4⟩,_⟩:=hg;have h5:=Fcn (t:Int) (show g.W≠0 by omega);have h6:=Fc3 (t:Int) (show 0<g.W by omega);have h7:0<=(t:Int)/g.W:=Fcg θ θ;have h8:(t:Int)/g.W<g.H:=Fdw θ δ;omega
theorem Kh(hw:1<=w):(t:Int).tdiv w=(t:Int)/w:=Fa1 θ
theorem Kg(hw:1<=w):(t:Int).tmod w=(t:Int)%w:=Fbz θ
theorem L5(hg:zt g){t:Nat}(ht:(t:Int)<g.W*g.H):(0<=tx g t/\tx g t<=8323072)/\(0<=ty g t/\ty g t<=8323072):=by have:=Gc hg ht;obtain⟨⟨h1,h2⟩,⟨h3,h4⟩,_⟩:=hg;unfold tx ty;omega
def G5(x lo:Int):Int:=min2 (max2 x lo) (lo+65536)
theorem min2_eq(a b:Int):min2 a b=min a b:=by grind[min2]
theorem max2_eq(a b:Int):max2 a b=max a b:=by grind[max2]
theorem zfl(x lo:Int):G5 x lo=min (max x lo) (lo+65536):=by unfold G5;rw[min2_eq,max2_eq]
theorem zfk(x lo:Int):(x-G5 x lo)*(x-G5 x lo)=off x lo*off x lo:=by rw[zfl];unfold off;grind
theorem bo(h:0<=lo/\lo<=8323072):0<=G5 x lo/\G5 x lo<=8388608:=by rw[zfl];omega
theorem zbo(h:0<=lo/\lo<=8323072)(hx:-1099511627776<=x/\x<=1099511627776):0<=off x lo/\off x lo<=1099519950848:=by grind[off]
theorem yiw(hg:zt g){t:Nat}(ht:(t:Int)<g.W*g.H){p:Vc}(hp:qt p.1 p.2)(hr:0<r):
  near p (G5 p.1 (tx g t),G5 p.2 (ty g t)) r=decide (jz g t p r):=by
 have hb:=L5 hg ht;have h1:=bo (x:=p.1) hb.1;have h2:=bo (x:=p.2) hb.2;obtain⟨h3,h4⟩:=hp;rw[ic θ θ θ θ hr];dsimp only;rw[zfk,zfk];rfl
theorem Ok(ha:0<=a)(hr:0<r)(h:a*a<r*r):a<r:=by apply Decidable.byContradiction;intro hn;have:r*r<=a*a:=Fbc θ θ θ ha;omega
theorem yje{dx dy:Int}(h1:0<=dx)(h2:0<=dy)(hr:0<r):(dx<r/\dy<r/\dx*dx+dy*dy<r*r)↔dx*dx+dy*dy<r*r:=by grind[Ok,Int.mul_nonneg]
theorem et(h:0<=a/\a<=262144):0<=a*a/\a*a<=68719476736:=
 ⟨Faw h.1 h.1,by have:a*a<=262144*262144:=Fbc h.2 h.2 h.1 ψ;omega⟩
end
section
variable {b:Nat} {P:Program} {c:Cfg} {A:Fr}
def Store.dO(st:Store)(b:Nat):Store:={st with obj:=λi=>bif Nat.beq i b then none else st.obj i}
theorem Nk{st:Store}{b':Nat}{x:AObj}(h:(st.dO b).obj b'=some x):b'≠b/\st.obj b'=some x:=by have h:(bif Nat.beq b' b then none else st.obj b')=some x:=h;grind[Nat.beq_refl]
theorem AWp.freeze{code:Code}{Q:Exit->Fr->Store->Prop}{st:Store}{d n cap k:Nat}{rows:List (List AV)}{pad:List AV}
    (hA:A.t d=.av (.s (.slice (some ⟨b,0,none⟩) n cap))) (ho:st.obj b=some (.cells (rows.flatten++pad))) (ht:st.tok b=none) (hn:rows.length=n) (hcap:n<=cap)
    (hk:∀row∈rows,row.length=k) (hall:∀row∈rows,∀x∈row,∃v,x=AV.s v/\qw v=true)
    (h:AWp P c code Q (A.put d (.av (.lst k rows none))) (st.dO b)):AWp P c code Q A st:=by
  refine⟨λOth M a w ⟨β,sim⟩=>?_⟩;have hs:∀b' o,((M b' o/\b'≠b)\/Oth b' o)->(M b' o\/Oth b' o):=λ_ _ h=>h.imp (·.1) id;have sim':SimB c.N Oth β (A.put d (.av (.lst k rows none))) (st.dO b) (λb' o=>M b' o/\b'≠b) a w:=by
    refine{tsz:=sim.tsz,dfr:=sim.dfr.sub λ_ _ h=>h.1,tm:=λi=>?_,bx:=λj l hj=>⟨(sim.bx j l hj).1.mono hs,λo=>⟨(sim.bx j l hj).2 o,?_⟩⟩,inj:=sim.inj,sep:=λj b' hj hb'=>?_,sto:=?_}
    · by_cases hi:i=d
      · subst hi
        have e:(A.put i (.av (.lst k rows none))).t i=.av (.lst k rows none):=by show(bif Nat.beq i i then _ else A.t i)=_;simp
        rw[e];have h1:=sim.tm i;rw[hA]at h1;generalize a.tmps.getD i undef=v at h1;cases h1;obtain⟨⟨cs,e0,fr,hb0,huf,hlen,hrel⟩,hM⟩:=sim.sto.obj b _ ho;subst hn;have at1:∀(i:Nat) (row:List AV) (j:Nat) (x:AV),rows[i]?=some row->row[j]?=some x->∃v,x=.s v/\qw v=true/\cs[i*k+j]?=some v:=by
          intro i row j x hi hj;obtain⟨v,rfl,hv⟩:=hall row (Fba hi) x (Fba hj);have h5:=Lh hk hi hj;have h6:(rows.flatten++pad)[i*k+j]?=some (.s v):=δ;have hlt2:i*k+j<cs.size:=δ;have h7:=hrel _ _ cs[i*k+j] h6 (by simp[hlt2]);have:cs[i*k+j]=v:=by cases h7;rfl
          grind
        refine VRel.lst rows none b 0 cap k (λp=>cs.getD p undef) hcap (λi row hi=>hk row (Fba hi)) (λ_ h=>ω) (λi row j x hi hj=>?_) (λi row j x hi hj=>?_) (λi row j x hi hj=>?_)
        · obtain⟨v,rfl,hv,h5⟩:=at1 i row j x hi hj
          refine⟨?_,?_⟩
          · simp_all[World.cell?]
          · rintro(⟨_,h⟩|h)
            · omega
            · exact sim.sto.dis _ _ h (hM _)
        · obtain⟨v,rfl,hv,h5⟩:=at1 i row j x hi hj
          simp_all
        · obtain⟨v,rfl,hv,h5⟩:=at1 i row j x hi hj
          rw[Fbg,h5];exact .s _
      · have e:(A.put d (.av (.lst k rows none))).t i=A.t i:=by
          show(bif Nat.beq i d then _ else A.t i)=_;grind[ve]
        rw[e];have h1:=sim.tm i;generalize A.t i=x at h1;cases x with
        |any=>trivial
        |und=>exact h1
        |av x=>exact VRel.mono hs h1
        |bx k off=>exact h1
    · exact sim.sep j b (λe=>by rw[show A.bx j=some l from hj]at e;cases e) (.inl δ)
    · refine sim.sep j b' hj ?_
      rcases hb' with hb'|hb'
      · cases hx:(st.dO b).obj b' with
        |none=>grind
        |some y=>grind[Nk]
      · exact .inr hb'
    · exact { obj:=λb' y hy=>⟨(sim.sto.obj b' y (Nk hy).2).1.mono hs,λo=>⟨(sim.sto.obj b' y (Nk hy).2).2 o,(Nk hy).1⟩⟩
              tok:=λb' top htk=>by obtain⟨c,e,fr,h1,h2,h3,h4⟩:=sim.sto.tok b' top htk;exact⟨c,e,fr,h1,h2,h3,λo ho=>⟨h4 o ho,λe=>by subst e;rw[show st.tok b'=some top from htk]at ht;cases ht⟩⟩
              mlt:=λb' o hm=>sim.sto.mlt b' o hm.1,olt:=sim.sto.olt,dis:=λb' o ho hm=>sim.sto.dis b' o ho hm.1}
  refine Code.wpF_mono ?_ (h.out Oth _ a w ⟨β,sim'⟩);rintro e a' w' ⟨A',st',M',h1,h2,h3⟩;exact⟨A',st',M',h1,h2,{size:=h3.size,keep:=λb' o hb hm=>h3.keep b' o hb λh=>hm h.1,blk:=λb' hb hm=>h3.blk b' hb λo h=>hm o h.1,shp:=h3.shp,sub:=λb' o hm hb=>(h3.sub b' o hm hb).1,tape:=h3.tape,os:=h3.os,output:=h3.output}⟩
theorem AWp.loopA{σ:Type}(H:LoopHead σ){b:Code}{Q:Exit->Fr->Store->Prop}{st:Store}(h0:H.at A st λ_=>True)
    (round:∀s st,H.inv s st->AWp P c b (zab H s Q) (Hi (H.t s) (H.bx s)) st):AWp P c (.loop b) Q A st:=by
  obtain⟨s0,_,hi0,ht0,hb0⟩:=h0;refine⟨λOth M a w sim=>?_⟩
  refine wpIn_loop_ghost (λn a' w'=>∃s st' M',H.μ s=n/\H.inv s st'/\Sim c.N Oth (Hi (H.t s) (H.bx s)) st' M' a' w'/\Chg M w M' w') (H.μ s0)
    ⟨s0,st,M,rfl,hi0,sim.fits ht0 hb0 (Store.Has.refl st),Chg.refl M w⟩ ?_
  rintro n a' w' ⟨s,st',M',rfl,hi,hsim,hchg⟩;refine Code.wpF_mono ?_ ((round s st' hi).out Oth M' a' w' hsim);rintro e a'' w'' ⟨A'',st'',M'',h1,h2,h3⟩;cases e with
  | normal=>
    obtain⟨s',hlt,hi',ht',hb'⟩:=h1;exact⟨H.μ s',hlt,s',st'',M'',rfl,hi',h2.fits ht' hb' (Store.Has.refl st''),hchg.trans h3⟩
  |_=>exact⟨A'',st'',M'',h1,h2,hchg.trans h3⟩
end
section
variable {g:Gnd} {n t i:Nat}
theorem bc{st:Store}{b:Nat}{x:AObj}(h:st.obj b=none):(st.sO b x).dO b=st:=by
 unfold Store.sO Store.dO
 congr 1
 funext i
 by_cases hi:i=b
 ·subst hi;simp[h]
 ·simp[qe hi]
def Cr(W:Int)(b:Bld)(y k:Nat):List Int:=(List.range k).map λ(x:Nat)=>b.x+(x:Int)+W*(b.y+(y:Int))
def Da(W:Int)(b:Bld)(k:Nat):List Int:=(List.range k).flatMap λy=>Cr W b y b.w.toNat
def Am(W:Int)(b:Bld):List Int:=Da W b b.h.toNat
theorem zjx(W:Int)(b:Bld)(y k:Nat):Cr W b y (k+1)=Cr W b y k++[b.x+(k:Int)+W*(b.y+(y:Int))]:=by unfold Cr;rw[List.range_succ];simp
theorem dv(W:Int)(b:Bld)(k:Nat):Da W b (k+1)=Da W b k++Cr W b k b.w.toNat:=by unfold Da;rw[List.range_succ];simp
theorem se(W:Int)(b:Bld)(y k:Nat):(Cr W b y k).length=k:=by unfold Cr;simp
theorem dw(W:Int)(b:Bld)(k:Nat):(Da W b k).length=k*b.w.toNat:=by
 induction k with
 |zero=>simp[Da]
 |succ k ih=>rw[dv,Fad,ih,se,Fdu]
theorem dz(W:Int){b:Bld}(hb:yk b):(Am W b).length<=16:=by unfold Am;rw[dw];unfold yk at hb;have:b.h.toNat*b.w.toNat<=4*4:=Fdr θ θ;omega
theorem Kj(hg:zt g){x y:Int}(hx:0<=x/\x<g.W)(hy:0<=y/\y<g.H):
  0<=x+g.W*y/\x+g.W*y<g.W*g.H/\(x+g.W*y)%g.W=x/\(x+g.W*y)/g.W=y:=by
 obtain⟨⟨h1,h2⟩,⟨h3,h4⟩,_⟩:=hg;have a1:0<=g.W*y:=Faw θ hy.1;have a2:g.W*y<=g.W*(g.H-1):=Fc0 θ θ;have a3:g.W*(g.H-1)=g.W*g.H-g.W:=by rw[Int.mul_sub,Int.mul_one]
 refine⟨θ,θ,?_,?_⟩
 ·rw[Int.add_mul_emod_self_left];exact Feb hx.1 hx.2
 ·rw[Int.add_mul_ediv_left _ _ θ,Fdm hx.1 hx.2];omega
theorem Hj(hg:zt g){b:Bld}(hb:yk b)(ho:onP g b)(t:Int):t∈Am g.W b↔∃n:Nat,t=(n:Int)/\(n:Int)<g.W*g.H/\wu g b n:=by
 have hb':=hb;have ho':=ho;unfold yk at hb';unfold onP at ho';unfold Am Da Cr;rw[List.mem_flatMap];constructor
 ·rintro⟨y,hy,hx⟩;obtain⟨x,hx2,rfl⟩:=Fai.1 hx;have hy:=Fbe.1 hy;have hx:=Fbe.1 hx2;obtain⟨q1,q2,q3,q4⟩:=Kj hg (x:=b.x+x) (y:=b.y+y) θ θ;refine⟨(b.x+(x:Int)+g.W*(b.y+(y:Int))).toNat,θ,θ,?_⟩;unfold wu;rw[show(((b.x+(x:Int)+g.W*(b.y+(y:Int))).toNat:Nat):Int)=b.x+(x:Int)+g.W*(b.y+(y:Int)) by omega,q3,q4];omega
 ·rintro⟨n,rfl,hn,hh⟩;unfold wu at hh;refine⟨((n:Int)/g.W-b.y).toNat,Fbe.2 θ,Fai.2 ⟨((n:Int)%g.W-b.x).toNat,Fbe.2 θ,?_⟩⟩;have:=Fc6 (n:Int) g.W;rw[show(((n:Int)%g.W-b.x).toNat:Int)=(n:Int)%g.W-b.x by omega,show(((n:Int)/g.W-b.y).toNat:Int)=(n:Int)/g.W-b.y by omega];rw[show b.x+((n:Int)%g.W-b.x)=(n:Int)%g.W by omega,show b.y+((n:Int)/g.W-b.y)=(n:Int)/g.W by omega];exact this
def bl(n:Nat)(f:Nat->Bool):List AV:=(List.range n).map λt=>bool (f t)
theorem Cd(n:Nat)(f:Nat->Bool):(bl n f).length=n:=by simp[bl]
theorem Hu{f:Nat->Bool}(h:t<n):(bl n f)[t]?=some (bool (f t)):=by simp[bl,h]
theorem Rk(n:Nat):List.replicate n (AV.s (.bool false))=bl n λ_=>false:=by unfold bl;rw[List.map_const',Fdo];rfl
theorem Ht{f:Nat->Bool}(h:t<n)(g:Nat->Bool)(hg:∀s,s≠t->g s=f s):zp (bl n f) t [bool (g t)]=bl n g:=by
 unfold zp;apply Fb8;intro s;by_cases h1:s<t
 ·rw[Fao,Fau (by rw[Fam,Cd];omega),Fb5 h1,Hu θ,Hu θ,hg s θ]
 ·by_cases h2:s=t
  ·subst h2;rw[Fao,Fa0 (by rw[Fam,Cd];omega),Fam,Cd,show s-min s n=0 by omega,Hu h];rfl
  ·rw[Fa0 (by rw[Fad,Fam,Cd];simp;omega),Fad,Fam,Cd,Fcu];by_cases h3:s<n
   ·have e:t+[bool (g t)].length+(s-(min t n+[bool (g t)].length))=s:=χ;rw[e,Hu h3,Hu h3,hg s h2]
   ·rw[Fby (by rw[Cd];simp;omega),Fby θd]
def vw(g:Gnd)(l:List Bld)(i:Nat)(ts:List Int)(k:Nat)(t:Nat):Bool:=qx g (l.take i) t||(ts.take k).contains (t:Int)
theorem ze5(g:Gnd)(l:List Bld)(i:Nat)(ts:List Int)(t:Nat):vw g l i ts 0 t=qx g (l.take i) t:=by simp[vw]
theorem ze6{l:List Bld}{ts:List Int}{k n:Nat}(hk:k<ts.length)(hn:ts[k]=(n:Int)):
  vw g l i ts (k+1) n=true/\∀s,s≠n->vw g l i ts (k+1) s=vw g l i ts k s:=by
 unfold vw;rw[Fab hk,hn];refine⟨φ,λs hs=>?_⟩;rw[List.contains_append];have:[((n:Nat):Int)].contains (s:Int)=false:=χ;rw[this,Bool.or_false]
theorem ze7(hg:zt g){l:List Bld}(hi:i<l.length)(hb:yk l[i]/\onP g l[i])(ht:t<g.T.length):
  vw g l i (Am g.W l[i]) (Am g.W l[i]).length t=qx g (l.take (i+1)) t:=by
 have ha:=qm hg;unfold vw qx;rw[Fal,Fab hi,List.any_append]
 congr 1
 rw[Fbu,List.contains_iff_mem,Hj hg hb.1 hb.2];simp only[List.any_cons,List.any_nil,Bool.or_false,decide_eq_true_eq];constructor
 ·rintro⟨n,h1,_,h2⟩;have:n=t:=θ;subst this;exact h2
 ·intro h;exact⟨t,rfl,θ,h⟩
def qv(b:Bool):List AV:=[bool b]
def blL(n:Nat)(f:Nat->Bool):List Bool:=(List.range n).map f
theorem C8(n:Nat)(f:Nat->Bool):(blL n f).length=n:=by simp[blL]
theorem I4{f:Nat->Bool}(h:t<n):(blL n f)[t]'(by rw[C8];exact h)=f t:=by simp[blL]
theorem yr0(n:Nat)(f:Nat->Bool):(rws qv (blL n f)).flatten=bl n f:=by
 unfold rws blL bl qv;induction List.range n with
 |nil=>rfl
 |cons a l ih=>simp at ih⊢;exact ih
theorem zgb{f:Nat->Bool}(h:t<n):(rws qv (blL n f))[t]?=some (qv (f t)):=by unfold rws blL;simp[h]
end
section
variable {g:Gnd}
theorem zjw(W:Int)(b:Bld)(y k:Nat):(Cr W b y k).Pairwise (·<·):=by grind[Cr,List.pairwise_lt_range]
theorem zjr{W:Int}{b:Bld}(hW:1<=W)(hx:0<=b.x/\b.x+b.w<=W)(hw:1<=b.w)(k:Nat):(Da W b k).Pairwise (·<·)/\∀t∈Da W b k,t<W*(b.y+(k:Int)):=by
 induction k with
 |zero=>simp_all[Da]
 |succ k ih=>
  rw[dv];have hrow:∀t∈Cr W b k b.w.toNat,W*(b.y+(k:Int))<=t/\t<W*(b.y+(k:Int))+W:=by intro t ht;obtain⟨x,hx2,rfl⟩:=Fai.1 ht;grind
  have e:W*(b.y+((k+1:Nat):Int))=W*(b.y+(k:Int))+W:=δ;grind[zjw]
theorem zjs(hg:zt g){b:Bld}(hb:yk b/\onP g b):(Am g.W b).Pairwise (·<·):=by unfold yk onP at hb;exact(zjr hg.1.1 hb.2.1 θ _).1
theorem yik{l:List Int}(h:l.Pairwise (·<·)){k:Nat}(hk:k<l.length):l[k]∉l.take k:=by grind[List.getElem_of_mem,List.pairwise_iff_getElem]
theorem zcc(hg:zt g){a b:Bld}(ha:yk a/\onP g a)(hb:yk b/\onP g b):vo a b↔∃t:Nat,(t:Int)<g.W*g.H/\wu g a t/\wu g b t:=by
 unfold yk onP at ha hb;unfold vo;constructor
 ·intro h;obtain⟨q1,q2,q3,q4⟩:=Kj hg (x:=max a.x b.x) (y:=max a.y b.y) θ θ;refine⟨(max a.x b.x+g.W*max a.y b.y).toNat,θ,?_⟩;grind[wu]
 grind[wu]
theorem covB_iff{l:List Bld}{t:Nat}:qx g l t=true↔∃b∈l,wu g b t:=by grind[qx]
def bp(g:Gnd)(l:List Bld)(i:Nat):Prop:=∀j,(h:j<l.length)->j<i->(yk l[j]/\onP g l[j]/\Fa g l[j])/\∀k,(hk:k<j)->¬vo l[j] (l[k]'θ)
theorem zf0{l:List Bld}(h:bp g l l.length):(∀b∈l,yk b/\onP g b/\Fa g b)/\cf l:=by refine⟨λb hb=>?_,λj hj k hk=>(h j hj hj).2 k hk⟩;obtain⟨j,hj,rfl⟩:=Faj hb;exact(h j hj hj).1
theorem yqa(hg:zt g){l:List Bld}{i:Nat}(hi:i<l.length)(hb:yk l[i]/\onP g l[i])(hup:bp g l i):
  (∃t∈Am g.W l[i],qx g (l.take i) t.toNat=true)↔∃k,∃hk:k<i,vo l[i] (l[k]'θ):=by
 constructor
 ·rintro⟨t,ht,hc⟩;obtain⟨n,rfl,hn,hh⟩:=(Hj hg hb.1 hb.2 t).1 ht;rw[Fa8]at hc;obtain⟨b,hb2,hh2⟩:=covB_iff.1 hc;obtain⟨k,hk,rfl⟩:=Faj hb2;rw[Fam]at hk;rw[Fdp]at hh2;have:=(hup k θ θ).1;grind[zcc]
 ·rintro⟨k,hk,hm⟩;have:=(hup k θ θ).1;obtain⟨n,hn,h1,h2⟩:=(zcc hg hb ⟨this.1,this.2.1⟩).1 hm;refine⟨(n:Int),(Hj hg hb.1 hb.2 _).2 ⟨n,rfl,hn,h1⟩,?_⟩;rw[Fa8];refine covB_iff.2 ⟨l[k],?_,h2⟩;have:(l.take i)[k]'δ=l[k]:=Fdp;grind
end
def Pi(g:Gnd)(b:Bld)(k t:Nat):Prop:=(b.x<=(t:Int)%g.W/\(t:Int)%g.W<b.x+b.w)/\(b.y<=(t:Int)/g.W/\(t:Int)/g.W<b.y+(k:Int))
def Ir(g:Gnd)(b:Bld)(k m t:Nat):Prop:=(t:Int)/g.W=b.y+(k:Int)/\(b.x<=(t:Int)%g.W/\(t:Int)%g.W<b.x+(m:Int))
instance(g:Gnd)(b:Bld)(k t:Nat):Decidable (Pi g b k t):=inferInstanceAs (Decidable (_/\_))
instance(g:Gnd)(b:Bld)(k m t:Nat):Decidable (Ir g b k m t):=inferInstanceAs (Decidable (_/\_))
def Cn(g:Gnd)(l:List Bld)(i:Nat)(b:Bld)(k m t:Nat):Bool:=qx g (l.take i) t||decide (Pi g b k t\/Ir g b k m t)
theorem yqb(g:Gnd)(l:List Bld)(i:Nat)(b:Bld):Cn g l i b 0 0=qx g (l.take i):=by
 funext t
 simp_all[Cn,decide_eq_false,Pi,Ir]
theorem yqd(g:Gnd)(l:List Bld)(i:Nat)(b:Bld)(k:Nat)(hw:0<=b.w):Cn g l i b k b.w.toNat=Cn g l i b (k+1) 0:=by grind[Cn,Pi,Ir]
theorem yqe{g:Gnd}{l:List Bld}{i:Nat}(hi:i<l.length)(hh:0<=l[i].h):Cn g l i l[i] l[i].h.toNat 0=qx g (l.take (i+1)):=by
 funext t
 unfold Cn qx;rw[Fab hi,List.any_append]
 congr 1
 simp only[List.any_cons,List.any_nil,Bool.or_false];grind[Pi,Ir,wu]
theorem yqc{g:Gnd}(hg:zt g){l:List Bld}{i:Nat}{b:Bld}(hb:yk b/\onP g b){k m:Nat}(hk:(k:Int)<b.h)(hm:(m:Int)<b.w){n:Nat}(hn:(n:Int)=b.x+(m:Int)+g.W*(b.y+(k:Int))):
  Cn g l i b k (m+1) n=true/\∀s,s≠n->Cn g l i b k (m+1) s=Cn g l i b k m s:=by
 unfold yk onP at hb;obtain⟨q1,q2,q3,q4⟩:=Kj hg (x:=b.x+m) (y:=b.y+k) θ θ;unfold Cn;refine⟨?_,λs hs=>?_⟩
 ·have:Ir g b k (m+1) n:=by grind[Ir]
  grind
 ·have e:=Fc6 (s:Int) g.W;grind[Ir]
theorem Wo{g:Gnd}{t:Nat}{p:Vc}{r:Int}(hr:0<r)(h:jz g t p r):
  (tx g t<p.1+r/\p.1-r<tx g t+65536)/\(ty g t<p.2+r/\p.2-r<ty g t+65536):=by
 unfold jz at h;have n:∀x lo:Int,0<=off x lo:=λx lo=>by grind[off]
 have a:=Ok (n p.1 (tx g t)) hr (by have:=Faw (n p.2 (ty g t)) (n p.2 (ty g t));omega);have b:=Ok (n p.2 (ty g t)) hr (by have:=Faw (n p.1 (tx g t)) (n p.1 (tx g t));omega);grind[off]
section
variable {P:Program} {c:Cfg}
theorem xp{ops:Array Oper}{o:Oper}{A:Fr}{go skip:Fr->Prop}(hg:o.guard=none)(h:go A):Iz ops o A go skip:=by unfold Iz;grind
theorem xl{o:Oper}{t:TypeId}{a x:Operand}{K:Fr->Store->Prop}{A:Fr}{st:Store}{i:TI}{v:AV}(ho:o.op=.store t a x)(hd:o.dst=none)(hi:c.I t=some i)(hx:A.ev x=.av v)(h:Db i A st (A.ev a) v K):Dr P c o K A st:=by unfold Dr;rw[ho];show Ga P c o K A st;simp_all[Ga,za]
end
theorem zb7{A:Int}{m:Nat}(h:(m:Int)<A):A.toNat-(m+1)<A.toNat-m:=θ
theorem og(a:Int)(m:Nat):a+((m+1:Nat):Int)=a+(m:Int)+1:=θ
theorem Wf{A x:Int}{m:Nat}(h:x+(m:Int)<A):((m+1:Nat):Int)<=A-x:=θ
def Nn(g:Gnd)(l:List Bld)(c:Int)(p:Vc)(r y:Int):Prop:=∀t,t<g.T.length->(t:Int)/g.W<y->yq g l c t=false->¬jz g t p r
def Re(g:Gnd)(l:List Bld)(c:Int)(p:Vc)(r y x:Int):Prop:=∀t,t<g.T.length->(t:Int)/g.W=y->(t:Int)%g.W<x->yq g l c t=false->¬jz g t p r
theorem yqw{g:Gnd}{l:List Bld}{c:Int}{p:Vc}{r:Int}(hr:0<r)(hp:0<=p.2-r):Nn g l c p r ((p.2-r)/65536):=by intro t _ hy _ hh;have:=(Wo hr hh).2;grind[ty]
theorem yqz{g:Gnd}{l:List Bld}{c:Int}{p:Vc}{r y:Int}(hr:0<r)(hp:0<=p.1-r):Re g l c p r y ((p.1-r)/65536):=by intro t _ _ hx _ hh;have:=(Wo hr hh).1;grind[tx]
theorem yq0{g:Gnd}(hg:zt g){l:List Bld}{c:Int}{p:Vc}{r y x:Int}(hr:0<r)(hp:0<=p.1+r)(hx:¬(x<=(p.1+r)/65536)\/¬(x<g.W))(hu:Nn g l c p r y)(h:Re g l c p r y x):Nn g l c p r (y+1):=by
 intro t ht hy ho hh;by_cases e:(t:Int)/g.W=y
 ·by_cases e2:(t:Int)%g.W<x
  ·exact h t ht e e2 ho hh
  ·have h1:=(Wo hr hh).1;have h2:=(Gc hg (t:=t) (by have:=(qm hg).2.2;omega)).1;grind[tx]
 ·exact hu t ht θ ho hh
theorem yqx{g:Gnd}(hg:zt g){l:List Bld}{c:Int}{p:Vc}{r y:Int}(hr:0<r)(hp:0<=p.2+r)(hy:¬(y<=(p.2+r)/65536)\/¬(y<g.H))(hu:Nn g l c p r y):∀t,t<g.T.length->yq g l c t=false->¬jz g t p r:=by
 intro t ht ho hh;by_cases e:(t:Int)/g.W<y
 ·exact hu t ht e ho hh
 ·have h1:=(Wo hr hh).2;have h2:=(Gc hg (t:=t) (by have:=(qm hg).2.2;omega)).2;grind[ty]
theorem yqy{g:Gnd}(hg:zt g){l:List Bld}{c:Int}{p:Vc}{r y x:Int}(hx:0<=x/\x<g.W)(hy:0<=y/\y<g.H)(h:Re g l c p r y x)(hn:yq g l c (x+g.W*y).toNat=false->¬jz g (x+g.W*y).toNat p r):Re g l c p r y (x+1):=by
 intro t ht e1 e2 ho;by_cases e:(t:Int)%g.W<x
 ·exact h t ht e1 e ho
 ·have e3:(t:Int)%g.W=x:=θ;have q:=Fc6 (t:Int) g.W;grind
section
variable {g:Gnd} {x y:Int} {s:Nat}
def onG(g:Gnd)(x y:Int):Prop:=(0<=x/\x<g.W)/\(0<=y/\y<g.H)
instance(g:Gnd)(x y:Int):Decidable (onG g x y):=inferInstanceAs (Decidable (_/\_))
def tl(g:Gnd)(x y:Int):Nat:=(x+g.W*y).toNat
theorem Dv(hg:zt g)(h:onG g x y):((tl g x y:Nat):Int)=x+g.W*y/\tl g x y<g.T.length/\(tl g x y:Int)%g.W=x/\(tl g x y:Int)/g.W=y:=by
 obtain⟨h1,h2,h3⟩:=qm hg;obtain⟨⟨hx,hx2⟩,hy,hy2⟩:=h;have hW:1<=g.W:=hg.1.1;have e0:0<=g.W*y:=Faw θ hy;have e:((tl g x y:Nat):Int)=x+g.W*y:=by unfold tl;omega
 have e1:g.W*y<=g.W*(g.H-1):=Fbc (Fcj _) θ hy θ;rw[Int.mul_sub,Int.mul_one]at e1;refine⟨e,θ,?_,?_⟩
 ·simp_all[Feb]
 ·rw[e,Int.add_mul_ediv_left _ _ θ,Fdm hx hx2,Int.zero_add]
theorem Vv(hg:zt g){t:Nat}(ht:t<g.T.length):onG g ((t:Int)%g.W) ((t:Int)/g.W)/\tl g ((t:Int)%g.W) ((t:Int)/g.W)=t:=by obtain⟨h1,h2,h3⟩:=qm hg;have hW:1<=g.W:=hg.1.1;have a:=Fcn (t:Int) (show g.W≠0 by omega);have b:=Fc3 (t:Int) (show 0<g.W by omega);have c:=Fcg (show 0<=(t:Int) by omega) (show 0<=g.W by omega);have d:(t:Int)/g.W<g.H:=Fdw θ (by rw[Fdf];omega);refine⟨⟨⟨a,b⟩,c,d⟩,?_⟩;unfold tl;rw[Fc6];omega
def sqP(g:Gnd)(f:Nat->Bool)(s:Nat)(x y:Int):Prop:=∀a b:Int,-(s:Int)<=a->a<=s->-(s:Int)<=b->b<=s->onG g (x+a) (y+b)/\f (tl g (x+a) (y+b))=true
theorem sq_zero{f:Nat->Bool}:sqP g f 0 x y↔onG g x y/\f (tl g x y)=true:=by
 constructor
 ·intro h;have:=h 0 0 ψ ψ ψ ψ;simpa using this
 ·intro h a b h1 h2 h3 h4;grind
theorem sq_succ{f:Nat->Bool}:sqP g f (s+1) x y↔∀a b:Int,-1<=a->a<=1->-1<=b->b<=1->onG g (x+a) (y+b)/\sqP g f s (x+a) (y+b):=by
 constructor
 ·intro h a b h1 h2 h3 h4;refine⟨(h a b θ θ θ θ).1,λa' b' k1 k2 k3 k4=>?_⟩;have:=h (a+a') (b+b') θ θ θ θ;grind
 ·intro h a b h1 h2 h3 h4;obtain⟨a1,ha1,ha2,ha3,ha4⟩:∃a1:Int,-1<=a1/\a1<=1/\-(s:Int)<=a-a1/\a-a1<=s:=by
   by_cases c1:a>s
   ·exact⟨1,θ,θ,θ,θ⟩
   ·by_cases c2:a< -s
    ·exact⟨-1,θ,θ,θ,θ⟩
    ·exact⟨0,θ,θ,θ,θ⟩
  obtain⟨b1,hb1,hb2,hb3,hb4⟩:∃b1:Int,-1<=b1/\b1<=1/\-(s:Int)<=b-b1/\b-b1<=s:=by
   by_cases c1:b>s
   ·exact⟨1,θ,θ,θ,θ⟩
   ·by_cases c2:b< -s
    ·exact⟨-1,θ,θ,θ,θ⟩
    ·exact⟨0,θ,θ,θ,θ⟩
  have:=(h a1 b1 ha1 ha2 hb1 hb2).2 (a-a1) (b-b1) ha3 ha4 hb3 hb4;grind
theorem tf{f:Nat->Bool}{s':Nat}(hs:s'<=s)(h:sqP g f s x y):sqP g f s' x y:=λa b h1 h2 h3 h4=>h a b θ θ θ θ
def m5(a b c d e:Int):Int:=min (min (min (min a (b+1)) (c+1)) (d+1)) (e+1)
theorem yq4{f:Nat->Bool}{A B:Int->Int->Int}(oA:∀x y,¬onG g x y->A x y=0)(oB:∀x y,¬onG g x y->B x y=0)
  (hA:∀x y,onG g x y->A x y=m5 (if f (tl g x y)then 128 else 0) (A (x-1) y) (A (x-1) (y-1)) (A x (y-1)) (A (x+1) (y-1)))
  (hB:∀x y,onG g x y->B x y=m5 (A x y) (B (x+1) y) (B (x+1) (y+1)) (B x (y+1)) (B (x-1) (y+1))) (hxy:onG g x y) (s:Nat) (hs:s<=127):(s:Int)<B x y↔sqP g f s x y:=by
 -- not below 0
 have nA:∀n:Nat,∀x y,onG g x y->y*200+x<n->0<=A x y:=by
  intro n;induction n with
  |zero=>intro x y h hn;obtain⟨⟨h1,h2⟩,h3,h4⟩:=h;omega
  |succ n ih=>
   intro x y h hn;have any:∀x' y',y'*200+x'<y*200+x->0<=A x' y':=λx' y' hl=>by
    by_cases ho:onG g x' y'
    ·exact ih x' y' ho θ
    ·rw[oA x' y' ho];decide
   rw[hA x y h];have a1:=any (x-1) y θ;have a2:=any (x-1) (y-1) θ;have a3:=any x (y-1) θ;have a4:=any (x+1) (y-1) θ;have a5:(0:Int)<=(if f (tl g x y)then 128 else 0):=by split<;>decide
   unfold m5;omega
 have pA:∀x y,0<=A x y:=λx y=>by
  by_cases ho:onG g x y
  ·exact nA (y*200+x+1).toNat x y ho (by obtain⟨⟨h1,h2⟩,h3,h4⟩:=ho;omega)
  ·rw[oA x y ho];decide
 have nB:∀n:Nat,∀x y,onG g x y->(g.H-y)*200+(g.W-x)<n->0<=B x y:=by
  intro n;induction n with
  |zero=>intro x y h hn;obtain⟨⟨h1,h2⟩,h3,h4⟩:=h;omega
  |succ n ih=>
   intro x y h hn;have any:∀x' y',(g.H-y')*200+(g.W-x')<(g.H-y)*200+(g.W-x)->0<=B x' y':=λx' y' hl=>by
    by_cases ho:onG g x' y'
    ·exact ih x' y' ho θ
    ·rw[oB x' y' ho];decide
   rw[hB x y h];have a1:=any (x+1) y θ;have a2:=any (x+1) (y+1) θ;have a3:=any x (y+1) θ;have a4:=any (x-1) (y+1) θ;have a5:=pA x y;unfold m5;omega
 have pB:∀x y,0<=B x y:=λx y=>by
  by_cases ho:onG g x y
  ·exact nB ((g.H-y)*200+(g.W-x)+1).toNat x y ho (by obtain⟨⟨h1,h2⟩,h3,h4⟩:=ho;omega)
  ·rw[oB x y ho];decide
 constructor
 ·-- what is bad is not farther than its steps
  have up1:∀d:Nat,∀x y a b,onG g x y->-(d:Int)<=a->a<=d->-(d:Int)<=b->b<=0->a<=-b->¬(onG g (x+a) (y+b)/\f (tl g (x+a) (y+b))=true)->A x y<=d:=by
   intro d;induction d with
   |zero=>
    intro x y a b h h1 h2 h3 h4 h5 hbad;have ea:a=0:=θ;have eb:b=0:=θ;subst ea eb;rw[Fca,Fca]at hbad;have hf:¬f (tl g x y)=true:=λhf=>hbad ⟨h,hf⟩;rw[hA x y h,if_neg hf];unfold m5;omega
   |succ d ih=>
    intro x y a b h h1 h2 h3 h4 h5 hbad;have go:∀u v:Int,-(d:Int)<=a-u->a-u<=d->-(d:Int)<=b-v->b-v<=0->a-u<=-(b-v)->A (x+u) (y+v)<=d:=λu v g1 g2 g3 g4 g5=>by
     by_cases ho:onG g (x+u) (y+v)
     ·refine ih (x+u) (y+v) (a-u) (b-v) ho g1 g2 g3 g4 g5 ?_;rw[show x+u+(a-u)=x+a by omega,show y+v+(b-v)=y+b by omega];exact hbad
     ·rw[oA _ _ ho];omega
    have hk:=hA x y h;unfold m5 at hk;by_cases cb:b=0
    ·by_cases ca:a=0
     ·subst ca cb;rw[Fca,Fca]at hbad;have hf:¬f (tl g x y)=true:=λhf=>hbad ⟨h,hf⟩;rw[if_neg hf]at hk;omega
     ·have:=go (-1) 0 θ θ θ θ θ;rw[show x+-1=x-1 by omega,Fca]at this;omega
    ·by_cases ca:a=0
     ·have:=go 0 (-1) θ θ θ θ θ;rw[show y+-1=y-1 by omega,Fca]at this;omega
     ·by_cases ca2:a<0
      ·have:=go (-1) (-1) θ θ θ θ θ;rw[show y+-1=y-1 by omega,show x+-1=x-1 by omega]at this;omega
      ·have:=go 1 (-1) θ θ θ θ θ;rw[show y+-1=y-1 by omega]at this;omega
  have up2:∀d:Nat,∀x y a b,onG g x y->-(d:Int)<=a->a<=d->-(d:Int)<=b->b<=d->¬(onG g (x+a) (y+b)/\f (tl g (x+a) (y+b))=true)->B x y<=d:=by
   intro d;induction d with
   |zero=>
    intro x y a b h h1 h2 h3 h4 hbad;have:=up1 0 x y a b h h1 h2 h3 θ θ hbad;have hk:=hB x y h;unfold m5 at hk;omega
   |succ d ih=>
    intro x y a b h h1 h2 h3 h4 hbad;have hk:=hB x y h;unfold m5 at hk;by_cases cone:b<=0/\a<=-b
    ·have:=up1 (d+1) x y a b h h1 h2 h3 cone.1 cone.2 hbad;omega
    have go:∀u v:Int,-(d:Int)<=a-u->a-u<=d->-(d:Int)<=b-v->b-v<=d->B (x+u) (y+v)<=d:=λu v g1 g2 g3 g4=>by
     by_cases ho:onG g (x+u) (y+v)
     ·refine ih (x+u) (y+v) (a-u) (b-v) ho g1 g2 g3 g4 ?_;rw[show x+u+(a-u)=x+a by omega,show y+v+(b-v)=y+b by omega];exact hbad
     ·rw[oB _ _ ho];omega
    by_cases cb:b<=0
    ·have:=go 1 0 θ θ θ θ;rw[Fca]at this;omega
    ·by_cases ca:a=0
     ·have:=go 0 1 θ θ θ θ;rw[Fca]at this;omega
     ·by_cases ca2:a<0
      ·have:=go (-1) 1 θ θ θ θ;rw[show x+-1=x-1 by omega]at this;omega
      ·have:=go 1 1 θ θ θ θ;omega
  intro hlt a b h1 h2 h3 h4;refine Classical.byContradiction λhbad=>?_;have:=up2 s x y a b hxy h1 h2 h3 h4 hbad;omega
 ·-- what is good all about is far
  have loA:∀s:Nat,s<=127->∀x y,sqP g f s x y->(s:Int)<A x y:=by
   intro s;induction s with
   |zero=>
    intro _ x y h;obtain⟨ho,hf⟩:=sq_zero.1 h;rw[hA x y ho,if_pos hf];have a1:=pA (x-1) y;have a2:=pA (x-1) (y-1);have a3:=pA x (y-1);have a4:=pA (x+1) (y-1);unfold m5;omega
   |succ s ih=>
    intro hs x y h;have h2:=sq_succ.1 h;have nb:=λ(a b:Int) h3 h4 h5 h6=>ih θ _ _ (h2 a b h3 h4 h5 h6).2;obtain⟨ho,hf⟩:=sq_zero.1 (tf (Fae _) h);have a1:=nb (-1) 0 ψ ψ ψ ψ;have a2:=nb (-1) (-1) ψ ψ ψ ψ;have a3:=nb 0 (-1) ψ ψ ψ ψ;have a4:=nb 1 (-1) ψ ψ ψ ψ;rw[show x+-1=x-1 by omega]at a1 a2;rw[show y+-1=y-1 by omega]at a2 a3 a4;rw[Fca]at a1 a3;rw[hA x y ho,if_pos hf];unfold m5;omega
  have loB:∀s:Nat,s<=127->∀x y,sqP g f s x y->(s:Int)<B x y:=by
   intro s;induction s with
   |zero=>
    intro hs x y h;obtain⟨ho,hf⟩:=sq_zero.1 h;rw[hB x y ho];have a1:=pB (x+1) y;have a2:=pB (x+1) (y+1);have a3:=pB x (y+1);have a4:=pB (x-1) (y+1);have a5:=loA 0 hs x y h;unfold m5;omega
   |succ s ih=>
    intro hs x y h;have h2:=sq_succ.1 h;have nb:=λ(a b:Int) h3 h4 h5 h6=>ih θ _ _ (h2 a b h3 h4 h5 h6).2;obtain⟨ho,hf⟩:=sq_zero.1 (tf (Fae _) h);have a1:=nb 1 0 ψ ψ ψ ψ;have a2:=nb 1 1 ψ ψ ψ ψ;have a3:=nb 0 1 ψ ψ ψ ψ;have a4:=nb (-1) 1 ψ ψ ψ ψ;rw[show x+-1=x-1 by omega]at a4;rw[Fca]at a1 a3;have a5:=loA (s+1) hs x y h;rw[hB x y ho];unfold m5;omega
  exact loB s hs x y
end
section
variable {g:Gnd} {x y j i:Int}
theorem zd9{p q:Nat->Bool}{m:Nat}(hp:∀t,p t=true->t<m):∀{N:Nat},m<N->(∀t,t<N->(q t=true↔p t=true\/t=m))->(List.range N).filter q=(List.range N).filter p++[m]
 |0,h,_=>absurd h (Fa3 m)
 |N+1,h,hq=>by
  rw[List.range_succ,Fch,Fch];have hpN:p N=false:=Bool.eq_false_iff.2 λhh=>by have:=hp N hh;omega
  by_cases e:m=N
  ·subst e;have h1:(List.range m).filter q=(List.range m).filter p:=List.filter_congr λt ht=>by
    have ht:=Fbe.1 ht;have:=hq t θ;rw[Fbu,this];exact⟨λh=>h.resolve_right θ,.inl⟩
   have h2:q m=true:=(hq m θ).2 (.inr rfl);rw[h1];simp[hpN,h2]
  ·have h2:q N=false:=Bool.eq_false_iff.2 λhh=>by
    rcases(hq N θ).1 hh with h|h
    ·rw[hpN]at h;cases h
    ·omega
   rw[zd9 hp θ (λt ht=>hq t θ)];simp[hpN,h2]
theorem mv{p q:Nat->Bool}{N:Nat}(h:∀t,t<N->(q t=true↔p t=true)):(List.range N).filter q=(List.range N).filter p:=
 List.filter_congr λt ht=>by rw[Fbu];exact h t (Fbe.1 ht)
theorem zys{α:Type}(L:List α)(a:α)(n:Nat):(L++[a]).take n=if L.length<n then L.take n++[a]else L.take n:=by
 split
 ·rw[Fcd χ,Fcd θ]
 ·rw[Fb2 θ]
theorem si{α:Type}(L:List α)(n:Nat):(L.take n).length<n↔L.length<n:=θs
def qh(l:List Nat):List Int:=l.map λ(t:Nat)=>(t:Int)
theorem zbu(a b:List Nat):qh (a++b)=qh a++qh b:=Fax
def F8(i j:Int):Int:=max (max i (-i)) (max j (-j))
def Ox(g:Gnd)(x y k d:Int)(t:Nat):Bool:=decide (F8 ((t:Int)%g.W-x) ((t:Int)/g.W-y)=d/\((t:Int)%g.W-x).tmod k=0/\((t:Int)/g.W-y).tmod k=0)
def Gh(g:Gnd)(x y k d:Int):List Nat:=(List.range g.T.length).filter (Ox g x y k d)
def zgg(g:Gnd)(x y j i:Int)(t:Nat):Bool:=decide ((t:Int)/g.W<y+j\/((t:Int)/g.W=y+j/\(t:Int)%g.W<x+i))
def Ch(g:Gnd)(x y k d j i:Int):List Nat:=(List.range g.T.length).filter λt=>Ox g x y k d t&&zgg g x y j i t
theorem Va{k d:Int}{t:Nat}(h:Ox g x y k d t=true):(x-d<=(t:Int)%g.W/\(t:Int)%g.W<=x+d)/\(y-d<=(t:Int)/g.W/\(t:Int)/g.W<=y+d):=by have:=(of_decide_eq_true h).1;unfold F8 at this;omega
theorem yfb(g:Gnd)(x y k d:Int):Ch g x y k d (-d) (-d)=[]:=by unfold Ch;rw[List.filter_eq_nil_iff];intro t _ hh;obtain⟨h1,h2⟩:=(Fbj).1 hh;have:=Va h1;have:=of_decide_eq_true h2;omega
theorem yfc(g:Gnd)(x y k d j:Int):Ch g x y k d j (d+1)=Ch g x y k d (j+1) (-d):=mv λt ht=>by
 rw[Fbj,Fbj];refine⟨λ⟨h1,h2⟩=>⟨h1,?_⟩,λ⟨h1,h2⟩=>⟨h1,?_⟩⟩
 ·have:=Va h1;have:=of_decide_eq_true h2;exact decide_eq_true θ
 ·have:=Va h1;have:=of_decide_eq_true h2;exact decide_eq_true θ
theorem yff(g:Gnd)(x y k d:Int):Ch g x y k d (d+1) (-d)=Gh g x y k d:=mv λt ht=>by rw[Fbj];refine⟨λh=>h.1,λh1=>⟨h1,?_⟩⟩;have:=Va h1;exact decide_eq_true θ
theorem yfa(hg:zt g){k d:Int}(ho:onG g (x+i) (y+j))(hd:F8 i j=d)(hi:i.tmod k=0)(hj:j.tmod k=0):Ch g x y k d j (i+1)=Ch g x y k d j i++[tl g (x+i) (y+j)]:=by
 obtain⟨e1,e2,e3,e4⟩:=Dv hg ho;have hW:1<=g.W:=hg.1.1;refine zd9 (m:=tl g (x+i) (y+j)) (λt hh=>?_) e2 (λt ht=>?_)
 ·obtain⟨h1,h2⟩:=(Fbj).1 hh;have h2:=of_decide_eq_true h2;have e5:=Fc6 (t:Int) g.W;rcases h2 with h2|⟨h2,h3⟩
  ·have b1:=Fc3 (t:Int) (show 0<g.W by omega);have:g.W*((t:Int)/g.W+1)<=g.W*(y+j):=Fc0 θ θ;rw[Fd2,Int.mul_one]at this;have:=ho.1.1;omega
  ·rw[h2]at e5;omega
 ·rw[Fbj,Fbj];constructor
  ·rintro⟨h1,h2⟩;have h2:=of_decide_eq_true h2;by_cases h3:(t:Int)/g.W=y+j/\(t:Int)%g.W=x+i
   ·right;have:=(Vv hg ht).2;rw[h3.1,h3.2]at this;exact this.symm
   ·exact .inl ⟨h1,decide_eq_true θ⟩
  ·rintro(⟨h1,h2⟩|rfl)
   ·have h2:=of_decide_eq_true h2;exact⟨h1,decide_eq_true θ⟩
   ·refine⟨decide_eq_true ?_,decide_eq_true ?_⟩
    ·rw[e3,e4,show x+i-x=i by omega,show y+j-y=j by omega];exact⟨hd,hi,hj⟩
    ·rw[e3,e4];omega
theorem yfd(hg:zt g){k d:Int}(hn:¬(F8 i j=d/\i.tmod k=0/\j.tmod k=0/\onG g (x+i) (y+j))):Ch g x y k d j (i+1)=Ch g x y k d j i:=mv λt ht=>by
 rw[Fbj,Fbj];refine⟨λ⟨h1,h2⟩=>⟨h1,?_⟩,λ⟨h1,h2⟩=>⟨h1,?_⟩⟩
 ·have h2:=of_decide_eq_true h2;refine decide_eq_true ?_;by_cases h3:(t:Int)/g.W=y+j/\(t:Int)%g.W=x+i
  ·exfalso;obtain⟨q1,q2,q3⟩:=of_decide_eq_true h1;rw[h3.1,h3.2,show x+i-x=i by omega,show y+j-y=j by omega]at q1;rw[h3.2,show x+i-x=i by omega]at q2;rw[h3.1,show y+j-y=j by omega]at q3;have:=(Vv hg ht).1;rw[h3.1,h3.2]at this;exact hn ⟨q1,q2,q3,this⟩
  ·omega
 ·have h2:=of_decide_eq_true h2;exact decide_eq_true θ
def Cu(g:Gnd)(f:Nat->Bool)(x y k d:Int):List Nat:=(Gh g x y k d).filter f
def wi(g:Gnd)(f:Nat->Bool)(x y k:Int):Nat->List Nat
 |0=>[]
 |d+1=>wi g f x y k d++Cu g f x y k d
def Mc(g:Gnd)(f:Nat->Bool)(size goal:Int)(n:Nat):List Nat:=(wi g f (goal%g.W) (goal/g.W) (2*size+1) (g.W+g.H+1).toNat).take n
theorem tt(g:Gnd)(f:Nat->Bool)(x y k:Int)(d:Nat):∀e:Nat,∃m,wi g f x y k (d+e)=wi g f x y k d++m
 |0=>⟨[],φ⟩
 |e+1=>by obtain⟨m,hm⟩:=tt g f x y k d e;exact⟨m++Cu g f x y k ((d+e:Nat):Int),by rw[<-Fao,<-hm];rfl⟩
theorem zzm(hg:zt g){f:Nat->Bool}{k d:Int}(hx:0<=x/\x<g.W)(hy:0<=y/\y<g.H)(hd:max g.W g.H<=d):Cu g f x y k d=[]:=by unfold Cu Gh;rw[List.filter_filter,List.filter_eq_nil_iff];intro t ht hh;obtain⟨h1,h2⟩:=(Fbj).1 hh;have h3:=(of_decide_eq_true h2).1;obtain⟨⟨o1,o2⟩,o3,o4⟩:=(Vv hg (Fbe.1 ht)).1;unfold F8 at h3;omega
theorem zzl{f:Nat->Bool}{k d:Int}(hd:¬k∣d):Cu g f x y k d=[]:=by
 unfold Cu Gh;rw[List.filter_filter,List.filter_eq_nil_iff];intro t ht hh;obtain⟨h1,h2⟩:=(Fbj).1 hh;obtain⟨h3,h4,h5⟩:=of_decide_eq_true h2;have h4:=Int.dvd_of_tmod_eq_zero h4;have h5:=Int.dvd_of_tmod_eq_zero h5;refine hd ?_;rw[<-h3];unfold F8;generalize(t:Int)%g.W-x=a at*;generalize(t:Int)/g.W-y=b at*;have ha:=(Int.dvd_neg (a:=k) (b:=a)).2 h4;have hb:=(Int.dvd_neg (a:=k) (b:=b)).2 h5;have mx:∀u v:Int,k∣u->k∣v->k∣max u v:=λu v h1 h2=>by
  by_cases h:u<=v
  ·rw[Int.max_eq_right h];exact h2
  ·rw[Int.max_eq_left θ];exact h1
 exact mx _ _ (mx _ _ h4 ha) (mx _ _ h5 hb)
theorem zzk{f:Nat->Bool}{k d:Nat}(hk:0<k)(hd:k∣d):wi g f x y k (d+k)=wi g f x y k d++Cu g f x y k d:=by
 have:∀e:Nat,e<k->wi g f x y k (d+(e+1))=wi g f x y k d++Cu g f x y k d:=by
  intro e;induction e with
  |zero=>intro _;rfl
  |succ e ih=>
   intro he;have h1:=ih θ;have h2:Cu g f x y k ((d+(e+1):Nat):Int)=[]:=zzl λhh=>by
    have hh:k∣d+(e+1):=by exact_mod_cast hh
    have:=(Nat.dvd_add_right hd).1 hh;have:=Nat.le_of_dvd θ this;omega
   show wi g f x y k (d+(e+1))++Cu g f x y k ((d+(e+1):Nat):Int)=_;rw[h1,h2,Fbn]
 have:=this (k-1) θ;rw[show k-1+1=k by omega]at this;exact this
theorem zzi(hg:zt g){f:Nat->Bool}{size goal:Int}(hgl:0<=goal/\goal<g.W*g.H){d n:Nat}(h:n<=(wi g f (goal%g.W) (goal/g.W) (2*size+1) d).length\/max g.W g.H<=(d:Int)):
  (wi g f (goal%g.W) (goal/g.W) (2*size+1) d).take n=Mc g f size goal n:=by
 have hW:1<=g.W/\g.W<=128:=hg.1;have hH:1<=g.H/\g.H<=128:=hg.2.1;have hx:0<=goal%g.W/\goal%g.W<g.W:=⟨Fcn _ θ,Fc3 _ θ⟩
 have hy:0<=goal/g.W/\goal/g.W<g.H:=⟨Fcg hgl.1 θ,Fdw θ (by rw[Fdf];exact hgl.2)⟩
 unfold Mc;generalize goal%g.W=x at*;generalize goal/g.W=y at*;generalize 2*size+1=k at*;generalize hm:(g.W+g.H+1).toNat=m at*;have hmI:(m:Int)=g.W+g.H+1:=θ
 -- from where nothing comes any more
 have flat:∀c:Nat,max g.W g.H<=(c:Int)->∀e:Nat,wi g f x y k (c+e)=wi g f x y k c:=λc hc e=>by
  induction e with
  |zero=>rfl
  |succ e ih=>
   show wi g f x y k (c+e)++Cu g f x y k ((c+e:Nat):Int)=_;rw[ih,zzm hg hx hy θ,Fbn]
 rcases h with h|h
 ·by_cases hdm:d<=m
  ·obtain⟨r,hr⟩:=tt g f x y k d (m-d);rw[show d+(m-d)=m by omega]at hr;rw[hr,Fb2 h]
  ·have:=flat m θ (d-m);rw[show m+(d-m)=d by omega]at this;rw[this]
 ·by_cases hdm:d<=m
  ·have:=flat d h (m-d);rw[show d+(m-d)=m by omega]at this;rw[this]
  ·have:=flat m θ (d-m);rw[show m+(d-m)=d by omega]at this;rw[this]
end
end Go.V
