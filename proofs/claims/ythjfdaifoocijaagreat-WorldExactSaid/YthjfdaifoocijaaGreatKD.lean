/- Ground of laws of thronglaw25: contracts and plain lemmas; no condition beyond the row's own. -/
import Derived.Shelf.Sort.Plain
import Derived.Shelf.Slices.SearchI
import Derived.Shelf.Slices.Empties
import Derived.Shelf.Slices.Delete
import Derived.Shelf.Slices.In.SortNone
import Derived.Shelf.Spec.SlicesInsertGrow
import Derived.Shelf.Spec.BitsCarry
import Derived.Test.YthjfdaifoocijaaGreatKC
set_option linter.unusedSimpArgs false
set_option linter.unusedVariables false
set_option linter.defProp false
namespace Go.V
section
variable {P:Program} {c:Cfg} {w:World} {st:Store} {Oth M:BB}
theorem Ms{b:Nat}{old:Obj}(new:Obj)(hb:w.heap[b]?=some old):(w.heap.setIfInBounds b new)[b]?=some new:=δ
def yhq{b b':Nat}(new:Obj)(h:b'≠b):(w.heap.setIfInBounds b new)[b']?=w.heap[b']?:=δ
theorem Cz{r:Nat}{es:Array MapEntry}{clock:Nat}(hb:w.heap[r]?=some (.map es clock)):(getObj r).run P w=.ok (.map es clock) w:=by simp[getObj,Sem.run,hb]
theorem Oc{r:Nat}{es:Array MapEntry}{clock:Nat}(o:Obj)(hb:w.heap[r]?=some (.map es clock)):(setObj r o).run P w=.ok () {w with heap:=w.heap.setIfInBounds r o}:=by simp[setObj,Sem.run,hb]
def Ll:Obj->Prop
  |.cells ..=>False
  |_=>True
theorem zdq{b:Nat}{old new:Obj}(hb:w.heap[b]?=some old)(ho:Ll old)(hn:Ll new)(a:Addr):World.cell? {w with heap:=w.heap.setIfInBounds b new} a=w.cell? a:=by grind[World.cell?,Ll]
def K6{b:Nat}{old new:Obj}(hb:w.heap[b]?=some old)(ho:Ll old)(hn:Ll new)(T:BB):Keeps w T {w with heap:=w.heap.setIfInBounds b new} T where
  cell b' o c hc _:=by rw[zdq hb ho hn];exact hc
  out _ _ _ _ h:=h
  shp b' c e fr h:=by
    by_cases hbb:b'=b
    · subst hbb;rw[hb]at h;cases h;trivial
    grind
def L5(sto:StoreOK st Oth M w){b:Nat}{old new:Obj}{x y:AObj}(hx:st.obj b=some x)(hb:w.heap[b]?=some old)(ho:Ll old)(hn:Ll new)
    (hy:ObjRel {w with heap:=w.heap.setIfInBounds b new} (λb o=>M b o\/Oth b o) y b):
    StoreOK (st.sO b y) Oth M {w with heap:=w.heap.setIfInBounds b new}/\Chg M w M {w with heap:=w.heap.setIfInBounds b new}:=by
  have hk:=K6 hb ho hn λb o=>M b o\/Oth b o;have hM:=(sto.obj b x hx).2;refine⟨{obj:=λb' z hz=>?_,tok:=λb' top ht=>?_,mlt:=λb' o hm=>?_,olt:=λb' o hm=>?_,dis:=sto.dis},?_⟩
  · by_cases hbb:b'=b
    · grind[zd]
    · rw[zj hbb]at hz
      exact⟨ObjRel.same (sto.obj b' z hz).1 hk (yhq new hbb),(sto.obj b' z hz).2⟩
  · obtain⟨c,e,fr,h1,h2⟩:=sto.tok b' top ht
    have hbb:b'≠b:=λe=>by rw[e,hb]at h1;cases h1;trivial
    grind
  · have:=sto.mlt b' o hm;grind
  · have:=sto.olt b' o hm;grind
  · exact { size:=φ
            keep:=λb' o hb' _=>zdq hb ho hn _
            blk:=λb' hb' hm=>by have hbb:b'≠b:=λe=>hm 0 (e▸hM 0);grind
            shp:=λb' c e fr h=>(K6 hb ho hn λ_ _=>False).shp b' c e fr h
            sub:=λ_ _ h _=>h
            tape:=rfl,os:=rfl,output:=rfl}
theorem zb3{α:Type}{q:α->Bool}:∀{l:List α} {i:Nat} {e:α},l.findIdx? q=some i->l[i]?=some e->l.find? q=some e:=by
  intro l;induction l with
  |nil=>simp
  | cons a l ih=>
    intro i e h he;rw[List.findIdx?_cons]at h;cases hq:q a with
    |true=>grind
    | false=>
      rw[hq]at h;simp only[Fah,if_false,Option.map_eq_some_iff]at h;grind
theorem yjo{α:Type}{q:α->Bool}{l:List α}(h:l.findIdx? q=none):l.find? q=none:=δ
def Fj(ok:Bool)(z:AV)(r:Option (AV×AV)):AV:=
  match ok,r with
  |true,some e=>.tup [e.2,.s (.bool true)]
  |true,none=>.tup [z,.s (.bool false)]
  |false,some e=>e.2
  |false,none=>z
def ml{T:BB}{x:AV}{v:Value}(b:Bool)(h:VRel w T x v):VRel w T (.tup [x,.s (.bool b)]) (.tuple #[v,.bool b]):=
  wk (Reads.cons h (Reads.cons (.s _) Reads.nil))
theorem Fc{T:BB}{x y:AV}{vs:List Value}(h:Reads w T [x,y] vs):∃u v,vs=[u,v]/\VRel w T x u/\VRel w T y v:=by
  obtain⟨h1,h2⟩:=h
  match vs,h1 with
  |[u,v],_=>exact⟨u,v,rfl,h2 0 x u rfl rfl,h2 1 y v rfl rfl⟩
theorem si{T:BB}{x y z:AV}{vs:List Value}(h:Reads w T [x,y,z] vs):∃u v t,vs=[u,v,t]/\VRel w T x u/\VRel w T y v/\VRel w T z t:=by
  obtain⟨h1,h2⟩:=h
  match vs,h1 with
  |[u,v,t],_=>exact⟨u,v,t,rfl,h2 0 x u rfl rfl,h2 1 y v rfl rfl,h2 2 z t rfl rfl⟩
theorem Ia{T:BB}{x:AV}{vs:List Value}(h:Reads w T [x] vs):∃u,vs=[u]/\VRel w T x u:=by
  obtain⟨h1,h2⟩:=h
  match vs,h1 with
  |[u],_=>exact⟨u,rfl,h2 0 x u rfl rfl⟩
def Ak{o:Oper}{t kt e:TypeId}{x ix:Operand}{ok:Bool}(ho:o.op=.lookup t x ix ok){it ie ik:TI}(hit:c.I t=some it)(hty:it.ty=.map kt e)(hie:c.I e=some ie)(hik:c.I kt=some ik)
    {m clk:Nat} {es:List (AV×AV)} {bs:List Nat} {k:AV} (hm:st.obj m=some (.map es bs clk)) (hk:O2 c.I kt k=true) (q:AV×AV->Bool) (hq:∀e∈es,Fs c.I 5 kt k e.1=some (q e))
    {R:Ja} (h:R (Fj ok (Dg ie) (es.find? q)) st):AEff P c o [.s (.map (some m)),k] st R:=by
  refine⟨λOth M w ρ hI sto hr=>?_⟩;rw[ho]at hr;have hr:Reads w (λb o=>M b o\/Oth b o) [.s (.map (some m)),k] [ρ x,ρ ix]:=θy;obtain⟨u,v,he,h1,h2⟩:=Fc hr;simp only[Fcp,and_true]at he;obtain⟨hu,hv⟩:=he;rw[<-hu]at h1;rw[<-hv]at h2;have h1:=VRel.eq_s h1;obtain⟨⟨ms,g1,g2,g3,g4⟩,hM⟩:=sto.obj m _ hm;obtain⟨r,r1,r2⟩:=gp (kt:=kt) (k:=k) (kv:=ρ ix) hI h2 q (es:=es) (ms:=ms.toList) θ (λi x y hx hy=>(g3 i x y hx δ).1) hq δ;obtain⟨z,z1,z2⟩:=zev (hI _ _ hie) w λb o=>M b o\/Oth b o;have hck:=iz hI hk h2 ms.isEmpty;have hu:=yv (P:=P) (Km (hI _ _ hit) hty)
  have done:∀val:Value,VRel w (λb o=>M b o\/Oth b o) (Fj ok (Dg ie) (es.find? q)) val->(execOp ρ o).run P w=.ok (.value val) w->
      match(execOp ρ o).run P w with
      |.ok (.value v) w'=>xg st R Oth M w v w'
      |.ok .skip w'=>o.dst=none/\xg st R Oth M w (.tuple #[]) w'
      |_=>False:=by
    intro val hval hrun;rw[hrun];exact⟨_,st,M,h,hval,sto,Chg.refl _ _⟩
  rcases r2 with⟨rfl,r3⟩|⟨i,en,me,rfl,r3,r4,r5,r6⟩
  · rw[yjo r3]at done
    cases ok with
    |true=>exact done _ (ml false z2) (by simp[execOp,ho,Instr.lookup,hu,h1,Cz g1,hck,r1,z1])
    |false=>exact done _ z2 (by simp[execOp,ho,Instr.lookup,hu,h1,Cz g1,hck,r1,z1])
  · have hval:=(g3 i en me r4 δ).2
    rw[zb3 r3 r4]at done;cases ok with
    |true=>exact done _ (ml true hval) (by simp[execOp,ho,Instr.lookup,hu,h1,Cz g1,hck,r1])
    |false=>exact done _ hval (by simp[execOp,ho,Instr.lookup,hu,h1,Cz g1,hck,r1])
def fm:AV->Bool
  |.s (.int _ _)=>true
  |.s (.bool _)=>true
  |.agg cs=>cs.all λ|.s (.int _ _)=>true|_=>false
  |_=>false
theorem zax{T T':BB}{w':World}{k:AV}{u v:Value}(hk:fm k=true)(hu:VRel w T k u)(hv:VRel w' T' k v):u=v/\∀n,Instr.sameBits (n+1) u u=true:=by
  unfold fm at hk;split at hk
  · rw[VRel.eq_s hu,VRel.eq_s hv];simp_all[Instr.sameBits]
  · rw[VRel.eq_s hu,VRel.eq_s hv];simp_all[Instr.sameBits]
  · rename_i cs
    obtain⟨c1,rfl,h1⟩:=F0 hu;obtain⟨c2,rfl,h2⟩:=F0 hv;have hint:∀(i:Nat) (y:AV),cs[i]?=some y->∃k n,y=.s (.int k n):=by intro i y hy;have:=Fck.1 hk y (Fa3 hy);grind
    have heq:c1=c2:=by
      apply Array.ext_getElem?;intro i;have e1:=h1.1;have e2:=h2.1;simp only[Fci]at e1 e2;by_cases hi:i<cs.length
      · obtain⟨k,n,hy⟩:=hint i cs[i] (Fac hi)
        have h3:=h1.2 i cs[i] c1[i] (Fac hi) φ;have h4:=h2.2 i cs[i] c2[i] (Fac hi) φ;grind[VRel.eq_s]
      grind
    refine⟨by rw[heq],λn=>?_⟩;have hall:∀y∈c1.toList,∃k n,y=.int k n:=by
      intro y hy;obtain⟨i,hi,rfl⟩:=Fai hy;have hi':i<cs.length:=by rw[h1.1];exact hi
      obtain⟨k,n,hx⟩:=hint i cs[i] (Fac hi');have h3:=h1.2 i cs[i] _ (Fac hi') (Fac hi);grind[VRel.eq_s]
    rw[Instr.sameBits];simp only[beq_self_eq_true,Fel];generalize c1.toList=L at hall;clear heq h1 h2 hu hv;induction L with
    |nil=>simp
    | cons a L ih=>
      obtain⟨k,m,rfl⟩:=hall a φ;simp_all[Instr.sameBits]
  grind
def wg(es:List (AV×AV))(bs:List Nat)(clk:Nat)(q:AV×AV->Bool)(k v:AV):AObj:=
  match es.findIdx? q with
  |some i=>.map (es.set i (k,v)) bs clk
  |none=>.map (es++[(k,v)]) (bs++[clk]) (clk+1)
def D3{o:Oper}{t kt e:TypeId}{x ix y:Operand}(ho:o.op=.mapUpdate t x ix y\/o.op=.insert t x ix y)(hd:o.dst=none){it ik:TI}(hit:c.I t=some it)(hty:it.ty=.map kt e)(hik:c.I kt=some ik)
    {m clk:Nat} {es:List (AV×AV)} {bs:List Nat} {k v:AV} (hm:st.obj m=some (.map es bs clk)) (hk:O2 c.I kt k=true) (hdet:fm k=true) (q:AV×AV->Bool) (hq:∀e∈es,Fs c.I 5 kt k e.1=some (q e))
    (hsame:∀e∈es,q e=true->e.1=k) {R:Ja} (h:R (.tup []) (st.sO m (wg es bs clk q k v))):AEff P c o [.s (.map (some m)),k,v] st R:=by
  refine⟨λOth M w ρ hI sto hr=>?_⟩;have hops:o.op.operands=#[x,ix,y]:=by rcases ho with ho|ho<;>rw[ho]<;>rfl
  rw[hops]at hr;have hr:Reads w (λb o=>M b o\/Oth b o) [.s (.map (some m)),k,v] [ρ x,ρ ix,ρ y]:=δ;obtain⟨u,v',t',he,h1,h2,h3⟩:=si hr;simp only[Fcp,and_true]at he;obtain⟨hu,hv,ht'⟩:=he;rw[<-hu]at h1;rw[<-hv]at h2;rw[<-ht']at h3;have h1:=VRel.eq_s h1;obtain⟨⟨ms,g1,g2,g3,g4,g5,g6⟩,hM⟩:=sto.obj m _ hm;obtain⟨r,r1,r2⟩:=gp (kt:=kt) (k:=k) (kv:=ρ ix) hI h2 q (es:=es) (ms:=ms.toList) θ (λi x y hx hy=>(g3 i x y hx δ).1) hq δ;have hck:=iz hI hk h2 false;have hund:=yv (P:=P) (Km (hI _ _ hit) hty)
  have done:∀w',(execOp ρ o).run P w=.ok .skip w'->(StoreOK (st.sO m (wg es bs clk q k v)) Oth M w'/\Chg M w M w')->
      match(execOp ρ o).run P w with
      |.ok (.value v) w'=>xg st R Oth M w v w'
      |.ok .skip w'=>o.dst=none/\xg st R Oth M w (.tuple #[]) w'
      |_=>False:=by
    intro w' hrun hok;rw[hrun];exact⟨hd,_,_,M,h,wk Reads.nil,hok.1,hok.2⟩
  have hexec:(execOp ρ o).run P w=((Instr.mapUpdate t (ρ x) (ρ ix) (ρ y)).run P w).andThen λ_ w'=>.ok .skip w':=by rcases ho with ho|ho<;>simp[execOp,ho]
  rcases r2 with⟨rfl,r3⟩|⟨i,en,me,rfl,r3,r4,r5,r6⟩
  · refine done {w with heap:=w.heap.setIfInBounds m (.map (ms.push {key:=ρ ix,val:=ρ y,born:=clk}) (clk+1))} ?_ ?_
    · rw[hexec]
      simp[Instr.mapUpdate,hund,h1,Cz g1,hck,r1,Oc _ g1]
    · refine L5 sto hm g1 trivial trivial ?_
      unfold wg;rw[r3];have hkp:=K6 (new:=.map (ms.push {key:=ρ ix,val:=ρ y,born:=clk}) (clk+1)) g1 trivial trivial λb o=>M b o\/Oth b o;refine⟨_,Ms _ g1,by simp[g2],λi x' y' hx hy=>?_,by simp[g4],λt ht=>?_,?_⟩
      · by_cases hi:i<es.length
        · rw[Fap hi]at hx
          rw[Array.getElem?_push_lt θ]at hy;have hy:ms[i]?=some y':=δ;exact⟨(g3 i x' y' hx hy).1.keep hkp,(g3 i x' y' hx hy).2.keep hkp⟩
        · rw[Fa2 θ]at hx
          have hi2:i=es.length:=δ;subst hi2;rw[g2,Array.getElem?_push_size]at hy;simp at hx hy;subst hx hy;exact⟨h2.keep hkp,h3.keep hkp⟩
      · grind
      grind
  · have hme:ms[i]?=some me:=by grind
    have hkey:me.key=ρ ix:=by grind[zax]
    have hsb:=(zax hdet h2 h2).2 9999;have hstay:(Instr.keyThatStays (((ms[i]?).map (·.key)).getD (ρ ix)) (ρ ix)).run P w=.ok (ρ ix) w:=by simp_all[Instr.keyThatStays]
    refine done {w with heap:=w.heap.setIfInBounds m (.map (ms.modify i λe=>{e with key:=ρ ix,val:=ρ y}) clk)} ?_ ?_
    · rw[hexec]
      simp only[Instr.mapUpdate,Sem.run_bind,hund,Result.andThen_ok,h1,Cz g1,hck,r1,hstay,Oc _ g1]
    · refine L5 sto hm g1 trivial trivial ?_
      unfold wg;rw[r3];have hkp:=K6 (new:=.map (ms.modify i λe=>{e with key:=ρ ix,val:=ρ y}) clk) g1 trivial trivial λb o=>M b o\/Oth b o;refine⟨_,Ms _ g1,by simp[g2],λj x' y' hx hy=>?_,?_,g5,g6⟩
      · rw[Fc5]at hy
        by_cases hij:i=j
        · subst hij
          rw[if_pos rfl,hme]at hy;simp at hy;rw[List.getElem?_set_self (Fax.1 r4).1]at hx;simp at hx;subst hx hy;exact⟨h2.keep hkp,h3.keep hkp⟩
        · rw[if_neg hij]at hy
          rw[List.getElem?_set_ne hij]at hx;exact⟨(g3 j x' y' hx hy).1.keep hkp,(g3 j x' y' hx hy).2.keep hkp⟩
      · rw[g4]
        apply Fcd;grind
end
section
variable {P:Program} {c:Cfg} {w:World} {st:Store} {Oth M:BB}
def d9(sto:StoreOK st Oth M w)(new:Obj){y:AObj}(hy:ObjRel (w.alloc new) (λb o=>vk M w.heap.size b o\/Oth b o) y w.heap.size):
    Fresh st w.heap.size/\StoreOK (st.sO w.heap.size y) Oth (vk M w.heap.size) (w.alloc new)/\Chg M w (vk M w.heap.size) (w.alloc new):=by
  refine⟨sto.fresh (Fal _),?_,I5 w new M⟩;have h:=sto.alloc new;refine{obj:=λb z hz=>?_,tok:=h.tok,mlt:=h.mlt,olt:=h.olt,dis:=h.dis};by_cases hb:b=w.heap.size
  · subst hb
    rw[zd]at hz;cases hz;exact⟨hy,λo=>.inr rfl⟩
  · rw[zj hb]at hz
    exact h.obj b z hz
def Ht{o:Oper}{t:TypeId}(ho:o.op=.makeMap t none){R:Ja}
    (h:∀b,Fresh st b->R (.s (.map (some b))) (st.sO b (.map [] [] 0))):AEff P c o [] st R:=by
  refine⟨λOth M w ρ hI sto hr=>?_⟩;have hrun:(execOp ρ o).run P w=.ok (.value (.map (some w.heap.size))) (w.alloc (.map #[] 0)):=by simp[execOp,ho,Instr.makeMap]
  rw[hrun];obtain⟨h1,h2,h3⟩:=d9 sto (.map #[] 0) (y:=.map [] [] 0) ⟨#[],Iq w _,rfl,λi x y hx=>φ,rfl,φ,List.Pairwise.nil⟩;exact⟨_,_,_,h _ h1,.s _,h2,h3⟩
def Du(es:List (AV×AV))(bs:List Nat)(clk:Nat)(q:AV×AV->Bool):AObj:=
  match es.findIdx? q with
  |some i=>.map (es.eraseIdx i) (bs.eraseIdx i) clk
  |none=>.map es bs clk
theorem getElem?_eraseIdx'{α:Type}(l:List α)(i j:Nat):(l.eraseIdx i)[j]?=if j<i then l[j]? else l[j+1]?:=List.getElem?_eraseIdx
theorem Vq{α β:Type}(f:α->β):∀(l:List α) (i:Nat),(l.map f).eraseIdx i=(l.eraseIdx i).map f
  |[],_=>rfl
  |_::_,0=>rfl
  |a::l,i+1=>by simp[Vq f l i]
def Wj{o:Oper}{cl:Call}{t kt e:TypeId}{x ix:Operand}(ho:o.op=.call cl)(hcl:cl.callee=.builtin .delete)(hargs:cl.args=#[x,ix])(hat:cl.argTypes[0]?=some t)
    {it ik:TI} (hit:c.I t=some it) (hty:it.ty=.map kt e) (hik:c.I kt=some ik)
    {m clk:Nat} {es:List (AV×AV)} {bs:List Nat} {k:AV} (hm:st.obj m=some (.map es bs clk)) (hk:O2 c.I kt k=true) (q:AV×AV->Bool) (hq:∀e∈es,Fs c.I 5 kt k e.1=some (q e))
    {R:Ja} (h:R (.tup []) (st.sO m (Du es bs clk q))):AEff P c o [.s (.map (some m)),k] st R:=by
  refine⟨λOth M w ρ hI sto hr=>?_⟩;have hops:o.op.operands=#[x,ix]:=ψo;rw[hops]at hr;have hr:Reads w (λb o=>M b o\/Oth b o) [.s (.map (some m)),k] [ρ x,ρ ix]:=δ;obtain⟨u,v',he,h1,h2⟩:=Fc hr;simp only[Fcp,and_true]at he;obtain⟨hu,hv⟩:=he;rw[<-hu]at h1;rw[<-hv]at h2;have h1:=VRel.eq_s h1;obtain⟨⟨ms,g1,g2,g3,g4,g5,g6⟩,hM⟩:=sto.obj m _ hm;obtain⟨r,r1,r2⟩:=gp (kt:=kt) (k:=k) (kv:=ρ ix) hI h2 q (es:=es) (ms:=ms.toList) θ (λi x y hx hy=>(g3 i x y hx δ).1) hq δ;have hck:=iz hI hk h2 ms.isEmpty;have hund:=yv (P:=P) (Km (hI _ _ hit) hty);have hexec:(execOp ρ o).run P w=((Builtin.delete_ cl.argTypes o.type #[ρ x,ρ ix]).run P w).andThen λv w'=>.ok (.value v) w':=by simp_all[execOp,resolve,invoke,builtin]
  have done:∀w',(execOp ρ o).run P w=.ok (.value (.tuple #[])) w'->(StoreOK (st.sO m (Du es bs clk q)) Oth M w'/\Chg M w M w')->
      match(execOp ρ o).run P w with
      |.ok (.value v) w'=>xg st R Oth M w v w'
      |.ok .skip w'=>o.dst=none/\xg st R Oth M w (.tuple #[]) w'
      |_=>False:=by
    intro w' hrun hok;rw[hrun];exact⟨_,_,M,h,wk Reads.nil,hok.1,hok.2⟩
  rcases r2 with⟨rfl,r3⟩|⟨i,en,me,rfl,r3,r4,r5,r6⟩
  · refine done {w with heap:=w.heap.setIfInBounds m (.map ms clk)} ?_ ?_
    · rw[hexec]
      simp[Builtin.delete_,hat,hund,h1,Cz g1,hck,r1,Oc _ g1]
    · refine L5 sto hm g1 trivial trivial ?_
      unfold Du;rw[r3];have hkp:=K6 (new:=.map ms clk) g1 trivial trivial λb o=>M b o\/Oth b o;exact⟨_,Ms _ g1,g2,λi x' y' hx hy=>⟨(g3 i x' y' hx hy).1.keep hkp,(g3 i x' y' hx hy).2.keep hkp⟩,g4,g5,g6⟩
  · refine done {w with heap:=w.heap.setIfInBounds m (.map (ms.eraseIdxIfInBounds i) clk)} ?_ ?_
    · rw[hexec]
      simp[Builtin.delete_,hat,hund,h1,Cz g1,hck,r1,Oc _ g1]
    · refine L5 sto hm g1 trivial trivial ?_
      unfold Du;rw[r3];have hkp:=K6 (new:=.map (ms.eraseIdxIfInBounds i) clk) g1 trivial trivial λb o=>M b o\/Oth b o;have hi:i<ms.size:=δ;have htl:(ms.eraseIdxIfInBounds i).toList=ms.toList.eraseIdx i:=φ;have hsub:(bs.eraseIdx i).Sublist bs:=List.eraseIdx_sublist ..;refine⟨_,Ms _ g1,?_,λj x' y' hx hy=>?_,?_,λt ht=>g5 t (hsub.subset ht),g6.sublist hsub⟩
      · grind
      · have hy:(ms.toList.eraseIdx i)[j]?=some y':=by grind
        rw[getElem?_eraseIdx']at hx hy;by_cases hj:j<i
        · rw[if_pos hj]at hx hy
          have:=g3 j x' y' hx δ;exact⟨this.1.keep hkp,this.2.keep hkp⟩
        · rw[if_neg hj]at hx hy
          have:=g3 (j+1) x' y' hx δ;exact⟨this.1.keep hkp,this.2.keep hkp⟩
      · rw[htl,g4,Vq]
def yoe{o:Oper}{t kt e:TypeId}{x:Operand}(ho:o.op=.range t x){it:TI}(hit:c.I t=some it)(hty:it.ty=.map kt e)
    {m clk:Nat} {es:List (AV×AV)} {bs:List Nat} (hm:st.obj m=some (.map es bs clk)) {R:Ja}
    (h:∀b,Fresh st b->R (.s (.pointer (some ⟨b,0,none⟩))) (st.sO b (.iter m clk [] clk))):AEff P c o [.s (.map (some m))] st R:=by
  refine⟨λOth M w ρ hI sto hr=>?_⟩;rw[ho]at hr;have hr:Reads w (λb o=>M b o\/Oth b o) [.s (.map (some m))] [ρ x]:=θy;obtain⟨u,he,h1⟩:=Ia hr;simp only[Fcp,and_true]at he;rw[<-he]at h1;have h1:=VRel.eq_s h1;obtain⟨⟨ms,g1,g2⟩,hM⟩:=sto.obj m _ hm;have hund:=yv (P:=P) (Km (hI _ _ hit) hty);have hrun:(execOp ρ o).run P w=.ok (.value (.pointer (some ⟨w.heap.size,0,none⟩))) (w.alloc (.mapIter (some m) clk #[] clk)):=by simp[execOp,ho,Instr.range,hund,h1,Cz g1]
  rw[hrun];obtain⟨h2,h3,h4⟩:=d9 sto (.mapIter (some m) clk #[] clk) (y:=.iter m clk [] clk) (Iq w _);exact⟨_,_,_,h _ h2,.s _,h3,h4⟩
def yam(n:Nat)(hn:0<n)(w:World):∃i w',i<n/\Grow w w'/\w'.heap=w.heap/\(choose (.mapNext n)).run P w=.ok i w':=by
  by_cases h1:n<=1
  · refine⟨0,w,hn,Grow.refl w,rfl,?_⟩
    simp_all[Question.forced]
  · refine⟨w.tape w.drawn (.mapNext n)%n,w.drew,Nat.mod_lt _ hn,Grow.drew w,rfl,?_⟩
    simp only[choose,Sem.run];rw[if_neg (by simpa [Question.forced]using h1)];rfl
def yof{o:Oper}{x:Operand}(ho:o.op=.next x false)
    {b m clk:Nat} {es:List (AV×AV)} {bs seen:List Nat} (hb:st.obj b=some (.iter m clk seen clk)) (hm:st.obj m=some (.map es bs clk)) {R:Ja}
    (h1:(∀t∈bs,t∈seen)->R (.tup [.s (.bool false)]) st)
    (h2:∀(i:Nat) (e:AV×AV) (t:Nat),es[i]?=some e->bs[i]?=some t->t∉seen->R (.tup [.s (.bool true),e.1,e.2]) (st.sO b (.iter m clk (seen++[t]) clk))):AEff P c o [.s (.pointer (some ⟨b,0,none⟩))] st R:=by
  refine⟨λOth M w ρ hI sto hr=>?_⟩;rw[ho]at hr;have hr:Reads w (λb o=>M b o\/Oth b o) [.s (.pointer (some ⟨b,0,none⟩))] [ρ x]:=θy;obtain⟨u,he,hx⟩:=Ia hr;simp only[Fcp,and_true]at he;rw[<-he]at hx;have hx:=VRel.eq_s hx;obtain⟨⟨ms,g1,g2,g3,g4,g5,g6⟩,hM⟩:=sto.obj m _ hm;obtain⟨hit,hMb⟩:=sto.obj b _ hb;have hit:w.heap[b]?=some (.mapIter (some m) clk seen.toArray clk):=hit;have born:∀y∈ms,y.born<clk:=λy hy=>g5 _ δ;have hall:(!seen.toArray.isEmpty&& !ms.isEmpty&&ms.all λe=>decide (e.born>=clk))=false:=by
    cases hms:ms.isEmpty with
    |true=>simp
    | false=>
      have hne:0<ms.size:=δ;grind
  have hnew:(Array.filter (λe=> !seen.toArray.contains e.born) ms).filter (λe=>decide (e.born>=clk))=#[]:=by grind[Array.filter_eq_empty_iff]
  have hold:(Array.filter (λe=> !seen.toArray.contains e.born) ms).filter (λe=>decide (e.born<clk))=Array.filter (λe=> !seen.toArray.contains e.born) ms:=by grind[Array.filter_eq_self]
  have hgo:(getObj b).run P w=.ok (.mapIter (some m) clk seen.toArray clk) w:=by simp[getObj,Sem.run,hit]
  generalize hleft:Array.filter (λe=> !seen.toArray.contains e.born) ms=left at hnew hold;have hlm:∀y∈left,y∈ms/\y.born∉seen:=δ
  let cands:Array (Option MapEntry):=(if left.isEmpty then #[none]else #[])++(left++#[]).map some
  have hcs:0<cands.size:=δ;obtain⟨i,w1,hi,hg,hheap,hch⟩:=yam (P:=P) cands.size hcs w;have hexec:(execOp ρ o).run P w=((Instr.next (ρ x) false o.type).run P w).andThen λv w'=>.ok (.value v) w':=by simp[execOp,ho]
  cases hl:left.isEmpty with
  | true=>
    have hc0:cands=#[none]:=by
      have:left=#[]:=by simpa using hl
      simp[cands,this]
    have hi0:i=0:=by rw[hc0]at hi;simpa using hi
    have hrun:(execOp ρ o).run P w=.ok (.value (.tuple #[.bool false])) w1:=by rw[hexec];simp only[Instr.next,hx,Sem.run_bind,hgo,Result.andThen_ok,Cz g1,hall,Fah,if_false,hleft,hold,hnew,Sem.run_pure];show((((choose (.mapNext cands.size)).run P w).andThen _).andThen _)=_;rw[hch];simp only[Result.andThen_ok];rw[show((if left.isEmpty=true then #[none]else #[])++Array.map some (left++#[]):Array (Option MapEntry))=cands from rfl,hc0,hi0];simp
    rw[hrun];refine⟨_,st,M,h1 λt ht=>?_,wk (Reads.cons (.s _) Reads.nil),sto.grow hg,hg.chg M⟩;rw[g4]at ht;obtain⟨y,hy,rfl⟩:=Fag.1 ht;have hle:left=#[]:=by simpa using hl
    rw[<-hleft,Array.filter_eq_empty_iff]at hle;have:=hle _ (Array.mem_toList_iff.1 hy);simpa using this
  | false=>
    have hce:cands=left.map some:=by simp[cands,hl]
    have hil:i<left.size:=by rw[hce]at hi;simpa using hi
    have hcg:cands[i]?=some (some left[i]):=by rw[hce];simp[hil]
    have hgo1:w1.heap[b]?=some (.mapIter (some m) clk seen.toArray clk):=by rw[hheap];exact hit
    have hset:∀ob:Obj,(setObj b ob).run P w1=.ok () {w1 with heap:=w1.heap.setIfInBounds b ob}:=λob=>by simp[setObj,Sem.run,hgo1]
    have hrun:(execOp ρ o).run P w=.ok (.value (.tuple #[.bool true,left[i].key,left[i].val])) {w1 with heap:=w1.heap.setIfInBounds b (.mapIter (some m) clk (seen.toArray.push left[i].born) clk)}:=by rw[hexec];simp only[Instr.next,hx,Sem.run_bind,hgo,Result.andThen_ok,Cz g1,hall,Fah,if_false,hleft,hold,hnew,Sem.run_pure];show((((choose (.mapNext cands.size)).run P w).andThen _).andThen _)=_;rw[hch];simp only[Result.andThen_ok];rw[show((if left.isEmpty=true then #[none]else #[])++Array.map some (left++#[]):Array (Option MapEntry))=cands from rfl,hcg];simp only[Sem.run_bind,hset,Result.andThen_ok,Sem.run_pure]
    rw[hrun];obtain⟨hlm1,hlm2⟩:=hlm left[i] φ;obtain⟨j,hj,hje⟩:=Array.mem_iff_getElem.1 hlm1;have hjs:j<es.length:=θ;have hms:ms[j]?=some left[i]:=by rw[Fbe hj,hje]
    have hrel:=g3 j es[j] left[i] (Fac hjs) hms;have hbs:bs[j]?=some left[i].born:=by rw[g4,Far,Fde,hms];rfl
    have sto1:=sto.grow hg;have hk1:=hg.keeps λb o=>M b o\/Oth b o;have hk2:=K6 (new:=.mapIter (some m) clk (seen.toArray.push left[i].born) clk) hgo1 trivial trivial λb o=>M b o\/Oth b o;obtain⟨s1,s2⟩:=L5 (y:=.iter m clk (seen++[left[i].born]) clk) sto1 hb hgo1 trivial trivial (new:=.mapIter (some m) clk (seen.toArray.push left[i].born) clk) (by show _=_;rw[Ms _ hgo1];simp)
    exact⟨_,_,M,h2 j es[j] left[i].born (Fac hjs) hbs hlm2,
      wk (Reads.cons (.s _) (Reads.cons ((hrel.1.keep hk1).keep hk2) (Reads.cons ((hrel.2.keep hk1).keep hk2) Reads.nil))),s1,(hg.chg M).trans s2⟩
end
section
variable {P:Program} {c:Cfg} {w:World} {st:Store} {Oth M:BB}
def Bu(sto:StoreOK st Oth M w){b o:Nat}{l xs:List AV}{vs:List Value}{w':World}(hk:st.obj b=some (.cells l))
    (hx:Reads w (λb o=>M b o\/Oth b o) xs vs) (hw:Wrote w b o vs w'):StoreOK (st.sO b (.cells (zv l o xs))) Oth M w'/\Chg M w M w':=by
  have hM:=(sto.obj b _ hk).2;have hT:∀o,M b o\/Oth b o:=λo=>.inl (hM o);refine⟨{obj:=λb' x hx'=>?_,tok:=λb' top ht=>?_,mlt:=λb' o' hm=>?_,olt:=λb' o' hm=>?_,dis:=sto.dis},hw.chg hM⟩
  · by_cases he:b'=b
    · subst he
      rw[zd]at hx';cases hx';exact⟨CellsRel.wrote hw hT (sto.obj b' _ hk).1 hx,hM⟩
    · rw[zj he]at hx'
      exact⟨ObjRel.same (sto.obj b' x hx').1 (hw.keeps hT) (hw.other b' he),(sto.obj b' x hx').2⟩
  · obtain⟨c,e,fr,h1,h2,h3,h4⟩:=sto.tok b' top ht
    by_cases he:b'=b
    · subst he
      obtain⟨c',h5,_,h6⟩:=hw.blk c e fr h1;grind
    · exact⟨c,e,fr,ψa,h2,h3,h4⟩
  · rw[hw.size];exact sto.mlt b' o' hm
  · rw[hw.size];exact sto.olt b' o' hm
def Gh(sto:StoreOK st Oth M w)(cs:Array Value)(e:TypeId){l:List AV}(h:Reads w (λb o=>M b o\/Oth b o) l cs.toList):
    Fresh st w.heap.size/\StoreOK (st.sO w.heap.size (.cells l)) Oth (vk M w.heap.size) (w.alloc (.cells cs e))/\Chg M w (vk M w.heap.size) (w.alloc (.cells cs e)):=
  d9 sto (.cells cs e) (y:=.cells l) (Pi w e M Oth h)
def zb1{T:BB}{b n cap k:Nat}{l:List AV}(h:CellsRel w T l b)(hn:n*k<=l.length):
    ∃new:Array Value,Reads w T (l.take (n*k)) new.toList/\new.size=n*k/\∀w',w'.heap=w.heap->(Builtin.firstCells k n (.slice (some ⟨b,0,none⟩) n cap)).run P w'=.ok new w':=by
  obtain⟨c,e,fr,h1,h2,h3,h4⟩:=h;have hsz:n*k<=c.size:=θ;refine⟨((List.range' 0 (n*k)).map λi=>c.getD i undef).toArray,?_,φ,λw' hw=>?_⟩
  · refine⟨δ,λi x y hx hy=>?_⟩
    have hi:i<n*k:=δ;rw[Fb1 hi]at hx;simp[hi]at hy;grind
  · have:=Kt (P:=P) ⟨b,0,none⟩ w' (λi=>c.getD i undef) (n*k) 0 #[] (λp _ hp=>by
      rw[vw,S9 hw];simp only[World.cell?,h1];have:p<c.size:=θ;simp[this])
    grind[Builtin.firstCells,loadCells]
def tv{T:BB}{xs:List AV}{vs:List Value}(h:Reads w T xs vs)(h1:∀x∈xs,x.one=true):∀v∈vs,xp v=true:=by
  intro v hv;obtain⟨i,hi⟩:=Fa6.1 hv;have hlt:i<xs.length:=by rw[h.1];grind
  exact dt (h.2 i xs[i] v (Fac hlt) hi) (h1 _ (Faa hlt))
def Pn{e:TypeId}{ie:TI}(hie:c.I e=some ie){b n cap:Nat}{l:List AV}{x:AV}{rows:List (List AV)}(ho:st.obj b=some (.cells l))(hcap:cap*ie.size<=l.length)(hn:n<=cap)
    (hx:vz ie.size (.av x)=some rows) (hroom:room (n+rows.length) ie.bytes) {K:Ja}
    (h1:n+rows.length<=cap->K (.s (.slice (some ⟨b,0,none⟩) (n+rows.length) cap)) (st.sO b (.cells (zv l (n*ie.size) rows.flatten))))
    (h2:cap<n+rows.length->∀b' cap',Fresh st b'->n+rows.length<=cap'->cap'<=9223372036854775807->K (.s (.slice (some ⟨b',0,none⟩) (n+rows.length) cap')) (st.sO b' (.cells (l.take (n*ie.size)++rows.flatten++List.replicate ((cap'-(n+rows.length))*ie.size) .any)))):
    AppX P c st e (.s (.slice (some ⟨b,0,none⟩) n cap)) x K:=by
  refine⟨⟨ie,hie⟩,λie' hie' Oth M w sv xv argTypes ty args t sto hs hxv hat ht1 hu hti h0 h1'=>?_⟩;rw[hie]at hie';cases hie';have hs:=VRel.eq_s hs;subst hs;have A:AppArgs P c argTypes args t e ie (some ⟨b,0,none⟩) n cap xv:=⟨hat,ht1,hu,hti,h0,h1'⟩
  obtain⟨hl1,hl2,new,hnew,hone,hnsz,hfc⟩:=H6 (P:=P) (β:=λ_=>0) (k:=ie.size) (x:=.av x) hxv hx;have hnn:n*ie.size<=l.length:=Fcx (Fa1 _ hn) hcap;by_cases hc:n+rows.length<=cap
  · obtain⟨⟨cs,e0,fr,hb0,huf,hlen,hrel⟩,hM⟩:=sto.obj b _ ho
    have hfit:n*ie.size+new.toList.length<=cs.size:=by rw[Fci,hnsz,<-Fch,<-hlen];exact Fcx (Fa1 _ hc) hcap
    obtain⟨w',hw1,hw2⟩:=H7 (P:=P) w b (n*ie.size) new.toList 0 w cs e0 fr hb0 (.inl huf) hfit hone;have hrun:=Kb (w':=w') ty A hl1 (hfc w rfl) hc (λa ha=>by cases ha;rw[vw,Fbg];exact hw1) λh=>ω;obtain⟨k1,k2⟩:=Bu sto ho hnew hw2;exact⟨_,_,hrun,_,_,M,h1 hc,.s _,k1,k2⟩
  · have hc:cap<n+rows.length:=θ
    obtain⟨old,hold1,hold2,hold3⟩:=zb1 (P:=P) (cap:=cap) (sto.obj b _ ho).1 hnn;obtain⟨newCap,rest,g1,g0,g2,g3⟩:=Kc ty A hl1 (hfc w.drew rfl) (hold3 w.drew rfl) hc hroom;have gd:Grow w w.drew:=Grow.drew w;have sto1:=sto.grow gd;obtain⟨f1,f2,f3⟩:=Gh sto1 (old++new++rest) e (l:=l.take (n*ie.size)++rows.flatten++List.replicate rest.size .any) (by
      rw[Fbc,Fbc];refine((hold1.append hnew).append ⟨φ,λi x y hx hy=>?_⟩).keep (gd.keeps _);rw[Fbw]at hx;split at hx
      · cases hx;exact .any _
      grind)
    have e1:w.drew.heap.size=w.heap.size:=rfl;rw[g2]at f2;exact⟨_,_,g3,_,_,_,h2 hc _ newCap f1 g1 g0,.s _,f2,(gd.chg M).trans f3⟩
def zej{e:TypeId}{ie:TI}(hie:c.I e=some ie){x:AV}{rows:List (List AV)}(hx:vz ie.size (.av x)=some rows)(hroom:room rows.length ie.bytes)(hne:0<rows.length){K:Ja}
    (h2:∀b' cap',Fresh st b'->rows.length<=cap'->cap'<=9223372036854775807->K (.s (.slice (some ⟨b',0,none⟩) rows.length cap')) (st.sO b' (.cells (rows.flatten++List.replicate ((cap'-rows.length)*ie.size) .any)))):
    AppX P c st e (.s (.slice none 0 0)) x K:=by
  refine⟨⟨ie,hie⟩,λie' hie' Oth M w sv xv argTypes ty args t sto hs hxv hat ht1 hu hti h0 h1'=>?_⟩;rw[hie]at hie';cases hie';have hs:=VRel.eq_s hs;subst hs;have A:AppArgs P c argTypes args t e ie none 0 0 xv:=⟨hat,ht1,hu,hti,h0,h1'⟩
  obtain⟨hl1,hl2,new,hnew,hone,hnsz,hfc⟩:=H6 (P:=P) (β:=λ_=>0) (k:=ie.size) (x:=.av x) hxv hx;obtain⟨newCap,rest,g1,g0,g2,g3⟩:=Kc (old:=#[]) ty A hl1 (hfc w.drew rfl) ξ θ δ;have gd:Grow w w.drew:=Grow.drew w;have sto1:=sto.grow gd;obtain⟨f1,f2,f3⟩:=Gh sto1 (#[]++new++rest) e (l:=rows.flatten++List.replicate rest.size .any) (by
    rw[Fbc,Fbc];refine((show Reads w _ rows.flatten ([]++new.toList)from hnew).append ⟨φ,λi x y hx hy=>?_⟩).keep (gd.keeps _);rw[Fbw]at hx;split at hx
    · cases hx;exact .any _
    grind)
  rw[g2]at f2;simp only[Fbg]at g1 g3 f2;exact⟨_,_,g3,_,_,_,h2 _ newCap f1 g1 g0,.s _,f2,(gd.chg M).trans f3⟩
def Ints(st:Store)(v:AV)(ns:List Int):Prop:=
  (v=.s (.slice none 0 0)/\ns=[])\/∃b cap L,v=.s (.slice (some ⟨b,0,none⟩) ns.length cap)/\st.obj b=some (.cells (ns.map (λn=>AV.s (.int .i64 n))++L))/\ns.length<=cap/\cap<=ns.length+L.length/\cap<=9223372036854775807
end
open Go.Proofs Go.Shelf Go.Sort Go.RowKit
section
variable {P:Program} {ρ:Ren} {w:World} {st:Store} {Oth M:BB}
def vI(n:Int):Value:=.int .i64 n
def aI(n:Int):AV:=.s (.int .i64 n)
def Gd(T:BB)(ns:List Int):Reads w T (ns.map aI) (ns.map vI):=by
  have:=Reads.map_s (w:=w) (T:=T) (ns.map vI)
  rwa [List.map_map]at this
def lw{w:World}{b q:Nat}{c:Array Value}{e:TypeId}{fr:Nat×Nat}(hb:w.heap[b]?=some (.cells c e fr))(ns:List Int)(hl:ns.length<=c.size):
    Wrote w b 0 (ns.map vI) (putRow (Value.int .i64) (Sort.ahead w q) b 0 ns.toArray) where
  size:=φ
  other b' hne:=by simp_all[putRow,mapBlock,Fc5,Ne.symm]
  blk c' e' fr' h:=by
    rw[hb]at h;cases h;refine⟨putCells (Value.int .i64) 0 ns.toArray c,?_,?_,by simp[putCells]⟩
    · simp_all[putRow,mapBlock,Fc5,onCells]
    · apply Fcd
      intro i;simp only[putCells,Fde,Fcj,Fc6,Fbg,Fas,Array.getElem?_mapIdx];by_cases hi:i<ns.length
      · grind[vI]
      grind
  tape:=rfl
  os:=rfl
  output:=rfl
def yhu(w:World)(os:Array Obj):Grow w (Sort.grow w os) where
  size:=φ
  blk b hb:=by grind[Sort.grow]
  tape:=rfl
  os:=rfl
  output:=rfl
def Mr{T:BB}{b:Nat}{ns:List Int}{L:List AV}(h:CellsRel w T (ns.map aI++L) b):
    ∃c e fr,w.heap[b]?=some (.cells c e fr)/\fr.2=fr.1/\ns.length+L.length=c.size/\∀j,j<ns.length->c[j]?=some (vI (ns.getD j 0)):=by
  obtain⟨c,e,fr,h1,h2,h3,h4⟩:=h;refine⟨c,e,fr,h1,h2,δ,λj hj=>?_⟩;have hlt:j<c.size:=δ;have h5:=h4 j (aI ns[j]) c[j] δ φ;rw[Fbe hlt,VRel.eq_s h5];simp[hj,vI]
def zbe{T:BB}{b:Nat}{ns:List Int}{L:List AV}(h:CellsRel w T (ns.map aI++L) b):Holds (Value.int .i64) w b 0 ns.toArray:=by obtain⟨c,e,fr,h1,h2,h3,h4⟩:=Mr h;intro j hj;simp_all[World.cell?,vI,World.frozen?]
theorem oz{xs l L:List AV}(h:xs.length=l.length):zv (l++L) 0 xs=xs++L:=by simp_all[zv]
theorem Dk{A B xs:List AV}{o:Nat}(h:A.length=o):zv (A++B) o xs=A++xs++B.drop xs.length:=by grind[zv,List.take_left,List.drop_append]
def zeh{x:AV}{vs:Array Value}{T:BB}(h:Reads w T [x] vs.toList):∃v,vs=#[v]/\VRel w T x v:=by grind[Ia]
def ynn{x y:AV}{vs:Array Value}{T:BB}(h:Reads w T [x,y] vs.toList):∃u v,vs=#[u,v]/\VRel w T x u/\VRel w T y v:=by grind[Fc]
def lk{x y z:AV}{vs:Array Value}{T:BB}(h:Reads w T [x,y,z] vs.toList):∃u v t,vs=#[u,v,t]/\VRel w T x u/\VRel w T y v/\VRel w T z t:=by grind[si]
def O3{v:AV}{ns:List Int}(h:Ints st v ns):(v=.s (.slice none 0 0)/\ns=[])\/∃b cap L,v=.s (.slice (some ⟨b,0,none⟩) ns.length cap)/\st.obj b=some (.cells (ns.map aI++L))/\ns.length<=cap/\cap<=ns.length+L.length/\cap<=9223372036854775807:=h
def zuv (Ly : Lays.n189 P ρ) {fn : Func} {code : Code} (hf : P.funcs[ρ.f 189]? = some fn) (hb : fn.body = some code) (hname : (fn.name == "runtime.NumGoroutine") = false) {b cap : Nat} {ns : List Int} {L : List AV} (ho : st.obj b = some (.cells (ns.map aI ++ L)))
    (hlen:ns.length<4611686018427387904) {R:Ja} (h:R (.tup []) (st.sO b (.cells ((ns.mergeSort λx y=>decide (x<=y)).map aI++L)))):
    ACalls P (ρ.f 189) [.s (.slice (some ⟨b,0,none⟩) ns.length cap)] st R:=by
  refine ACalls.of_calls hf hb hname λOth M w vs sto hr=>?_;obtain⟨v,rfl,hv⟩:=zeh hr;cases hv;have hobj:=(sto.obj b _ ho).1;obtain⟨c,e,fr,h1,h2,h3,h4⟩:=Mr hobj;refine Calls.mono (Any.slices_Sort_int Ly b 0 cap ns w (zbe hobj) (Fi h1) hlen) λe' w' ⟨he,n,os,hw'⟩=>⟨_,he,?_⟩
  subst hw';have hsl:(ns.mergeSort λx y=>decide (x<=y)).length=ns.length:=List.length_mergeSort ns;have hw:=lw (q:=n) h1 (ns.mergeSort λx y=>decide (x<=y)) θ;obtain⟨k1,k2⟩:=Bu sto ho (Gd _ _) hw;have hg:=yhu (putRow (Value.int .i64) (Sort.ahead w n) b 0 (ns.mergeSort λx y=>decide (x<=y)).toArray) os;refine⟨.tup [],_,M,h,wk Reads.nil,?_,k2.trans (hg.chg M)⟩;rw[oz φ]at k1;exact k1.grow hg
def zuu (Ly : Lays.n189 P ρ) {fn : Func} {code : Code} (hf : P.funcs[ρ.f 189]? = some fn) (hb : fn.body = some code) (hname : (fn.name == "runtime.NumGoroutine") = false) {R : Ja} (h : R (.tup []) st) :
    ACalls P (ρ.f 189) [.s (.slice none 0 0)] st R:=by
  refine ACalls.of_calls hf hb hname λOth M w vs sto hr=>?_;obtain⟨v,rfl,hv⟩:=zeh hr;cases hv;refine Calls.mono (Any.slices_Sort_int_none Ly none 0 w) λe' w' ⟨he,hw'⟩=>⟨_,he,?_⟩
  subst hw';exact⟨.tup [],st,M,h,wk Reads.nil,sto,Chg.refl _ _⟩
def zu9 (Ly : Lays2.n25 P ρ) {fn : Func} {code : Code} (hf : P.funcs[ρ.f 25]? = some fn) (hb : fn.body = some code) (hname : (fn.name == "runtime.NumGoroutine") = false) {v : AV} {ns : List Int} (hv : Ints st v ns) (x : Int)
    (hlen:ns.length<4611686018427387904) (hs:ns.Pairwise (·<=·)) {R:Ja} (h:R (.tup [aI (ns.countP (·<x):Nat),.s (.bool (ns.contains x))]) st):
    ACalls P (ρ.f 25) [v,aI x] st R:=by
  refine ACalls.of_calls hf hb hname λOth M w vs sto hr=>?_;obtain⟨u,t,rfl,hu,ht⟩:=ynn hr;cases ht;rcases O3 hv with⟨rfl,rfl⟩|⟨b,cap,L,rfl,ho,hc1,hc2⟩
  · cases hu
    refine Calls.mono (Any.slices_BinarySearch_int_empty Ly none 0 x w) λe' w' ⟨he,hw'⟩=>⟨_,he,?_⟩
    subst hw';refine⟨_,st,M,h,wk (Reads.cons (.s _) (Reads.cons (.s _) Reads.nil)),sto,Chg.refl _ _⟩
  · cases hu
    have hobj:=(sto.obj b _ ho).1;obtain⟨c,e,fr,h1,h2,h3,h4⟩:=Mr hobj;refine Calls.mono (Any.slices_BinarySearch_int Ly b 0 ns.length cap ns x w (Fal _) hlen (λj hj=>?_) δ) λe' w' ⟨he,q,hw'⟩=>⟨_,he,?_⟩
    · rw[Fbg]
      simp only[World.cell?,h1];exact h4 j hj
    · subst hw'
      rw[Fak];have hg:Grow w (w.drewN q):=⟨Fal _,λ_ _=>rfl,rfl,rfl,rfl⟩
      exact⟨_,st,M,h,wk (Reads.cons (.s _) (Reads.cons (.s _) Reads.nil)),sto.grow hg,hg.chg M⟩
def yld (Ly : Lays2.n23 P ρ) {fn : Func} {code : Code} (hf : P.funcs[ρ.f 23]? = some fn) (hb : fn.body = some code) (hname : (fn.name == "runtime.NumGoroutine") = false) {b cap i j : Nat} {ns : List Int} {L : List AV} (ho : st.obj b = some (.cells (ns.map aI ++ L)))
    (hc1:ns.length<=cap) (hc2:cap<=9223372036854775807) (hij:i<=j) (hj:j<=ns.length) {R:Ja}
    (h:R (.s (.slice (some ⟨b,0,none⟩) (ns.take i++ns.drop j).length cap)) (st.sO b (.cells ((ns.take i++ns.drop j).map aI++(List.replicate (j-i) (aI 0)++L))))):
    ACalls P (ρ.f 23) [.s (.slice (some ⟨b,0,none⟩) ns.length cap),aI i,aI j] st R:=by
  refine ACalls.of_calls hf hb hname λOth M w vs sto hr=>?_;obtain⟨u,v,t,rfl,hu,hv,ht⟩:=lk hr;cases hu;cases hv;cases ht;have hobj:=(sto.obj b _ ho).1;obtain⟨c,e,fr,h1,h2,h3,h4⟩:=Mr hobj;have hl2:(ns.take i++ns.drop j++List.replicate (j-i) 0).length=ns.length:=δ;have hl1:(ns.take i++ns.drop j).length=ns.length-(j-i):=δ;refine Calls.mono (Any.slices_Delete_int Ly b 0 cap i j ns w (zbe hobj) hc1 hc2 hij hj) λe' w' ⟨he,q,hw'⟩=>⟨_,he,?_⟩
  subst hw';have hw:=lw (q:=q) h1 (ns.take i++ns.drop j++List.replicate (j-i) 0) θ;obtain⟨k1,k2⟩:=Bu sto ho (Gd _ _) hw;rw[<-hl1];refine⟨_,_,M,h,.s _,?_,k2⟩;grind[oz,List.map_replicate]
def yol(Ly:Lays7.n25 P ρ)(x y c:Nat)(hc:c<=1){R:Ja}
    (h:R (.tup [.s (.int .u64 ((x+y+c)%18446744073709551616:Nat)),.s (.int .u64 ((x+y+c)/18446744073709551616:Nat))]) st):
    ACalls P (ρ.f 25) [.s (.int .u64 x),.s (.int .u64 y),.s (.int .u64 c)] st R:=by
  refine ACalls.of_value λOth M w vs sto hr=>?_;obtain⟨u,v,t,rfl,hu,hv,ht⟩:=lk hr;cases hu;cases hv;cases ht;exact⟨_,w,Any7.bits_Add64 Ly x y c hc w,_,st,M,h,wk (Reads.cons (.s _) (Reads.cons (.s _) Reads.nil)),sto,Chg.refl _ _⟩
def Lo{b:Nat}:∀(vs:List Value) (o:Nat) (w:World) (c:Array Value) (e:TypeId) (fr:Nat×Nat),w.heap[b]?=some (.cells c e fr)->o+vs.length<=c.size->Wrote w b o vs (w.setCells b o vs):=by
  intro vs;induction vs with
  |nil=>intro o w c e fr h _;exact⟨rfl,λ_ _=>rfl,λc e fr h=>⟨c,h,φ,rfl⟩,rfl,rfl,rfl⟩
  | cons v vs ih=>
    intro o w c e fr h hl;simp only[Fbz]at hl;have h1:(w.setCell ⟨b,o,none⟩ v).heap[b]?=some (.cells (c.setIfInBounds o v) e fr):=by rw[Sz,if_pos rfl,h];rfl
    have k:=ih (o+1) (w.setCell ⟨b,o,none⟩ v) _ e fr h1 δ;refine⟨by rw[World.setCells,k.size];simp,λb' hb=>by rw[World.setCells,k.other b' hb,Sz,if_neg hb],λc1 e1 fr1 hc1=>?_,by rw[World.setCells,k.tape];rfl,by rw[World.setCells,k.os];rfl,by rw[World.setCells,k.output];rfl⟩;rw[h]at hc1;cases hc1;obtain⟨c',g1,g2,g3⟩:=k.blk _ _ _ h1;refine⟨c',g1,?_,δ⟩;rw[g2,Fd7];have hlt:o<c.toList.length:=δ;have hA:(c.toList.take o).length=o:=δ;rw[List.set_eq_take_append_cons_drop,if_pos hlt];have t1:(c.toList.take o++v::c.toList.drop (o+1)).take (o+1)=c.toList.take o++[v]:=δ;have t2:(c.toList.take o++v::c.toList.drop (o+1)).drop (o+1+vs.length)=c.toList.drop (o+(vs.length+1)):=by rw[List.drop_append,hA,show o+1+vs.length-o=vs.length+1 by omega,Fcm θ,Fc6,List.drop_succ_cons,Fdk];grind
    grind
def yg2 (Ly : Lays2.n21 P ρ) {fn : Func} {code : Code} (hf : P.funcs[ρ.f 21]? = some fn) (hb : fn.body = some code) (hname : (fn.name == "runtime.NumGoroutine") = false) {v : AV} {ns : List Int} (hv : Ints st v ns) {vb : Nat} (x : Int) (i : Nat) (hi : i <= ns.length)
    (hvb:st.obj vb=some (.cells [aI x])) (hne:∀b cap,v=.s (.slice (some ⟨b,0,none⟩) ns.length cap)->b≠vb) (hlen:(ns.length+1)*8<=140737488355328) {R:Ja}
    (h:∀b cap L,(Fresh st b\/∃c0,v=.s (.slice (some ⟨b,0,none⟩) ns.length c0))->(ns.take i++x::ns.drop i).length<=cap->cap<=(ns.take i++x::ns.drop i).length+L.length->cap<=9223372036854775807->
      R (.s (.slice (some ⟨b,0,none⟩) (ns.take i++x::ns.drop i).length cap)) (st.sO b (.cells ((ns.take i++x::ns.drop i).map aI++L)))):
    ACalls P (ρ.f 21) [v,aI i,.s (.slice (some ⟨vb,0,none⟩) 1 1)] st R:=by
  refine ACalls.of_calls hf hb hname λOth M w vs sto hr=>?_;obtain⟨u,t,s,rfl,hu,ht,hs⟩:=lk hr;cases ht;cases hs;have hvo:=(sto.obj vb _ hvb).1;obtain⟨cv,ev,frv,v1,v2,v3,v4⟩:=Mr (ns:=[x]) (L:=[]) (show CellsRel w _ ([x].map aI++[]) vb from hvo);have hvs:∀j v,([vI x]:List Value)[j]?=some v->w.cell? ⟨vb,0+j,none⟩=some v:=by grind[World.cell?]
  have h1v:∀v∈([vI x]:List Value),v.oneCell'=true:=by intro v hv;simp at hv;subst hv;rfl
  have hl':(ns.take i++x::ns.drop i).length=ns.length+1:=δ;have hcut:∀(w:World) (need old:Nat) (e:TypeId),need<=140737488355328->need<=grownCap w need old e/\grownCap w need old e<=9223372036854775807:=by intro w need old e hn;unfold grownCap;simp only[Question.cut];have:=Nat.mod_lt (w.tape w.drawn (.appendCap need old e)) (show 0<2^63-need by omega);omega
  rcases O3 hv with⟨rfl,rfl⟩|⟨b,cap,L,rfl,ho,hc1,hc2,hc3⟩
  · cases hu
    simp only[List.length_nil,Nat.le_zero]at hi;subst hi;refine Calls.mono (Any2.slices_Insert_int_end_grow Ly none 0 0 vb 0 1 1 [] [vI x] w θ (Fal _) θ θ rfl rfl (λ_=>rfl) (λa ha=>by cases ha) hvs h1v) λe' w' ⟨he,hw'⟩=>⟨_,he,?_⟩
    obtain⟨g1,g2⟩:=hcut w (0+1) 0 (ρ.t 3) θ;generalize grownCap w (0+1) 0 (ρ.t 3)=gc at*;subst hw';have gd:Grow w w.drew:=Grow.drew w;obtain⟨f1,f2,f3⟩:=Gh (sto.grow gd) ((([]:List Value)++[vI x]).toArray++Builtin.zeroCells (Value.int .i64 0).cells (gc-(0+1))) (ρ.t 3) (l:=[x].map aI++List.replicate (gc-(0+1)) .any) (by
      rw[Fbc];refine Reads.append (Gd _ [x]) ⟨ψp,λi x y hx hy=>?_⟩;rw[Fbw]at hx;split at hx
      · cases hx;exact .any _
      grind)
    have:=h w.heap.size gc (List.replicate (gc-(0+1)) .any) (.inl f1) δ δ g2;exact⟨_,_,_,this,.s _,f2,(gd.chg M).trans f3⟩
  · cases hu
    have hbv:b≠vb:=hne b cap rfl;have hobj:=(sto.obj b _ ho).1;obtain⟨c,e,fr,h1,h2,h3,h4⟩:=Mr hobj;have cell:∀j,j<c.size->w.cell? ⟨b,0+j,none⟩=c[j]?:=λj hj=>by simp_all[World.cell?]
    have froz:∀o,w.frozen? ⟨b,o,none⟩=false:=λo=>by grind[World.frozen?]
    have hcs:∀j v,(ns.map vI)[j]?=some v->w.cell? ⟨b,0+j,none⟩=some v:=δ;have h1c:∀v∈ns.map vI,v.oneCell'=true:=by intro v hv;obtain⟨n,_,rfl⟩:=Fag.1 hv;rfl
    by_cases hroom:ns.length+1<=cap
    · obtain⟨L0,hL⟩:∃L0,L=L0:=⟨_,rfl⟩
      by_cases hin:i=ns.length
      · subst hin
        refine Calls.mono (Any2.slices_Insert_int_end_room Ly b 0 ns.length cap vb 0 1 1 [vI x] w θ hroom hc3 rfl (λj hj=>?_) (λj hj=>froz _) hvs h1v) λe' w' ⟨he,hw'⟩=>⟨_,he,?_⟩
        · grind
        · subst hw'
          rw[Fbg];have hw:=Lo [vI x] ns.length w c e fr h1 δ;obtain⟨k1,k2⟩:=Bu sto ho (Gd _ [x]) hw;rw[Dk φ]at k1;have e2:(ns.take ns.length++x::ns.drop ns.length).map aI=ns.map aI++[x].map aI:=φ;have:=h b cap (L.drop 1) (.inr ⟨cap,rfl⟩) θ δ hc3;rw[hl',e2]at this;exact⟨_,_,M,this,.s _,k1,k2⟩
      · have hsz:∀j,j<ns.length+1->(w.cell? ⟨b,0+j,none⟩).isSome=true:=λj hj=>by grind
        refine Calls.mono (Any2.slices_Insert_int_shift Ly b 0 ns.length cap i vb 0 1 1 (ns.map vI) [vI x] w θ θ hroom hc3 (Ne.symm hbv) φ rfl hcs hsz (λj _=>froz _) hvs h1c h1v ev e cv.size c.size
          (by simp[World.shape?,v1]) (by simp[World.shape?,h1]) θ ?_ ?_) λe' w' ⟨he,hw'⟩=>⟨_,he,?_⟩
        · grind[World.frozen?]
        · grind[World.frozen?]
        · subst hw'
          rw[Fbg,Fbg,<-List.map_drop];have gd:Grow w w.drew:=Grow.drew w;have hw1:=Lo ((ns.drop i).map vI) (i+1) w.drew c e fr h1 δ;obtain⟨k1,k2⟩:=Bu (sto.grow gd) ho (Gd _ _) hw1;obtain⟨c',m1,_,m2⟩:=hw1.blk c e fr h1;have hw2:=Lo [vI x] i _ c' e fr m1 δ;obtain⟨k3,k4⟩:=Bu k1 (zd _ _ _) (Gd _ [x]) hw2;rw[yy]at k3;have e1:zv (zv (ns.map aI++L) (i+1) ((ns.drop i).map aI)) i ([x].map aI)=(ns.take i++x::ns.drop i).map aI++L.drop 1:=by
            have hL1:1<=L.length:=θ;cases L with
            |nil=>grind
            | cons y L=>
              have q1:ns.map aI++y::L=(ns.map aI++[y]).take (i+1)++((ns.map aI++[y]).drop (i+1)++L):=by grind[List.take_append_drop]
              have q2:((ns.map aI++[y]).take (i+1)).length=i+1:=δ;grind[Dk,List.map_take,List.take_succ_eq_append_getElem]
          rw[e1]at k3;have:=h b cap (L.drop 1) (.inr ⟨cap,rfl⟩) θ (by rw[hl'];simp;omega) hc3;rw[hl']at this;exact⟨_,_,M,this,.s _,k3,((gd.chg M).trans k2).trans k4⟩
    · obtain⟨g1,g2⟩:=hcut w (ns.length+1) cap (ρ.t 3) θ
      by_cases hin:i=ns.length
      · subst hin
        refine Calls.mono (Any2.slices_Insert_int_end_grow Ly (some ⟨b,0,none⟩) ns.length cap vb 0 1 1 (ns.map vI) [vI x] w θ hc1 θ hlen φ rfl (λhh=>by cases hh) (λa ha j v hj=>?_) hvs h1v) λe' w' ⟨he,hw'⟩=>⟨_,he,?_⟩
        · cases ha;rw[vw];exact hcs j v hj
        · generalize grownCap w (ns.length+1) cap (ρ.t 3)=gc at*
          subst hw';have gd:Grow w w.drew:=Grow.drew w;obtain⟨f1,f2,f3⟩:=Gh (sto.grow gd) ((ns.map vI++[vI x]).toArray++Builtin.zeroCells (Value.int .i64 0).cells (gc-(ns.length+1))) (ρ.t 3) (l:=(ns++[x]).map aI++List.replicate (gc-(ns.length+1)) .any) (by
            rw[Fbc];refine Reads.append ?_ ⟨ψp,λi x y hx hy=>?_⟩
            · have:=Gd (w:=w.drew) (λb o=>M b o\/Oth b o) (ns++[x])
              rw[Fa8 (f:=vI)]at this;exact this
            · rw[Fbw]at hx
              split at hx
              · cases hx;exact .any _
              · cases hx)
          have e2:ns.take ns.length++x::ns.drop ns.length=ns++[x]:=φ;rw[e2]at h;have:=h w.heap.size gc (List.replicate (gc-(ns.length+1)) .any) (.inl f1) (by simpa using g1) χ g2;rw[Fae]at this;exact⟨_,_,_,this,.s _,f2,(gd.chg M).trans f3⟩
      · refine Calls.mono (Any2.slices_Insert_int_grow Ly b 0 ns.length cap i vb 0 1 1 (ns.map vI) [vI x] w θ θ hc1 θ hlen φ rfl hcs hvs h1c h1v) λe' w' ⟨he,hw'⟩=>⟨_,he,?_⟩
        generalize grownCap w (ns.length+1) cap (ρ.t 3)=gc at*;subst hw';rw[<-List.map_take,<-List.map_drop];obtain⟨f1,f2,f3⟩:=Gh sto (((ns.take i).map vI).toArray++Builtin.zeroCells (Value.int .i64 0).cells (ns.length+1-i)++Builtin.zeroCells (Value.int .i64 0).cells (gc-(ns.length+1))) (ρ.t 3) (l:=(ns.take i).map aI++List.replicate (ns.length+1-i+(gc-(ns.length+1))) .any) (by
          rw[Array.append_assoc,Fbc];refine Reads.append (Gd _ _) ⟨ψp,λi x y hx hy=>?_⟩;rw[Fbw]at hx;split at hx
          · cases hx;exact .any _
          · cases hx)
        generalize hArr:(((ns.take i).map vI).toArray++Builtin.zeroCells (Value.int .i64 0).cells (ns.length+1-i)++Builtin.zeroCells (Value.int .i64 0).cells (gc-(ns.length+1)))=Arr at*;have hAs:Arr.size=gc:=by rw[<-hArr];simp[Builtin.zeroCells,Value.cells];omega
        have hb1:(w.alloc (.cells Arr (ρ.t 3))).drew.heap[w.heap.size]?=some (.cells Arr (ρ.t 3) (0,0)):=Iq w _;have gd1:Grow (w.alloc (.cells Arr (ρ.t 3))) (w.alloc (.cells Arr (ρ.t 3))).drew:=Grow.drew _;have hw1:=Lo [vI x] i _ _ _ _ hb1 χ;obtain⟨k1,k2⟩:=Bu (f2.grow gd1) (zd _ _ _) (Gd _ [x]) hw1;obtain⟨c',m1,_,m2⟩:=hw1.blk _ _ _ hb1;have gd2:Grow ((w.alloc (.cells Arr (ρ.t 3))).drew.setCells w.heap.size i [vI x]) ((w.alloc (.cells Arr (ρ.t 3))).drew.setCells w.heap.size i [vI x]).drew:=Grow.drew _;have hw2:=Lo ((ns.drop i).map vI) (i+1) ((w.alloc (.cells Arr (ρ.t 3))).drew.setCells w.heap.size i [vI x]).drew c' _ _ m1 χ;obtain⟨k3,k4⟩:=Bu (k1.grow gd2) (zd _ _ _) (Gd _ _) hw2;rw[yy,yy]at k3;have e1:zv (zv ((ns.take i).map aI++List.replicate (ns.length+1-i+(gc-(ns.length+1))) .any) i ([x].map aI)) (i+1) ((ns.drop i).map aI)=(ns.take i++x::ns.drop i).map aI++List.replicate (gc-(ns.length+1)) .any:=by rw[Dk χ,Dk χ,List.drop_replicate,List.drop_replicate];have q:ns.length+1-i+(gc-(ns.length+1))-([x].map aI).length-((ns.drop i).map aI).length=gc-(ns.length+1):=χ;rw[q];simp
        rw[e1]at k3;have:=h w.heap.size gc (List.replicate (gc-(ns.length+1)) .any) (.inl f1) θ (by rw[hl'];simp;omega) g2;rw[hl']at this;exact⟨_,_,_,this,.s _,k3,((((f3.trans (gd1.chg _)).trans k2).trans (gd2.chg _)).trans k4)⟩
end
section
variable {a g:Store} {b j:Nat} {x id:Int}
theorem yd(a g:Store)(b:Nat)(x:AObj):(a.un g).sO b x=a.un (g.sO b x):=by unfold Store.un Store.sO;grind
theorem Bc(a:Store):a.un Store.empty=a:=ξ
def yk5(a:Store):zk a Store.empty:=λb _ h=>h.elim (λh=>h rfl) λh=>h rfl
def fresh_un(h:Fresh (a.un g) b):Fresh a b/\Fresh g b:=by grind[fresh_iff,un_has]
theorem has_setObj_iff{i:Nat}{x:AObj}:(g.sO b x).has i↔i=b\/g.has i:=by grind[Store.has,zd,q9,Store.sO]
def disj_setR{x:AObj}(h:zk a g)(hb:Fresh a b):zk a (g.sO b x):=by
 intro i hi hg;rcases has_setObj_iff.1 hg with rfl|hg
 ·exact(fresh_iff.1 hb) hi
 ·exact h i hi hg
theorem M6{x y:AObj}(h:zk a g)(hb:g.obj b=some y):zk a (g.sO b x):=by
 intro i hi hg;rcases has_setObj_iff.1 hg with rfl|hg
 ·exact h i hi (xf hb)
 ·exact h i hi hg
def yc(p:Vc):Int×Int:=(nrm p.1/131072,nrm p.2/131072)
abbrev Ent:=Int×Vc
def Aj(e:Ent):AV×AV:=(int e.1,.agg (zu e.2))
structure Grp where
 x:Int
 y:Int
 ns:List Int
 b:Nat
 cap:Nat
 L:List AV
def Grp.key(g:Grp):Int×Int:=(g.x,g.y)
def Ai(g:Grp):AV×AV:=(.agg [int g.x,int g.y],.s (.slice (some ⟨g.b,0,none⟩) g.ns.length g.cap))
def Grp.fits(g:Grp):Prop:=g.ns.length<=g.cap/\g.cap<=g.ns.length+g.L.length/\g.cap<=9223372036854775807
structure CellsAt(a:Store)(p ma mi:Nat)(l:List Ent)(bs1:List Nat)(c1:Nat)(G:List Grp)(bs2:List Nat)(c2:Nat):Prop where
 hp:a.obj p=some (.cells [.s (.map (some ma)),.s (.map (some mi))])
 ha:a.obj ma=some (.map (l.map Aj) bs1 c1)
 hi:a.obj mi=some (.map (G.map Ai) bs2 c2)
 ne:ma≠mi
 hg:∀g∈G,a.obj g.b=some (.cells (g.ns.map aI++g.L))/\g.fits/\g.b≠p
 nd:(G.map (·.b)).Nodup
structure Inv(l:List Ent)(G:List Grp):Prop where
 n1:(l.map (·.1)).Nodup
 n2:(G.map (·.key)).Nodup
 s:∀g∈G,g.ns.Pairwise (·<·)/\g.ns≠[]
 m1:∀g∈G,∀id,id∈g.ns↔∃e∈l,e.1=id/\yc e.2=g.key
 m2:∀e∈l,∃g∈G,g.key=yc e.2
def vx(a:Store)(p:Nat)(l:List Ent):Prop:=∃ma mi bs1 c1 G bs2 c2,CellsAt a p ma mi l bs1 c1 G bs2 c2/\Inv l G
def zc3(x:Int):∀{ns:List Int},ns.Pairwise (·<·)->ns.take (ns.countP (·<x))=ns.filter (·<x)/\ns.drop (ns.countP (·<x))=ns.filter (x<=·):=by
 intro ns;induction ns with
 |nil=>simp
 |cons a ns ih=>
  intro h;obtain⟨h1,h2⟩:=Fc2.1 h;grind
def ylq(x:Int)(ns:List Int):ns.countP (·<x)<=ns.length:=List.countP_le_length
def yg4{ns:List Int}(h:ns.Pairwise (·<·))(hx:x∉ns):
  (ns.take (ns.countP (·<x))++x::ns.drop (ns.countP (·<x))).Pairwise (·<·)/\∀y,y∈ns.take (ns.countP (·<x))++x::ns.drop (ns.countP (·<x))↔y=x\/y∈ns:=by
 obtain⟨h1,h2⟩:=zc3 x h;rw[h1,h2];refine⟨?_,λy=>?_⟩
 ·rw[List.pairwise_append,Fc2];refine⟨h.filter _,⟨λy hy=>?_,h.filter _⟩,λa ha b hb=>?_⟩
  ·have h3:=Fb4.1 hy;have h4:x<=y:=by simpa using h3.2
   have h5:y≠x:=λe=>hx (e▸h3.1);omega
  ·have h3:=(Fb4.1 ha).2;have h3:a<x:=by simpa using h3
   rcases Fa7.1 hb with rfl|hb
   ·exact h3
   ·have h4:x<=b:=by simpa using(Fb4.1 hb).2
    omega
 grind
def yle{ns:List Int}(h:ns.Pairwise (·<·))(hx:x∈ns):
  ns.countP (·<x)+1<=ns.length/\(ns.take (ns.countP (·<x))++ns.drop (ns.countP (·<x)+1)).Pairwise (·<·)/\∀y,y∈ns.take (ns.countP (·<x))++ns.drop (ns.countP (·<x)+1)↔y≠x/\y∈ns:=by
 obtain⟨h1,h2⟩:=zc3 x h;have hsub:(ns.take (ns.countP (·<x))++ns.drop (ns.countP (·<x)+1)).Sublist ns:=by grind[List.take_append_drop]
 have h3:ns.filter (x<=·)=x::ns.filter (x<·):=by
  clear h1 h2 hsub;induction ns with
  |nil=>cases hx
  |cons a ns ih=>
   obtain⟨k1,k2⟩:=Fc2.1 h;rcases Fa7.1 hx with rfl|hx
   ·grind[List.filter_congr]
   grind
 have h4:ns.drop (ns.countP (·<x)+1)=ns.filter (x<·):=by rw[<-Fdk,h2,h3];rfl
 grind
theorem Fg{α β:Type}{f:α->β}:∀{G:List α} {i j:Nat} {a b:α},(G.map f).Nodup->G[i]?=some a->G[j]?=some b->f a=f b->i=j:=by
 intro G i j a b hn hi hj h;have hi':(G.map f)[i]?=some (f a):=by simp[hi]
 have hj':(G.map f)[j]?=some (f b):=by simp[hj]
 grind[List.getElem?_inj]
def Fh{α β:Type}{f:α->β}{G:List α}{g g' g1:α}(hn:(G.map f).Nodup)(hj:G[j]?=some g):g1∈G.set j g'↔g1=g'\/(g1∈G/\f g1≠f g):=by
 have hlt:=(Fax.1 hj).1;constructor
 ·intro h;obtain⟨i,hi⟩:=Fa6.1 h;by_cases hij:j=i
  ·grind
  grind[Fg]
 ·rintro(rfl|⟨h1,h2⟩)
  ·grind[List.getElem?_set_self]
  ·obtain⟨i,hi⟩:=Fa6.1 h1;have hij:j≠i:=λe=>by grind
   exact Fa6.2 ⟨i,δ⟩
def Sk{α β:Type}{f:α->β}{G:List α}{g g1:α}(hn:(G.map f).Nodup)(hj:G[j]?=some g):g1∈G.eraseIdx j↔(g1∈G/\f g1≠f g):=by
 constructor
 ·grind[List.mem_iff_getElem?,Fg]
 ·rintro⟨h1,h2⟩;obtain⟨i,hi⟩:=Fa6.1 h1;have hij:i≠j:=λe=>by grind
  refine Fa6.2 ?_;by_cases hlt:i<j
  ·exact⟨i,δ⟩
  ·refine⟨i-1,?_⟩;grind
theorem fa{α β:Type}(f:α->β){G:List α}{g g':α}(hj:G[j]?=some g)(h:f g'=f g):(G.set j g').map f=G.map f:=by rw[List.map_set,h];apply Fcd;grind
def ygr{G:List Grp}(hn:(G.map (·.key)).Nodup){g g1:Grp}(h:g∈G)(h1:g1∈G)(hk:g1.key=g.key):g1=g:=by grind[List.mem_iff_getElem?,Fg]
theorem O8{l:List Ent}(hn:(l.map (·.1)).Nodup){e e1:Ent}(h:e∈l)(h1:e1∈l)(hk:e1.1=e.1):e1=e:=by obtain⟨i,hi⟩:=Fa6.1 h;obtain⟨j,hj⟩:=Fa6.1 h1;have:=Fg (f:=λ(e:Ent)=>e.1) hn hj hi hk;grind
def qx(l:List Ent)(id:Int):List Ent:=l.filter λe=>e.1 != id
theorem mem_dropId{l:List Ent}{e:Ent}:e∈qx l id↔e∈l/\e.1≠id:=by simp[qx]
def zcu{l:List Ent}(h:(l.map (·.1)).Nodup):((qx l id).map (·.1)).Nodup:=h.sublist ((List.filter_sublist).map _)
def ygw{l:List Ent}{G:List Grp}(h:Inv l G){e:Ent}(he:e∈l){g:Grp}(hj:G[j]?=some g)(hk:g.key=yc e.2){ns':List Int}(hs:ns'.Pairwise (·<·))(hm:∀y,y∈ns'↔y≠e.1/\y∈g.ns):
  (ns'=[]->Inv (qx l e.1) (G.eraseIdx j))/\(ns'≠[]->∀g':Grp,g'.key=g.key->g'.ns=ns'->Inv (qx l e.1) (G.set j g')):=by
 have hgm:=Fa3 hj;have key:∀g1∈G,g1.key≠g.key->∀id,id∈g1.ns↔∃e1∈qx l e.1,e1.1=id/\yc e1.2=g1.key:=by
  intro g1 h1 h2 id;rw[h.m1 g1 h1 id];constructor
  ·rintro⟨e1,h3,h4,h5⟩;refine⟨e1,mem_dropId.2 ⟨h3,λh6=>h2 ?_⟩,h4,h5⟩;rw[<-h5,O8 h.n1 he h3 h6,hk]
  grind[mem_dropId]
 refine⟨λhn=>?_,λhn g' hk' hns=>?_⟩
 ·refine⟨zcu h.n1,h.n2.sublist ((List.eraseIdx_sublist ..).map _),λg1 h1=>?_,λg1 h1=>?_,λe1 h1=>?_⟩
  ·exact h.s g1 ((Sk (f:=Grp.key) h.n2 hj).1 h1).1
  ·obtain⟨h2,h3⟩:=(Sk (f:=Grp.key) h.n2 hj).1 h1;grind
  ·obtain⟨h2,h3⟩:=mem_dropId.1 h1;obtain⟨g1,h4,h5⟩:=h.m2 e1 h2;refine⟨g1,(Sk (f:=Grp.key) h.n2 hj).2 ⟨h4,λh6=>?_⟩,h5⟩;have h7:e1.1∈g.ns:=(h.m1 g hgm e1.1).2 ⟨e1,h2,rfl,δ⟩;grind
 ·refine⟨zcu h.n1,by rw[fa Grp.key hj hk'];exact h.n2,λg1 h1=>?_,λg1 h1=>?_,λe1 h1=>?_⟩
  ·rcases(Fh (f:=Grp.key) h.n2 hj).1 h1 with rfl|⟨h2,_⟩
   ·grind
   ·exact h.s g1 h2
  ·rcases(Fh (f:=Grp.key) h.n2 hj).1 h1 with rfl|⟨h2,h3⟩
   ·intro id;rw[hns,hm,h.m1 g hgm,hk'];constructor
    ·rintro⟨h4,e1,h5,h6,h7⟩;grind[mem_dropId]
    grind[mem_dropId]
   grind
  ·obtain⟨h2,h3⟩:=mem_dropId.1 h1;obtain⟨g1,h4,h5⟩:=h.m2 e1 h2;by_cases h6:g1.key=g.key
   ·exact⟨g',(Fh (f:=Grp.key) h.n2 hj).2 (.inl rfl),δ⟩
   ·exact⟨g1,(Fh (f:=Grp.key) h.n2 hj).2 (.inr ⟨h4,h6⟩),h5⟩
def ygx{l:List Ent}{G:List Grp}(h:Inv l G){e:Ent}(he:∀e1∈l,e1.1≠e.1):
  (∀j g g',G[j]?=some g->g.key=yc e.2->g'.key=g.key->g'.ns.Pairwise (·<·)->(∀y,y∈g'.ns↔y=e.1\/y∈g.ns)->Inv (l++[e]) (G.set j g'))∧
  ((∀g∈G,g.key≠yc e.2)->∀g',g'.key=yc e.2->g'.ns=[e.1]->Inv (l++[e]) (G++[g'])):=by
 have n1:((l++[e]).map (·.1)).Nodup:=by rw[Fa8,Fdf];refine⟨h.n1,φ,λa ha b hb=>?_⟩;grind
 have key:∀g1∈G,g1.key≠yc e.2->∀id,id∈g1.ns↔∃e1∈l++[e],e1.1=id/\yc e1.2=g1.key:=by
  intro g1 h1 h2 id;rw[h.m1 g1 h1 id];constructor
  ·simp_all
  grind
 refine⟨λj g g' hj hk hk' hs hm=>?_,λhno g' hk' hns=>?_⟩
 ·have hgm:=Fa3 hj;refine⟨n1,by rw[fa Grp.key hj hk'];exact h.n2,λg1 h1=>?_,λg1 h1=>?_,λe1 h1=>?_⟩
  ·rcases(Fh (f:=Grp.key) h.n2 hj).1 h1 with rfl|⟨h2,_⟩
   ·grind
   ·exact h.s g1 h2
  ·rcases(Fh (f:=Grp.key) h.n2 hj).1 h1 with rfl|⟨h2,h3⟩
   ·intro id;rw[hm,h.m1 g hgm,hk'];constructor
    ·rintro(rfl|⟨e1,h5,h6,h7⟩)
     ·grind
     grind
    grind
   grind
  ·rcases Fat.1 h1 with h1|h1
   ·obtain⟨g1,h4,h5⟩:=h.m2 e1 h1;by_cases h6:g1.key=g.key
    ·exact⟨g',(Fh (f:=Grp.key) h.n2 hj).2 (.inl rfl),δ⟩
    ·exact⟨g1,(Fh (f:=Grp.key) h.n2 hj).2 (.inr ⟨h4,h6⟩),h5⟩
   ·simp at h1;subst h1;exact⟨g',(Fh (f:=Grp.key) h.n2 hj).2 (.inl rfl),δ⟩
 ·refine⟨n1,?_,λg1 h1=>?_,λg1 h1=>?_,λe1 h1=>?_⟩
  ·rw[Fa8,Fdf];refine⟨h.n2,φ,λa ha b hb=>?_⟩;grind
  ·rcases Fat.1 h1 with h1|h1
   ·exact h.s g1 h1
   grind
  ·rcases Fat.1 h1 with h1|h1
   ·grind
   ·simp at h1;subst h1;intro id;rw[hns,hk'];constructor
    ·grind
    ·rintro⟨e1,h2,h3,h4⟩;rcases Fat.1 h2 with h2|h2
     ·obtain⟨g2,h5,h6⟩:=h.m2 e1 h2;grind
     grind
  ·rcases Fat.1 h1 with h1|h1
   ·obtain⟨g1,h4,h5⟩:=h.m2 e1 h1;grind
   grind
end
def qA(id:Int)(e:AV×AV):Bool:=match e.1 with|.s (.int _ n)=>id==n|_=>false
def qG(x y:Int)(e:AV×AV):Bool:=match e.1 with|.agg [.s (.int _ a),.s (.int _ b)]=>(x==a&&(y==b&&true))|_=>false
def Az(id:Int)(e:Ent):Bool:=id==e.1
def Gt(k:Int×Int)(g:Grp):Bool:=(k.1==g.x&&(k.2==g.y&&true))
theorem atKey_iff{k:Int×Int}{g:Grp}:Gt k g=true↔g.key=k:=by grind[Gt,Grp.key]
theorem zb8(l:List Ent)(id:Int):(l.map Aj).find? (qA id)=(l.find? (Az id)).map Aj:=by rw[List.find?_map];rfl
theorem Vn(l:List Ent)(id:Int):(l.map Aj).findIdx? (qA id)=l.findIdx? (Az id):=by rw[Feh];rfl
theorem Pd(G:List Grp)(k:Int×Int):(G.map Ai).find? (qG k.1 k.2)=(G.find? (Gt k)).map Ai:=by rw[List.find?_map];rfl
theorem Vm(G:List Grp)(k:Int×Int):(G.map Ai).findIdx? (qG k.1 k.2)=G.findIdx? (Gt k):=by rw[Feh];rfl
def Vl{α:Type}{q:α->Bool}{l:List α}{e:α}(h:l.find? q=some e):e∈l/\q e=true:=⟨Feb h,List.find?_some h⟩
def yjs{α:Type}{q:α->Bool}{l:List α}{i:Nat}(h:l.findIdx? q=some i):∃e,l[i]?=some e/\q e=true/\l.find? q=some e:=by grind[List.findIdx?_eq_some_iff_getElem,zb3]
def gm{α:Type}{q:α->Bool}{l:List α}{e:α}(h:l.find? q=some e):∃i,l.findIdx? q=some i/\l[i]?=some e:=by
 cases hi:l.findIdx? q with
 |none=>grind
 |some i=>
  obtain⟨e',h1,_,h3⟩:=yjs hi;grind
theorem yj3{l:List Ent}(hn:(l.map (·.1)).Nodup){i:Nat}{e:Ent}(hi:l[i]?=some e):l.eraseIdx i=qx l e.1:=by
 induction l generalizing i with
 |nil=>rfl
 |cons a l ih=>
  rw[Fcc,List.nodup_cons]at hn;grind[List.eraseIdx_cons_zero,qx,List.filter_eq_self]
theorem ykj{l:List Ent}{id:Int}(h:l.find? (Az id)=none):qx l id=l:=by grind[qx,List.filter_eq_self,Az]
section
variable {a:Store} {p ma mi:Nat} {l:List Ent} {bs1:List Nat} {c1:Nat} {G:List Grp} {bs2:List Nat} {c2:Nat}
def CellsAt.p_ne(h:CellsAt a p ma mi l bs1 c1 G bs2 c2):ma≠p/\mi≠p:=by
 refine⟨λe=>?_,λe=>?_⟩
 ·have:=h.ha;rw[e,h.hp]at this;cases this
 ·have:=h.hi;rw[e,h.hp]at this;cases this
theorem CellsAt.g_ne(h:CellsAt a p ma mi l bs1 c1 G bs2 c2){g:Grp}(hg:g∈G):g.b≠ma/\g.b≠mi/\g.b≠p:=by
 obtain⟨h1,h2,h3⟩:=h.hg g hg;refine⟨λe=>?_,λe=>?_,h3⟩
 ·have:=h.ha;grind
 ·have:=h.hi;grind
theorem CellsAt.other(h:CellsAt a p ma mi l bs1 c1 G bs2 c2){b:Nat}(x:AObj)(hp:b≠p)(hma:b≠ma)(hmi:b≠mi)(hg:∀g∈G,b≠g.b):CellsAt (a.sO b x) p ma mi l bs1 c1 G bs2 c2:=
 ⟨by rw[zj (Ne.symm hp)];exact h.hp,by rw[zj (Ne.symm hma)];exact h.ha,by rw[zj (Ne.symm hmi)];exact h.hi,h.ne,
  λg hg'=>by rw[zj (Ne.symm (hg g hg'))];exact h.hg g hg',h.nd⟩
def CellsAt.fresh(h:CellsAt a p ma mi l bs1 c1 G bs2 c2){b:Nat}(x:AObj)(hb:Fresh a b):CellsAt (a.sO b x) p ma mi l bs1 c1 G bs2 c2:=
 h.other x (hb.ne_obj h.hp) (hb.ne_obj h.ha) (hb.ne_obj h.hi) λg hg=>hb.ne_obj (h.hg g hg).1
def CellsAt.setA(h:CellsAt a p ma mi l bs1 c1 G bs2 c2)(l':List Ent)(bs:List Nat)(c:Nat):CellsAt (a.sO ma (.map (l'.map Aj) bs c)) p ma mi l' bs c G bs2 c2:=
 ⟨by rw[zj (Ne.symm h.p_ne.1)];exact h.hp,zd _ _ _,by rw[zj (Ne.symm h.ne)];exact h.hi,h.ne,
  λg hg=>by rw[zj (h.g_ne hg).1];exact h.hg g hg,h.nd⟩
theorem CellsAt.setI(h:CellsAt a p ma mi l bs1 c1 G bs2 c2){G':List Grp}(bs:List Nat)(c:Nat)(hg:∀g∈G',a.obj g.b=some (.cells (g.ns.map aI++g.L))/\g.fits/\g.b≠p)(nd:(G'.map (·.b)).Nodup):
  CellsAt (a.sO mi (.map (G'.map Ai) bs c)) p ma mi l bs1 c1 G' bs c:=
 ⟨by rw[zj (Ne.symm h.p_ne.2)];exact h.hp,by rw[zj h.ne];exact h.ha,zd _ _ _,h.ne,
  λg hg'=>by
   obtain⟨h1,h2,h3⟩:=hg g hg';have:g.b≠mi:=λe=>by have:=h.hi;grind
   grind[zj],nd⟩
structure CellsMid(a:Store)(p ma mi:Nat)(l:List Ent)(bs1:List Nat)(c1:Nat)(G:List Grp)(bs2:List Nat)(c2:Nat)(b:Nat):Prop where
 hp:a.obj p=some (.cells [.s (.map (some ma)),.s (.map (some mi))])
 ha:a.obj ma=some (.map (l.map Aj) bs1 c1)
 hi:a.obj mi=some (.map (G.map Ai) bs2 c2)
 ne:ma≠mi
 hg:∀g∈G,g.b≠b->a.obj g.b=some (.cells (g.ns.map aI++g.L))/\g.fits/\g.b≠p
 nd:(G.map (·.b)).Nodup
def CellsAt.mid(h:CellsAt a p ma mi l bs1 c1 G bs2 c2){b:Nat}(x:AObj)(hp:b≠p)(hma:b≠ma)(hmi:b≠mi):CellsMid (a.sO b x) p ma mi l bs1 c1 G bs2 c2 b:=
 ⟨by rw[zj (Ne.symm hp)];exact h.hp,by rw[zj (Ne.symm hma)];exact h.ha,by rw[zj (Ne.symm hmi)];exact h.hi,h.ne,
  λg hg' hne=>by rw[zj hne];exact h.hg g hg',h.nd⟩
theorem CellsMid.setI{b:Nat}(h:CellsMid a p ma mi l bs1 c1 G bs2 c2 b){G':List Grp}(bs:List Nat)(c:Nat)(hg:∀g∈G',(g∈G/\g.b≠b)\/(a.obj g.b=some (.cells (g.ns.map aI++g.L))/\g.fits/\g.b≠p))(nd:(G'.map (·.b)).Nodup):
  CellsAt (a.sO mi (.map (G'.map Ai) bs c)) p ma mi l bs1 c1 G' bs c:=by
 have hpi:mi≠p:=λe=>by have:=h.hi;rw[e,h.hp]at this;cases this
 refine⟨by rw[zj (Ne.symm hpi)];exact h.hp,by rw[zj h.ne];exact h.ha,zd _ _ _,h.ne,λg hg'=>?_,nd⟩;have key:a.obj g.b=some (.cells (g.ns.map aI++g.L))/\g.fits/\g.b≠p:=by grind[hg]
 obtain⟨h1,h2,h3⟩:=key;have:g.b≠mi:=λe=>by have:=h.hi;grind
 grind[zj]
end
def ydt{a:Store}{p ma mi:Nat}{l:List Ent}{bs1:List Nat}{c1:Nat}{G:List Grp}{bs2:List Nat}{c2:Nat}(ha:CellsAt a p ma mi l bs1 c1 G bs2 c2)(hi:Inv l G){id:Int}{pos:Vc}(hno:∀e∈l,e.1≠id):
  ∃cur ns,Fj false (.s (.slice none 0 0)) ((G.find? (Gt (yc pos))).map Ai)=cur/\Ints a cur ns/\ns.Pairwise (·<·)/\(ns=[]\/∃g∈G,ns=g.ns)/\(∀b cap,cur=.s (.slice (some ⟨b,0,none⟩) ns.length cap)->a.obj b≠none)∧
   ∀vb lit b cap L,Fresh a vb->(Fresh (a.sO vb lit) b\/∃c0,cur=.s (.slice (some ⟨b,0,none⟩) ns.length c0))->
    (ns.take (ns.countP (·<id))++id::ns.drop (ns.countP (·<id))).length<=cap->cap<=(ns.take (ns.countP (·<id))++id::ns.drop (ns.countP (·<id))).length+L.length->cap<=9223372036854775807->
    ((a.sO vb lit).sO b (.cells ((ns.take (ns.countP (·<id))++id::ns.drop (ns.countP (·<id))).map aI++L))).obj mi=some (.map (G.map Ai) bs2 c2)∧
    ((a.sO vb lit).sO b (.cells ((ns.take (ns.countP (·<id))++id::ns.drop (ns.countP (·<id))).map aI++L))).obj p=some (.cells [.s (.map (some ma)),.s (.map (some mi))])∧
    ∃G' bs2' c2',wg (G.map Ai) bs2 c2 (qG (yc pos).1 (yc pos).2) (.agg [int (yc pos).1,int (yc pos).2]) (.s (.slice (some ⟨b,0,none⟩) (ns.take (ns.countP (·<id))++id::ns.drop (ns.countP (·<id))).length cap))=.map (G'.map Ai) bs2' c2'∧
     CellsAt (((a.sO vb lit).sO b (.cells ((ns.take (ns.countP (·<id))++id::ns.drop (ns.countP (·<id))).map aI++L))).sO mi (.map (G'.map Ai) bs2' c2')) p ma mi l bs1 c1 G' bs2' c2'/\Inv (l++[(id,pos)]) G':=by
 obtain⟨w1,w2⟩:=ygx (e:=(id,pos)) hi hno;cases hf:G.find? (Gt (yc pos))with
 |none=>
  refine⟨_,[],rfl,.inl ⟨rfl,rfl⟩,List.Pairwise.nil,.inl rfl,λb cap h=>?_,λvb lit b cap L hvb hb h1 h2 h3=>?_⟩
  ·simp[Fj]at h
  have hb:Fresh (a.sO vb lit) b:=by grind[Fj]
  simp only[List.countP_nil,List.take_nil,List.drop_nil,Fc6]at*;have a1:=ha.fresh lit hvb;have a2:=a1.fresh (.cells ([id].map aI++L)) hb;refine⟨a2.hi,a2.hp,G++[⟨(yc pos).1,(yc pos).2,[id],b,cap,L⟩],bs2++[c2],c2+1,?_,?_,?_⟩
  ·unfold wg;have:G.findIdx? (Gt (yc pos))=none:=by grind
   rw[Vm,this,Fa8];rfl
  ·refine a2.setI _ _ (λg hg=>?_) ?_
   ·rcases Fat.1 hg with hg|hg
    ·exact a2.hg g hg
    ·simp at hg;subst hg;exact⟨zd _ _ _,⟨h1,h2,h3⟩,hb.ne_obj a1.hp⟩
   ·rw[Fa8,Fdf];refine⟨ha.nd,φ,λx hx y hy=>?_⟩;obtain⟨g,hg,rfl⟩:=Fag.1 hx;simp at hy;subst hy;exact Ne.symm (hb.ne_obj (a1.hg g hg).1)
  ·refine w2 (λg hg hk=>?_) _ rfl rfl;grind[atKey_iff]
 |some g=>
  obtain⟨hg,hk⟩:=Vl hf;have hk:=atKey_iff.1 hk;obtain⟨j,hj1,hj2⟩:=gm hf;obtain⟨k1,k2,k3⟩:=ha.hg g hg;obtain⟨s1,s2⟩:=hi.s g hg;have hnin:id∉g.ns:=λh=>by obtain⟨e,he,h1,_⟩:=(hi.m1 g hg id).1 h;grind
  obtain⟨i1,i2⟩:=yg4 s1 hnin;refine⟨_,g.ns,rfl,.inr ⟨g.b,g.cap,g.L,rfl,k1,k2⟩,s1,.inr ⟨g,hg,rfl⟩,λb cap h=>?_,λvb lit b cap L hvb hb h1 h2 h3=>?_⟩
  ·grind[Fj,Ai]
  generalize g.ns.take (g.ns.countP (·<id))++id::g.ns.drop (g.ns.countP (·<id))=ins at*;have a1:=ha.fresh lit hvb;have hbne:b≠p/\b≠ma/\b≠mi/\∀g1∈G,g1≠g->g1.b≠b:=by
   rcases hb with hb|⟨c0,hb⟩
   ·exact⟨hb.ne_obj a1.hp,hb.ne_obj a1.ha,hb.ne_obj a1.hi,λg1 hg1 _=>Ne.symm (hb.ne_obj (a1.hg g1 hg1).1)⟩
   ·have:g.b=b:=by simp[Fj,Ai]at hb;exact hb.1
    subst this;obtain⟨n1,n2,n3⟩:=ha.g_ne hg;refine⟨n3,n1,n2,λg1 hg1 hne he=>hne ?_⟩;obtain⟨i,hi1⟩:=Fa6.1 hg1;have:=Fg (f:=λg:Grp=>g.b) ha.nd hi1 hj2 he;grind
  obtain⟨n3,n1,n2,n4⟩:=hbne;have mid:=a1.mid (.cells (ins.map aI++L)) n3 n1 n2
  let g2:Grp:=⟨g.x,g.y,ins,b,cap,L⟩
  have hmem:∀g1,g1∈G.set j g2->g1=g2\/(g1∈G/\g1≠g):=λg1 h=>by
   rcases(Fh (f:=Grp.key) hi.n2 hj2).1 h with h|⟨h,h'⟩
   ·grind
   grind
  refine⟨mid.hi,mid.hp,G.set j g2,bs2,c2,?_,?_,w1 j g g2 hj2 hk rfl i1 i2⟩
  ·unfold wg;rw[Vm,hj1,List.map_set];simp only
   congr 2
   show _=(AV.agg [int g.x,int g.y],_)
   rw[<-hk];rfl
  ·refine mid.setI _ _ (λg1 h1'=>?_) ?_
   ·rcases hmem g1 h1' with rfl|⟨q1,q2⟩
    ·exact .inr ⟨zd _ _ _,⟨h1,h2,h3⟩,n3⟩
    grind
   ·rw[List.map_set];have hlt:=(Fax.1 hj2).1;unfold List.Nodup;rw[Fcn];intro i1 i2 hl1' hl2 hlt12 he;replace he:=congrArg some he;rw[<-Fac,<-Fac]at he;rw[Fef,Fef]at he;simp only[Fas,Faf]at hl2 he;have nd:=ha.nd;by_cases e1:j=i1
    ·subst e1;rw[if_pos rfl,if_pos hlt,if_neg θ,Far,Fac hl2]at he;simp at he;refine n4 G[i2] (Faa hl2) (λe=>?_) he.symm;have:=Fg (f:=Grp.key) hi.n2 (Fac hl2) hj2 (by rw[e]);omega
    ·by_cases e2:j=i2
     ·subst e2;have hl1:i1<G.length:=θ;rw[if_neg e1,if_pos rfl,if_pos hlt,Far,Fac hl1]at he;simp at he;refine n4 G[i1] (Faa hl1) (λe=>?_) he;have:=Fg (f:=Grp.key) hi.n2 (Fac hl1) hj2 (by rw[e]);omega
     ·have hl1:i1<G.length:=θ;rw[if_neg e1,if_neg e2,Far,Far,Fac hl1,Fac hl2]at he;simp at he;have:=Fg (f:=λg:Grp=>g.b) nd (Fac hl1) (Fac hl2) he;omega
def Ints.fresh{st:Store}{v:AV}{ns:List Int}(h:Ints st v ns){b:Nat}(x:AObj)(hb:Fresh st b):Ints (st.sO b x) v ns:=by
 rcases h with h|⟨b1,cap,L,h1,h2,h3⟩
 ·exact .inl h
 ·exact .inr ⟨b1,cap,L,h1,by rw[zj (Ne.symm (hb.ne_obj h2))];exact h2,h3⟩
def Wg{P:Program}{c:Cfg}{e:TypeId}{ie:TI}(hie:c.I e=some ie)(hsz:ie.size=1)(hby:ie.bytes=8){st:Store}{v:AV}{ns:List Int}(hv:Ints st v ns)(x:Int)(hlen:ns.length<=1000000000000){K:Ja}
  (h:∀b cap L,(Fresh st b\/∃c0,v=.s (.slice (some ⟨b,0,none⟩) ns.length c0))->(ns++[x]).length<=cap->cap<=(ns++[x]).length+L.length->cap<=9223372036854775807->
   K (.s (.slice (some ⟨b,0,none⟩) (ns++[x]).length cap)) (st.sO b (.cells ((ns++[x]).map aI++L)))):appendK P c st e (.av v) (.av (.lst 1 [[aI x]] none)) K:=by
 have hrows:vz ie.size (.av (.lst 1 [[aI x]] none))=some [[aI x]]:=by simp[vz,hsz]
 refine⟨.inr ⟨v,_,rfl,rfl,?_⟩⟩;have hl:(ns++[x]).length=ns.length+1:=φ;rcases hv with⟨rfl,rfl⟩|⟨b,cap,L,rfl,ho,h1,h2,h3⟩
 ·refine zej hie hrows ⟨δ,φ⟩ φ λb' cap' hb hc hc2=>?_;grind
 ·refine Pn hie (cap:=cap) ho δ h1 hrows ⟨δ,δ⟩ (λhc=>?_) λhc b' cap' hb hc1 hc2=>?_
  ·have hc:ns.length+1<=cap:=hc;have e1:zv (ns.map aI++L) (ns.length*ie.size) ([[aI x]]:List (List AV)).flatten=(ns++[x]).map aI++L.drop 1:=by simp_all[Dk]
   have e0:ns.map (λn=>AV.s (.int .i64 n))++L=ns.map aI++L:=rfl;have:=h b cap (L.drop 1) (.inr ⟨cap,rfl⟩) θ δ h3;grind
  ·have hc1:ns.length+1<=cap':=hc1;have e1:(ns.map aI++L).take (ns.length*ie.size)++([[aI x]]:List (List AV)).flatten++List.replicate ((cap'-(ns.length+1))*ie.size) .any=(ns++[x]).map aI++List.replicate (cap'-(ns.length+1)) .any:=by simp_all
   have:=h b' cap' (List.replicate (cap'-(ns.length+1)) .any) (.inl hb) θ δ hc2;rw[hl,<-e1]at this;exact this
structure NearAt(N:Store)(b3 b4 b5 b6 p:Nat)(q:Vc)(r:Int)(v:AV)(acc:List Int):Prop where
 h3:N.obj b3=some (.cells [.s (.pointer (some ⟨p,0,none⟩))])
 h4:N.obj b4=some (.cells (zu q))
 h5:N.obj b5=some (.cells [int r])
 h6:N.obj b6=some (.cells [v])
 hv:Ints N v acc
 n36:b3≠b6
 n46:b4≠b6
 n56:b5≠b6
 nv:∀b n cap,v=.s (.slice (some ⟨b,0,none⟩) n cap)->b≠b3/\b≠b4/\b≠b5/\b≠b6
def NearAt.app{N:Store}{b3 b4 b5 b6 p:Nat}{q:Vc}{r:Int}{v:AV}{acc:List Int}(h:NearAt N b3 b4 b5 b6 p q r v acc){b cap:Nat}{L:List AV}{x:Int}
  (hb:Fresh N b\/∃c0,v=.s (.slice (some ⟨b,0,none⟩) acc.length c0)) (h1:(acc++[x]).length<=cap) (h2:cap<=(acc++[x]).length+L.length) (h3:cap<=9223372036854775807):
  NearAt ((N.sO b (.cells ((acc++[x]).map aI++L))).sO b6 (.cells [.s (.slice (some ⟨b,0,none⟩) (acc++[x]).length cap)])) b3 b4 b5 b6 p q r (.s (.slice (some ⟨b,0,none⟩) (acc++[x]).length cap)) (acc++[x]):=by
 have hne:b≠b3/\b≠b4/\b≠b5/\b≠b6:=by
  rcases hb with hb|⟨c0,hb⟩
  ·exact⟨hb.ne_obj h.h3,hb.ne_obj h.h4,hb.ne_obj h.h5,hb.ne_obj h.h6⟩
  ·exact h.nv b _ _ hb
 obtain⟨n3,n4,n5,n6⟩:=hne;refine⟨?_,?_,?_,zd _ _ _,.inr ⟨b,cap,L,rfl,?_,h1,h2,h3⟩,h.n36,h.n46,h.n56,λb' n c e=>?_⟩
 ·rw[zj h.n36,zj (Ne.symm n3)];exact h.h3
 ·rw[zj h.n46,zj (Ne.symm n4)];exact h.h4
 ·rw[zj h.n56,zj (Ne.symm n5)];exact h.h5
 ·rw[zj n6,zd];rfl
 grind
theorem Ints.un{a g:Store}{v:AV}{ns:List Int}(h:Ints g v ns):Ints (a.un g) v ns:=by
 rcases h with h|⟨b1,cap,L,h1,h2,h3⟩
 ·exact .inl h
 ·exact .inr ⟨b1,cap,L,h1,zg h2,h3⟩
section
variable {P:Program} {c:Cfg} {w:World} {st:Store} {Oth M:BB}
structure Stamps(es:List (AV×AV))(bs:List Nat)(clk:Nat):Prop where
  len:es.length=bs.length
  lt:∀t∈bs,t<clk
  inc:bs.Pairwise (·<·)
def yoc{o:Oper}{args:List AV}{m clk:Nat}{es:List (AV×AV)}{bs:List Nat}(hm:st.obj m=some (.map es bs clk)){R:Ja}(h:Stamps es bs clk->AEff P c o args st R):AEff P c o args st R:=by refine⟨λOth M w ρ hI sto hr=>?_⟩;obtain⟨⟨ms,g1,g2,g3,g4,g5,g6⟩,hM⟩:=sto.obj m _ hm;exact(h ⟨δ,g5,g6⟩).out Oth M w ρ hI sto hr
def yjr{t:Nat}{me:MapEntry}:∀{L:List MapEntry} {i:Nat},(L.map (·.born)).Pairwise (·<·)->L[i]?=some me->me.born=t->L.find? (λe=>e.born==t)=some me:=by
  intro L;induction L with
  |nil=>simp
  | cons a L ih=>
    grind[List.pairwise_cons]
def yoi{o:Oper}{x:Operand}(ho:o.op=.entry x){b m clk since:Nat}{es:List (AV×AV)}{bs seen:List Nat}{i t:Nat}{e:AV×AV}(hb:st.obj b=some (.iter m since (seen++[t]) clk))(hm:st.obj m=some (.map es bs clk))
    (he:es[i]?=some e) (hbi:bs[i]?=some t) {R:Ja} (h:R (.tup [e.1,e.2]) st):AEff P c o [.s (.pointer (some ⟨b,0,none⟩))] st R:=by
  refine⟨λOth M w ρ hI sto hr=>?_⟩;rw[ho]at hr;have hr:Reads w (λb o=>M b o\/Oth b o) [.s (.pointer (some ⟨b,0,none⟩))] [ρ x]:=θy;obtain⟨u,hx0,hx⟩:=Ia hr;simp only[Fcp,and_true]at hx0;rw[<-hx0]at hx;have hx:=VRel.eq_s hx;obtain⟨⟨ms,g1,g2,g3,g4,g5,g6⟩,hM⟩:=sto.obj m _ hm;obtain⟨hit,hMb⟩:=sto.obj b _ hb;have hit:w.heap[b]?=some (.mapIter (some m) since (seen++[t]).toArray clk):=hit;have hgo:(getObj b).run P w=.ok (.mapIter (some m) since (seen++[t]).toArray clk) w:=by simp[getObj,Sem.run,hit]
  have hlt:i<ms.size:=δ;have hmi:ms[i]?=some ms[i]:=Fbe hlt;have hbt:ms[i].born=t:=δ;have hfind:ms.find? (λe=>e.born==t)=some ms[i]:=by rw[<-Array.find?_toList];exact yjr δ (by rw[Fde];exact hmi) hbt
  have hback:(seen++[t]).toArray.back?=some t:=φ;have hrun:(execOp ρ o).run P w=.ok (.value (.tuple #[ms[i].key,ms[i].val])) w:=by simp only[execOp,ho,Instr.entry,hx,Sem.run_bind,hgo,Result.andThen_ok,hback,Cz g1,bne_self_eq_false,Fah,if_false,hfind,Sem.run_pure]
  rw[hrun];have hrel:=g3 i e ms[i] he hmi;exact⟨_,st,M,h,wk (Reads.cons hrel.1 (Reads.cons hrel.2 Reads.nil)),sto,Chg.refl _ _⟩
end
section
variable {r:Int} {g:Store}
def zap{x:Int}(hx:0<=x)(hr:0<r)(h:x*x<r*r):x<r:=by
 by_cases h1:x<r
 ·exact h1
 ·have h2:r<=x:=θ;have h3:r*r<=x*x:=Fa9 h2 h2 θ hx;omega
def zc0{a b:Int}(ha:ym a)(hb:ym b)(hr:0<r)(hr2:r<=9223372036854775807)(h:asz (qf a b)<r):qf a r<=nrm b/\nrm b<=qp a r:=by grind[Ad,Ff,nrm,qf,asz,qp,vp]
def yfe{q p:Vc}(hq:q.ok)(hp:p.ok)(hr:0<r)(hr2:r<=9223372036854775807)(h:near q p r=true):
  ((yc (qf q.1 r,qf q.2 r)).1<=(yc p).1/\(yc p).1<=(yc (qp q.1 r,qp q.2 r)).1)/\((yc (qf q.1 r,qf q.2 r)).2<=(yc p).2/\(yc p).2<=(yc (qp q.1 r,qp q.2 r)).2):=by
 unfold near at h;have h:=(of_decide_eq_true h).2;have e1:=Ka (Iw q.1 p.1);have e2:=Ka (Iw q.2 p.2);have m1:0<=asz (qf q.1 p.1)*asz (qf q.1 p.1):=Fav e1.1 e1.1;have m2:0<=asz (qf q.2 p.2)*asz (qf q.2 p.2):=Fav e2.1 e2.1;have h':asz (qf q.1 p.1)*asz (qf q.1 p.1)+asz (qf q.2 p.2)*asz (qf q.2 p.2)<r*r:=h;have d1:=zc0 hq.1 hp.1 hr hr2 (zap e1.1 hr θ);have d2:=zc0 hq.2 hp.2 hr hr2 (zap e2.1 hr θ);grind[Ff,gg,yc]
def yci{q:Vc}(hq:q.ok)(hr:0<r)(hr2:r<=9223372036854775807):
  (yc (qf q.1 r,qf q.2 r)).1<=(yc (qp q.1 r,qp q.2 r)).1/\(yc (qf q.1 r,qf q.2 r)).2<=(yc (qp q.1 r,qp q.2 r)).2:=by
 have key:∀a:Int,ym a->qf a r<=qp a r:=by grind[qf,qp,vp,nrm]
 have k1:=key q.1 hq.1;have k2:=key q.2 hq.2;grind[Ff,gg,yc]
def zdr{p:Vc}(h:p.ok):(-70368744177664<=(yc p).1/\(yc p).1<=70368744177664)/\(-70368744177664<=(yc p).2/\(yc p).2<=70368744177664):=by have h1:=Ad h.1;have h2:=Ad h.2;unfold yc;omega
def NearIn(l:List Ent)(q:Vc)(r:Int)(D:Ent->Prop)(acc:List Int):Prop:=acc.Nodup/\∀id,id∈acc↔∃e∈l,e.1=id/\near q e.2 r=true/\D e
def NearIn.congr{l:List Ent}{q:Vc}{D D':Ent->Prop}{acc:List Int}(h:NearIn l q r D acc)(hD:∀e∈l,near q e.2 r=true->(D e↔D' e)):NearIn l q r D' acc:=by refine⟨h.1,λid=>?_⟩;rw[h.2 id];grind
def NearIn.len{l:List Ent}{q:Vc}{D:Ent->Prop}{acc:List Int}(h:NearIn l q r D acc):acc.length<=l.length:=by have:=Fbs (l₂:=l.map (·.1)) h.1 (λid hid=>by obtain⟨e,h1,h2,_⟩:=(h.2 id).1 hid;grind);grind
def NearIn.step{l:List Ent}(hn:(l.map (·.1)).Nodup){q:Vc}{D:Ent->Prop}{acc:List Int}(h:NearIn l q r D acc){e:Ent}(he:e∈l)(hD:¬D e):NearIn l q r (λe'=>D e'\/e'=e) (if near q e.2 r then acc++[e.1]else acc):=by
 cases hnr:near q e.2 r with
 |false=>
  refine h.congr λe' he' hn'=>⟨.inl,λhh=>hh.elim id λhh=>?_⟩
  grind
 |true=>
  refine⟨?_,λid=>?_⟩
  ·rw[if_pos rfl,Fdf];refine⟨h.1,φ,λa ha b hb=>?_⟩;simp at hb;subst hb;intro hab;subst hab;obtain⟨e',h1,h2,_,h4⟩:=(h.2 _).1 ha;grind[O8]
  ·rw[if_pos rfl,Fat,h.2 id];grind
def yhv{l:List Ent}{G:List Grp}(h:Inv l G):G.length<=l.length:=by
 have h1:(G.map λg=>g.ns.headD 0).Nodup:=by
  unfold List.Nodup;rw[List.pairwise_map];have n2:=h.n2;unfold List.Nodup at n2;rw[List.pairwise_map]at n2;have key:∀g∈G,g.ns.headD 0∈g.ns:=λg hg=>by
   have:=(h.s g hg).2;cases hns:g.ns with
   |nil=>grind
   |cons a t=>simp
  rw[Fcn]at n2⊢;intro i j hi hj hij he;obtain⟨e1,q1,q2,q3⟩:=(h.m1 G[i] (Faa hi) _).1 (key _ (Faa hi));obtain⟨e2,q4,q5,q6⟩:=(h.m1 G[j] (Faa hj) _).1 (key _ (Faa hj));refine n2 i j hi hj hij ?_;rw[<-q3,<-q6,O8 h.n1 q4 q1 θ]
 have:=Fbs (l₂:=l.map (·.1)) h1 (λid hid=>by
  obtain⟨g,hg,rfl⟩:=Fag.1 hid;have:=(h.s g hg).2;cases hns:g.ns with
  |nil=>grind
  |cons a t=>
   obtain⟨e,q1,q2,_⟩:=(h.m1 g hg a).1 δ;grind)
 grind
def yfr{xs:List Int}(h:xs.Nodup):(xs.mergeSort λx y=>decide (x<=y)).Pairwise (·<·)/\∀n,n∈(xs.mergeSort λx y=>decide (x<=y))↔n∈xs:=by have h1:=List.pairwise_mergeSort (le:=λx y:Int=>decide (x<=y)) (λa b c h1 h2=>δ) (λa b=>δ) xs;have h2:(xs.mergeSort λx y=>decide (x<=y)).Nodup:=(List.mergeSort_perm xs _).nodup_iff.2 h;refine⟨?_,λn=>List.mem_mergeSort⟩;have h3:=h1.and h2;grind
def Ps(l:List Ent)(q:Vc)(r:Int)(ns:List Int):Prop:=ns.Pairwise (·<·)/\∀id,id∈ns↔∃e∈l,e.1=id/\near q e.2 r=true
theorem Al{a:Store}{b:Nat}{x:AObj}(h:¬g.has b):(a.un g).sO b x=(a.sO b x).un g:=by obtain⟨h1,h2⟩:=k8 h;unfold Store.un Store.sO;grind[q9]
def Bq{a:Store}{b:Nat}{x:AObj}(h:zk a g)(hb:¬g.has b):zk (a.sO b x) g:=by
 intro i hi hg;rcases has_setObj_iff.1 hi with rfl|hi
 ·grind
 ·exact h i hi hg
def yk4{a:Store}{b:Nat}{x y:AObj}(h:zk (a.sO b x) g):zk (a.sO b y) g/\¬g.has b:=by
 have h1:¬g.has b:=h b (has_setObj_iff.2 (.inl rfl));refine⟨λi hi hg=>?_,h1⟩;rcases has_setObj_iff.1 hi with rfl|hi
 ·grind
 ·exact h i (has_setObj_iff.2 (.inr hi)) hg
def zb2{l:List Ent}(hn:(l.map (·.1)).Nodup){e:Ent}(he:e∈l):l.find? (Az e.1)=some e:=by
 cases hf:l.find? (Az e.1)with
 |none=>
  grind[Az]
 |some e'=>
  grind[Az,O8]
end
def Bz:Option Nat->Int|some i=>(i:Int)|none=>-1
theorem Kl(a b c:Store):(a.un b).un c=a.un (b.un c):=by unfold Store.un;grind
theorem un_comm{a b:Store}(h:zk a b):a.un b=b.un a:=by
 unfold Store.un
 congr<;>funext i
 ·cases h1:b.obj i with
  |none=>grind
  |some x=>
   have:a.obj i=none:=by
    cases h2:a.obj i with
    |none=>rfl
    |some y=>exact absurd (xf h1) (h i (xf h2))
   rw[this]
 ·cases h1:b.tok i with
  |none=>grind
  |some x=>
   have:a.tok i=none:=by
    cases h2:a.tok i with
    |none=>rfl
    |some y=>exact absurd (Iu h1) (h i (Iu h2))
   rw[this]
theorem xr(a:Store):Store.empty.un a=a:=by
 unfold Store.un Store.empty
 congr<;>funext i
 ·grind
 grind
def disj_un{a b c:Store}:zk (a.un b) c↔zk a c/\zk b c:=
 ⟨λh=>⟨λi h1=>h i (un_has.2 (.inl h1)),λi h1=>h i (un_has.2 (.inr h1))⟩,λ⟨h1,h2⟩ i h=>(un_has.1 h).elim (h1 i) (h2 i)⟩
def zgg{a g:Store}:(a.un g).Le g:=⟨λb y h=>⟨y,zg h,AObj.le_refl y⟩,λb x h=>F5 h⟩
def AWp.leS{P:Program}{c:Cfg}{code:Code}{Q:Exit->Fr->Store->Prop}{A:Fr}{st st':Store}(hle:st.Le st')(h:AWp P c code Q A st'):AWp P c code Q A st:=by
 refine⟨λOth M a w ⟨β,s⟩=>h.out Oth M a w ⟨β,{tsz:=s.tsz,dfr:=s.dfr,tm:=s.tm,bx:=s.bx,inj:=s.inj,sep:=λk b hk hb=>s.sep k b hk ?_,sto:=s.sto.weakenLe hle}⟩⟩;rcases hb with hb|hb
 ·cases hx:st'.obj b with
  |none=>grind
  |some y=>
   obtain⟨x,h1,_⟩:=hle.obj b y hx;grind
 ·cases hx:st'.tok b with
  |none=>grind
  |some y=>exact .inr (by rw[hle.tok b y hx];simp)
def qv{st:Store}{x:AV}{Oth M:BB}{w:World}{v:Value}(h:VRel w (λb o=>M b o\/Oth b o) x v):VRel w (λb o=>(M b o\/Oth b o)/\st.obj b=none) x v:=
 h.mono λ_ _ h=>h.1
structure Bld where
 id:Int
 owner:Int
 x:Int
 y:Int
 w:Int
 h:Int
 deriving DecidableEq
structure Unt where
 id:Int
 owner:Int
 kind:Int
 pos:Vc
 goal:Int
 next:Int
 stuck:Int
 inn:Int
 state:Int
 deriving DecidableEq
structure Wld where
 tick:Int
 players:Int
 next:Int
 G:Gnd
 B:List Bld
 U:List Unt
 deriving DecidableEq
def zi(b:Bld):List AV:=[int b.id,int b.owner,int b.x,int b.y,int b.w,int b.h]
def zf(u:Unt):List AV:=[int u.id,int u.owner,int u.kind,int u.pos.1,int u.pos.2,int u.goal,int u.next,int u.stuck,int u.inn,int u.state]
def zp(w:Wld):List AV:=[int w.tick,int w.players,int w.next,int w.G.W,int w.G.H,jt w.G.T,lst 6 zi w.B,lst 10 zf w.U]
def Wld.fits(w:Wld):Prop:=w.G.fits/\w.B.length<=1000000000000/\w.U.length<=1000000000000
def z6(k:Int):Int:=if k=0 then 24576 else if k=2 then 81920 else 32768
def xa(k:Int):Int:=if k=0 then 16384 else if k=1 then 24576 else if k=2 then 8192 else 16384
def yl(k:Int):Int:=if k=0 then 0 else if k=1 then 1 else if k=2 then 0 else 2
def qm(k:Int):Int:=if k=2 then 1 else 0
def j2(k:Int):Int:=if k=0 then 0 else if k=1 then 0 else if k=2 then 0 else 4
def C7(k:Int):List AV:=[int (z6 k),int (xa k),int (yl k),int (qm k),int (j2 k)]
def kr(k:Int):Prop:=0<=k/\k<=3
def At(c:Int)(t:Nat):Int:=((if c=0 then [2,1,3,5,0,0]else if c=1 then [2,1,6,0,0,0]else [2,1,0,3,2,0]):List Int).getD t 0
def yi(b:Bld):Prop:=(1<=b.id/\b.id<=1099511627776)/\(1<=b.owner/\b.owner<=8)/\(1<=b.w/\b.w<=4)/\(1<=b.h/\b.h<=4)
def onP(g:Gnd)(b:Bld):Prop:=(0<=b.x/\b.x+b.w<=g.W)/\(0<=b.y/\b.y+b.h<=g.H)
def ku(g:Gnd)(b:Bld)(t:Nat):Prop:=(b.x<=(t:Int)%g.W/\(t:Int)%g.W<b.x+b.w)/\(b.y<=(t:Int)/g.W/\(t:Int)/g.W<b.y+b.h)
instance(g:Gnd)(b:Bld)(t:Nat):Decidable (ku g b t):=inferInstanceAs (Decidable (_/\_))
def C9(g:Gnd)(b:Bld):Prop:=∀t,t<g.T.length->ku g b t->(g.T.getD t 0).toNat<=1
def j9(a b:Bld):Prop:=(a.x<b.x+b.w/\b.x<a.x+a.w)/\(a.y<b.y+b.h/\b.y<a.y+a.h)
def Og(l:List Bld):Prop:=∀j,(h:j<l.length)->0<j->(l[j-1]'θ).id<l[j].id
def yr(l:List Unt):Prop:=∀j,(h:j<l.length)->0<j->(l[j-1]'θ).id<l[j].id
def Wh(l:List Bld):Prop:=∀j,(h:j<l.length)->∀i,(hi:i<j)->¬j9 l[j] (l[i]'θ)
def Hr(g:Gnd)(l:List Bld):Prop:=l.length<=256/\Og l/\(∀b∈l,yi b/\onP g b/\C9 g b)/\Wh l
def xj(g:Gnd)(l:List Bld)(t:Nat):Bool:=l.any λb=>decide (ku g b t)
def yp(g:Gnd)(l:List Bld)(c:Int)(t:Nat):Bool:= !xj g l t&&decide (0<At c (g.T.getD t 0).toNat)
def tx(g:Gnd)(t:Nat):Int:=(t:Int)%g.W*65536
def ty(g:Gnd)(t:Nat):Int:=(t:Int)/g.W*65536
def off(x lo:Int):Int:=if x<lo then lo-x else if x>lo+65536 then x-(lo+65536)else 0
def ja(g:Gnd)(t:Nat)(p:Vc)(r:Int):Prop:=off p.1 (tx g t)*off p.1 (tx g t)+off p.2 (ty g t)*off p.2 (ty g t)<r*r
instance(g:Gnd)(t:Nat)(p:Vc)(r:Int):Decidable (ja g t p r):=inferInstanceAs (Decidable (_<_))
def Cc(g:Gnd)(l:List Bld)(c:Int)(p:Vc)(r:Int):Prop:=
 ((r<=p.1/\p.1+r<=g.W*65536)/\(r<=p.2/\p.2+r<=g.H*65536))/\∀t,t<g.T.length->yp g l c t=false->¬ja g t p r
def vr(p:Vc)(r:Int)(q:Vc)(s:Int):Bool:= !near p q (r+s)
def qh(w:Wld)(id k:Int)(p:Vc):Prop:=
 Cc w.G w.B (yl k) p (z6 k)/\∀u∈w.U,u.inn=0->u.id≠id->vr p (z6 k) u.pos (z6 u.kind)=true
def Aa(g:Gnd)(t:Int):Prop:=t=-1\/(0<=t/\t<g.W*g.H)
def ko(w:Wld)(u:Unt):Prop:=
 ((1<=u.id/\u.id<w.next)/\(1<=u.owner/\u.owner<=w.players)/\kr u.kind)/\(Aa w.G u.goal/\Aa w.G u.next/\(0<=u.stuck/\u.stuck<8))∧
 ((0<=u.state/\u.state<=4)/\(u.state=1↔u.goal≠-1))/\(u.goal=-1->u.next=-1/\u.stuck=0)
def Ir(w:Wld):Prop:=
 ((0<=w.tick/\w.tick<=1099511627776)/\(1<=w.players/\w.players<=8)/\(1<=w.next/\w.next<=1099511627776))∧
 (zw w.G/\Hr w.G w.B/\w.U.length<=4096)/\∀b∈w.B,b.owner<=w.players/\b.id<w.next
def Kj(w:Wld):Prop:=yr w.U/\∀u∈w.U,ko w u/\∀b∈w.B,b.id≠u.id
def z8(l:List Unt)(id:Int):List Int:=(l.filter λu=>u.inn==id).map (·.id)
def Bk(w:Wld)(u:Unt):Prop:=
 ∃x∈w.U,x.id=u.inn/\(x.inn=0/\x.owner=u.owner)/\((z8 w.U u.inn).length:Int)<=j2 x.kind/\j2 u.kind=0/\u.pos=(0,0)/\u.goal=-1/\u.state=0
def ya(w:Wld):Prop:=(Ir w/\Kj w)/\(∀u∈w.U,u.inn=0->qh w u.id u.kind u.pos)/\∀u∈w.U,u.inn≠0->Bk w u
theorem lf(a b:Int):(a==b)=decide (a=b):=ξ
def qg{g:Gnd}(h:zw g):1<=g.W*g.H/\g.W*g.H<=16384/\(g.T.length:Int)=g.W*g.H:=by obtain⟨⟨h1,h2⟩,⟨h3,h4⟩,h5,_⟩:=h;have:1*1<=g.W*g.H:=Fa9 h1 h3 ψ θ;have:g.W*g.H<=128*128:=Fa9 h2 h4 θ ψ;omega
def O9(w:Wld):Prop:=(w.G.T.length>700\/w.B.length>30)\/w.U.length>30
section
variable {x r w lo a:Int} {g:Gnd} {t:Nat}
theorem mh{a b:Vc}(h1:-2305843009213693952<=a.1/\a.1<=2305843009213693952)(h2:-2305843009213693952<=a.2/\a.2<=2305843009213693952)(h3:-2305843009213693952<=b.1/\b.1<=2305843009213693952)(h4:-2305843009213693952<=b.2/\b.2<=2305843009213693952):
  qy a b=(a.1-b.1,a.2-b.2):=by
 have n:∀x:Int,-4611686018427387904<=x/\x<=4611686018427387904->nrm x=x:=λx hx=>by unfold nrm;omega
 have c:∀x:Int,-4611686018427387904<=x/\x<=4611686018427387904->vp x=x:=λx hx=>by unfold vp;omega
 grind[qy,qf,qp]
theorem lh(h:-4611686018427387904<=x/\x<=4611686018427387904):asz x*asz x=x*x:=by
 have n:nrm x=x:=by unfold nrm;omega
 grind[asz]
theorem ee{a b:Vc}(h1:-2305843009213693952<=a.1/\a.1<=2305843009213693952)(h2:-2305843009213693952<=a.2/\a.2<=2305843009213693952)(h3:-2305843009213693952<=b.1/\b.1<=2305843009213693952)(h4:-2305843009213693952<=b.2/\b.2<=2305843009213693952)(hr:0<r):
  near a b r=decide ((a.1-b.1)*(a.1-b.1)+(a.2-b.2)*(a.2-b.2)<r*r):=by
 unfold near sqr;rw[mh h1 h2 h3 h4,lh θ,lh θ];grind
def Ck(hg:zw g){t:Nat}(ht:(t:Int)<g.W*g.H):(0<=(t:Int)%g.W/\(t:Int)%g.W<g.W)/\(0<=(t:Int)/g.W/\(t:Int)/g.W<g.H):=by obtain⟨⟨h1,h2⟩,⟨h3,h4⟩,_⟩:=hg;have h5:=Fcf (t:Int) (show g.W≠0 by omega);have h6:=Fcs (t:Int) (show 0<g.W by omega);have h7:0<=(t:Int)/g.W:=Fb2 θ θ;have h8:(t:Int)/g.W<g.H:=Fd0 θ δ;omega
def D7(hw:1<=w):(t:Int).tdiv w=(t:Int)/w:=Faz θ
def D6(hw:1<=w):(t:Int).tmod w=(t:Int)%w:=Fcl θ
def Lw(hg:zw g){t:Nat}(ht:(t:Int)<g.W*g.H):(0<=tx g t/\tx g t<=8323072)/\(0<=ty g t/\ty g t<=8323072):=by have:=Ck hg ht;obtain⟨⟨h1,h2⟩,⟨h3,h4⟩,_⟩:=hg;unfold tx ty;omega
def Gs(x lo:Int):Int:=min2 (max2 x lo) (lo+65536)
theorem min2_eq(a b:Int):min2 a b=min a b:=by grind[min2]
theorem max2_eq(a b:Int):max2 a b=max a b:=by grind[max2]
theorem zdk(x lo:Int):Gs x lo=min (max x lo) (lo+65536):=by unfold Gs;rw[min2_eq,max2_eq]
theorem zdj(x lo:Int):(x-Gs x lo)*(x-Gs x lo)=off x lo*off x lo:=by rw[zdk];unfold off;grind
def V6(h:0<=lo/\lo<=8323072):0<=Gs x lo/\Gs x lo<=8388608:=by rw[zdk];omega
def ug(h:0<=lo/\lo<=8323072)(hx:-1099511627776<=x/\x<=1099511627776):0<=off x lo/\off x lo<=1099519950848:=by grind[off]
def yfg(hg:zw g){t:Nat}(ht:(t:Int)<g.W*g.H){p:Vc}(hp:qs p.1 p.2)(hr:0<r):
  near p (Gs p.1 (tx g t),Gs p.2 (ty g t)) r=decide (ja g t p r):=by
 have hb:=Lw hg ht;have h1:=V6 (x:=p.1) hb.1;have h2:=V6 (x:=p.2) hb.2;obtain⟨h3,h4⟩:=hp;rw[ee θ θ θ θ hr];dsimp only;rw[zdj,zdj];rfl
theorem Nx(ha:0<=a)(hr:0<r)(h:a*a<r*r):a<r:=by apply Decidable.byContradiction;intro hn;have:r*r<=a*a:=Fa9 θ θ θ ha;omega
def yft{dx dy:Int}(h1:0<=dx)(h2:0<=dy)(hr:0<r):(dx<r/\dy<r/\dx*dx+dy*dy<r*r)↔dx*dx+dy*dy<r*r:=by grind[Nx,Int.mul_nonneg]
def br(h:0<=a/\a<=262144):0<=a*a/\a*a<=68719476736:=
 ⟨Fav h.1 h.1,by have:a*a<=262144*262144:=Fa9 h.2 h.2 h.1 ψ;omega⟩
end
section
variable {b:Nat} {P:Program} {c:Cfg} {A:Fr}
def Store.dO(st:Store)(b:Nat):Store:={st with obj:=λi=>bif Nat.beq i b then none else st.obj i}
theorem M8{st:Store}{b':Nat}{x:AObj}(h:(st.dO b).obj b'=some x):b'≠b/\st.obj b'=some x:=by have h:(bif Nat.beq b' b then none else st.obj b')=some x:=h;grind[Nat.beq_refl]
theorem AWp.freeze{code:Code}{Q:Exit->Fr->Store->Prop}{st:Store}{d n cap k:Nat}{rows:List (List AV)}{pad:List AV}
    (hA:A.t d=.av (.s (.slice (some ⟨b,0,none⟩) n cap))) (ho:st.obj b=some (.cells (rows.flatten++pad))) (ht:st.tok b=none) (hn:rows.length=n) (hcap:n<=cap)
    (hk:∀row∈rows,row.length=k) (hall:∀row∈rows,∀x∈row,∃v,x=AV.s v/\xp v=true)
    (h:AWp P c code Q (A.put d (.av (.lst k rows none))) (st.dO b)):AWp P c code Q A st:=by
  refine⟨λOth M a w ⟨β,sim⟩=>?_⟩;have hs:∀b' o,((M b' o/\b'≠b)\/Oth b' o)->(M b' o\/Oth b' o):=λ_ _ h=>h.imp (·.1) id;have sim':SimB c.N Oth β (A.put d (.av (.lst k rows none))) (st.dO b) (λb' o=>M b' o/\b'≠b) a w:=by
    refine{tsz:=sim.tsz,dfr:=sim.dfr.sub λ_ _ h=>h.1,tm:=λi=>?_,bx:=λj l hj=>⟨(sim.bx j l hj).1.mono hs,λo=>⟨(sim.bx j l hj).2 o,?_⟩⟩,inj:=sim.inj,sep:=λj b' hj hb'=>?_,sto:=?_}
    · by_cases hi:i=d
      · subst hi
        have e:(A.put i (.av (.lst k rows none))).t i=.av (.lst k rows none):=by show(bif Nat.beq i i then _ else A.t i)=_;simp
        rw[e];have h1:=sim.tm i;rw[hA]at h1;have h1:VRel w (λb o=>M b o\/Oth b o) (.s (.slice (some ⟨b,0,none⟩) n cap)) (a.tmps.getD i undef):=h1;generalize a.tmps.getD i undef=v at h1;cases h1;obtain⟨⟨cs,e0,fr,hb0,huf,hlen,hrel⟩,hM⟩:=sim.sto.obj b _ ho;subst hn;have at1:∀(i:Nat) (row:List AV) (j:Nat) (x:AV),rows[i]?=some row->row[j]?=some x->∃v,x=.s v/\xp v=true/\cs[i*k+j]?=some v:=by
          intro i row j x hi hj;obtain⟨v,rfl,hv⟩:=hall row (Fa3 hi) x (Fa3 hj);have h5:=Iy hk hi hj;have hlt:=(Fax.1 h5).1;have h6:(rows.flatten++pad)[i*k+j]?=some (.s v):=δ;have hlt2:i*k+j<cs.size:=δ;have h7:=hrel _ _ cs[i*k+j] h6 (by simp[hlt2]);have:cs[i*k+j]=v:=by generalize cs[i*k+j]=y at h7;cases h7;rfl
          grind
        refine VRel.lst rows none b 0 cap k (λp=>cs.getD p undef) hcap (λi row hi=>hk row (Fa3 hi)) (λ_ h=>ω) (λi row j x hi hj=>?_) (λi row j x hi hj=>?_) λi row j x hi hj=>?_
        · obtain⟨v,rfl,hv,h5⟩:=at1 i row j x hi hj
          refine⟨?_,?_⟩
          · simp_all[World.cell?]
          · rintro(⟨_,h⟩|h)
            · omega
            · exact sim.sto.dis _ _ h (hM _)
        · obtain⟨v,rfl,hv,h5⟩:=at1 i row j x hi hj
          simp_all
        · obtain⟨v,rfl,hv,h5⟩:=at1 i row j x hi hj
          rw[Fbi,h5];exact .s _
      · have e:(A.put d (.av (.lst k rows none))).t i=A.t i:=by
          show(bif Nat.beq i d then _ else A.t i)=_;grind[wj]
        rw[e];have h1:=sim.tm i;generalize A.t i=x at h1;cases x with
        |any=>trivial
        |und=>exact h1
        |av x=>exact VRel.mono hs h1
        |bx k off=>exact h1
    · exact sim.sep j b (λe=>by rw[show A.bx j=some l from hj]at e;cases e) (.inl δ)
    · refine sim.sep j b' hj ?_
      rcases hb' with hb'|hb'
      · cases hx:(st.dO b).obj b' with
        |none=>grind
        |some y=>grind[M8]
      · exact .inr hb'
    · exact { obj:=λb' y hy=>⟨(sim.sto.obj b' y (M8 hy).2).1.mono hs,λo=>⟨(sim.sto.obj b' y (M8 hy).2).2 o,(M8 hy).1⟩⟩
              tok:=λb' top htk=>by obtain⟨c,e,fr,h1,h2,h3,h4⟩:=sim.sto.tok b' top htk;exact⟨c,e,fr,h1,h2,h3,λo ho=>⟨h4 o ho,λe=>by subst e;rw[show st.tok b'=some top from htk]at ht;cases ht⟩⟩
              mlt:=λb' o hm=>sim.sto.mlt b' o hm.1,olt:=sim.sto.olt,dis:=λb' o ho hm=>sim.sto.dis b' o ho hm.1}
  refine Code.wpF_mono ?_ (h.out Oth _ a w ⟨β,sim'⟩);rintro e a' w' ⟨A',st',M',h1,h2,h3⟩;exact⟨A',st',M',h1,h2,{size:=h3.size,keep:=λb' o hb hm=>h3.keep b' o hb λh=>hm h.1,blk:=λb' hb hm=>h3.blk b' hb λo h=>hm o h.1,shp:=h3.shp,sub:=λb' o hm hb=>(h3.sub b' o hm hb).1,tape:=h3.tape,os:=h3.os,output:=h3.output}⟩
def AWp.loopA{σ:Type}(H:LoopHead σ){b:Code}{Q:Exit->Fr->Store->Prop}{st:Store}(h0:H.at A st λ_=>True)
    (round:∀s st,H.inv s st->AWp P c b (ru H s Q) (Hb (H.t s) (H.bx s)) st):AWp P c (.loop b) Q A st:=by
  obtain⟨s0,_,hi0,ht0,hb0⟩:=h0;refine⟨λOth M a w sim=>?_⟩
  refine wpIn_loop_ghost (λn a' w'=>∃s st' M',H.μ s=n/\H.inv s st'/\Sim c.N Oth (Hb (H.t s) (H.bx s)) st' M' a' w'/\Chg M w M' w') (H.μ s0)
    ⟨s0,st,M,rfl,hi0,sim.fits ht0 hb0 (Store.Has.refl st),Chg.refl M w⟩ ?_
  rintro n a' w' ⟨s,st',M',rfl,hi,hsim,hchg⟩;refine Code.wpF_mono ?_ ((round s st' hi).out Oth M' a' w' hsim);rintro e a'' w'' ⟨A'',st'',M'',h1,h2,h3⟩;cases e with
  | normal=>
    obtain⟨s',hlt,hi',ht',hb'⟩:=h1;exact⟨H.μ s',hlt,s',st'',M'',rfl,hi',h2.fits ht' hb' (Store.Has.refl st''),hchg.trans h3⟩
  |_=>exact⟨A'',st'',M'',h1,h2,hchg.trans h3⟩
end
section
variable {g:Gnd} {n t i:Nat}
theorem Lh{st:Store}{b:Nat}{x:AObj}(h:st.obj b=none):(st.sO b x).dO b=st:=by
 unfold Store.sO Store.dO
 congr 1
 funext i
 by_cases hi:i=b
 ·subst hi;simp[h]
 ·simp[q9 hi]
def Cl(W:Int)(b:Bld)(y k:Nat):List Int:=(List.range k).map λ(x:Nat)=>b.x+(x:Int)+W*(b.y+(y:Int))
def Cy(W:Int)(b:Bld)(k:Nat):List Int:=(List.range k).flatMap λy=>Cl W b y b.w.toNat
def Ao(W:Int)(b:Bld):List Int:=Cy W b b.h.toNat
theorem zg8(W:Int)(b:Bld)(y k:Nat):Cl W b y (k+1)=Cl W b y k++[b.x+(k:Int)+W*(b.y+(y:Int))]:=by unfold Cl;rw[Fdc];simp
theorem W9(W:Int)(b:Bld)(k:Nat):Cy W b (k+1)=Cy W b k++Cl W b k b.w.toNat:=by unfold Cy;rw[Fdc];simp
theorem nz(W:Int)(b:Bld)(y k:Nat):(Cl W b y k).length=k:=by unfold Cl;simp
theorem ba(W:Int)(b:Bld)(k:Nat):(Cy W b k).length=k*b.w.toNat:=by
 induction k with
 |zero=>simp[Cy]
 |succ k ih=>rw[W9,Fae,ih,nz,Fdy]
def bc(W:Int){b:Bld}(hb:yi b):(Ao W b).length<=16:=by unfold Ao;rw[ba];unfold yi at hb;have:b.h.toNat*b.w.toNat<=4*4:=Fcw θ θ;omega
def Kp(hg:zw g){x y:Int}(hx:0<=x/\x<g.W)(hy:0<=y/\y<g.H):
  0<=x+g.W*y/\x+g.W*y<g.W*g.H/\(x+g.W*y)%g.W=x/\(x+g.W*y)/g.W=y:=by
 obtain⟨⟨h1,h2⟩,⟨h3,h4⟩,_⟩:=hg;have a1:0<=g.W*y:=Fav θ hy.1;have a2:g.W*y<=g.W*(g.H-1):=Fda θ θ;have a3:g.W*(g.H-1)=g.W*g.H-g.W:=by rw[Int.mul_sub,Int.mul_one]
 refine⟨θ,θ,?_,?_⟩
 ·rw[Fd6];exact Fc8 hx.1 hx.2
 ·rw[Fd1 _ _ θ,Fb8 hx.1 hx.2];omega
theorem Hc(hg:zw g){b:Bld}(hb:yi b)(ho:onP g b)(t:Int):t∈Ao g.W b↔∃n:Nat,t=(n:Int)/\(n:Int)<g.W*g.H/\ku g b n:=by
 have hb':=hb;have ho':=ho;unfold yi at hb';unfold onP at ho';unfold Ao Cy Cl;rw[List.mem_flatMap];constructor
 ·rintro⟨y,hy,hx⟩;obtain⟨x,hx2,rfl⟩:=Fag.1 hx;have hy:=Fbd.1 hy;have hx:=Fbd.1 hx2;obtain⟨q1,q2,q3,q4⟩:=Kp hg (x:=b.x+x) (y:=b.y+y) θ θ;refine⟨(b.x+(x:Int)+g.W*(b.y+(y:Int))).toNat,θ,θ,?_⟩;unfold ku;rw[show(((b.x+(x:Int)+g.W*(b.y+(y:Int))).toNat:Nat):Int)=b.x+(x:Int)+g.W*(b.y+(y:Int)) by omega,q3,q4];omega
 ·rintro⟨n,rfl,hn,hh⟩;unfold ku at hh;refine⟨((n:Int)/g.W-b.y).toNat,Fbd.2 θ,Fag.2 ⟨((n:Int)%g.W-b.x).toNat,Fbd.2 θ,?_⟩⟩;have:=Fdd (n:Int) g.W;rw[show(((n:Int)%g.W-b.x).toNat:Int)=(n:Int)%g.W-b.x by omega,show(((n:Int)/g.W-b.y).toNat:Int)=(n:Int)/g.W-b.y by omega];rw[show b.x+((n:Int)%g.W-b.x)=(n:Int)%g.W by omega,show b.y+((n:Int)/g.W-b.y)=(n:Int)/g.W by omega];exact this
def bl(n:Nat)(f:Nat->Bool):List AV:=(List.range n).map λt=>bool (f t)
theorem vq(n:Nat)(f:Nat->Bool):(bl n f).length=n:=by simp[bl]
theorem Hs{f:Nat->Bool}(h:t<n):(bl n f)[t]?=some (bool (f t)):=by simp[bl,h]
theorem I8(n:Nat):List.replicate n (AV.s (.bool false))=bl n λ_=>false:=by unfold bl;rw[List.map_const',Fds];rfl
theorem Fx{f:Nat->Bool}(h:t<n)(g:Nat->Bool)(hg:∀s,s≠t->g s=f s):zv (bl n f) t [bool (g t)]=bl n g:=by
 unfold zv;apply Fcd;intro s;by_cases h1:s<t
 ·rw[Faw,Fap (by rw[Fam,vq];omega),Fb1 h1,Hs θ,Hs θ,hg s θ]
 ·by_cases h2:s=t
  ·subst h2;rw[Faw,Fa2 (by rw[Fam,vq];omega),Fam,vq,show s-min s n=0 by omega,Hs h];rfl
  ·rw[Fa2 (by rw[Fae,Fam,vq];simp;omega),Fae,Fam,vq,Fcq];by_cases h3:s<n
   ·have e:t+[bool (g t)].length+(s-(min t n+[bool (g t)].length))=s:=χ;rw[e,Hs h3,Hs h3,hg s h2]
   ·rw[Fb3 (by rw[vq];simp;omega),Fb3 θd]
def wi(g:Gnd)(l:List Bld)(i:Nat)(ts:List Int)(k:Nat)(t:Nat):Bool:=xj g (l.take i) t||(ts.take k).contains (t:Int)
def zc5(g:Gnd)(l:List Bld)(i:Nat)(ts:List Int)(t:Nat):wi g l i ts 0 t=xj g (l.take i) t:=by simp[wi]
def zc6{l:List Bld}{ts:List Int}{k n:Nat}(hk:k<ts.length)(hn:ts[k]=(n:Int)):
  wi g l i ts (k+1) n=true/\∀s,s≠n->wi g l i ts (k+1) s=wi g l i ts k s:=by
 unfold wi;rw[Fab hk,hn];refine⟨φ,λs hs=>?_⟩;rw[List.contains_append];have:[((n:Nat):Int)].contains (s:Int)=false:=χ;rw[this,Bool.or_false]
def zc7(hg:zw g){l:List Bld}(hi:i<l.length)(hb:yi l[i]/\onP g l[i])(ht:t<g.T.length):
  wi g l i (Ao g.W l[i]) (Ao g.W l[i]).length t=xj g (l.take (i+1)) t:=by
 have ha:=qg hg;unfold wi xj;rw[Fak,Fab hi,List.any_append]
 congr 1
 rw[Fbq,List.contains_iff_mem,Hc hg hb.1 hb.2];simp only[List.any_cons,List.any_nil,Bool.or_false,decide_eq_true_eq];constructor
 ·rintro⟨n,h1,_,h2⟩;have:n=t:=θ;subst this;exact h2
 ·intro h;exact⟨t,rfl,θ,h⟩
def ji(b:Bool):List AV:=[bool b]
def blL(n:Nat)(f:Nat->Bool):List Bool:=(List.range n).map f
theorem xx(n:Nat)(f:Nat->Bool):(blL n f).length=n:=by simp[blL]
theorem Br{f:Nat->Bool}(h:t<n):(blL n f)[t]'(by rw[xx];exact h)=f t:=by simp[blL]
theorem ynb(n:Nat)(f:Nat->Bool):(rws ji (blL n f)).flatten=bl n f:=by
 unfold rws blL bl ji;induction List.range n with
 |nil=>rfl
 |cons a l ih=>simp at ih⊢;exact ih
def zd3{f:Nat->Bool}(h:t<n):(rws ji (blL n f))[t]?=some (ji (f t)):=by unfold rws blL;simp[h]
end
section
variable {g:Gnd}
theorem zg7(W:Int)(b:Bld)(y k:Nat):(Cl W b y k).Pairwise (·<·):=by grind[Cl,List.pairwise_lt_range]
def zg5{W:Int}{b:Bld}(hW:1<=W)(hx:0<=b.x/\b.x+b.w<=W)(hw:1<=b.w)(k:Nat):(Cy W b k).Pairwise (·<·)/\∀t∈Cy W b k,t<W*(b.y+(k:Int)):=by
 induction k with
 |zero=>simp_all[Cy]
 |succ k ih=>
  rw[W9];have hrow:∀t∈Cl W b k b.w.toNat,W*(b.y+(k:Int))<=t/\t<W*(b.y+(k:Int))+W:=by intro t ht;obtain⟨x,hx2,rfl⟩:=Fag.1 ht;grind
  have e:W*(b.y+((k+1:Nat):Int))=W*(b.y+(k:Int))+W:=δ;grind[zg7]
def zg6(hg:zw g){b:Bld}(hb:yi b/\onP g b):(Ao g.W b).Pairwise (·<·):=by unfold yi onP at hb;exact(zg5 hg.1.1 hb.2.1 θ _).1
theorem ye4{l:List Int}(h:l.Pairwise (·<·)){k:Nat}(hk:k<l.length):l[k]∉l.take k:=by grind[List.getElem_of_mem,List.pairwise_iff_getElem]
theorem zac(hg:zw g){a b:Bld}(ha:yi a/\onP g a)(hb:yi b/\onP g b):j9 a b↔∃t:Nat,(t:Int)<g.W*g.H/\ku g a t/\ku g b t:=by
 unfold yi onP at ha hb;unfold j9;constructor
 ·intro h;obtain⟨q1,q2,q3,q4⟩:=Kp hg (x:=max a.x b.x) (y:=max a.y b.y) θ θ;refine⟨(max a.x b.x+g.W*max a.y b.y).toNat,θ,?_⟩;grind[ku]
 grind[ku]
def covB_iff{l:List Bld}{t:Nat}:xj g l t=true↔∃b∈l,ku g b t:=by grind[xj]
def V7(g:Gnd)(l:List Bld)(i:Nat):Prop:=∀j,(h:j<l.length)->j<i->(yi l[j]/\onP g l[j]/\C9 g l[j])/\∀k,(hk:k<j)->¬j9 l[j] (l[k]'θ)
def zdv{l:List Bld}(h:V7 g l l.length):(∀b∈l,yi b/\onP g b/\C9 g b)/\Wh l:=by refine⟨λb hb=>?_,λj hj k hk=>(h j hj hj).2 k hk⟩;obtain⟨j,hj,rfl⟩:=Fai hb;exact(h j hj hj).1
def ylk(hg:zw g){l:List Bld}{i:Nat}(hi:i<l.length)(hb:yi l[i]/\onP g l[i])(hup:V7 g l i):
  (∃t∈Ao g.W l[i],xj g (l.take i) t.toNat=true)↔∃k,∃hk:k<i,j9 l[i] (l[k]'θ):=by
 constructor
 ·rintro⟨t,ht,hc⟩;obtain⟨n,rfl,hn,hh⟩:=(Hc hg hb.1 hb.2 t).1 ht;rw[Fa0]at hc;obtain⟨b,hb2,hh2⟩:=covB_iff.1 hc;obtain⟨k,hk,rfl⟩:=Fai hb2;rw[Fam]at hk;rw[Fdt]at hh2;have:=(hup k θ θ).1;grind[zac]
 ·rintro⟨k,hk,hm⟩;have:=(hup k θ θ).1;obtain⟨n,hn,h1,h2⟩:=(zac hg hb ⟨this.1,this.2.1⟩).1 hm;refine⟨(n:Int),(Hc hg hb.1 hb.2 _).2 ⟨n,rfl,hn,h1⟩,?_⟩;rw[Fa0];refine covB_iff.2 ⟨l[k],?_,h2⟩;have:(l.take i)[k]'δ=l[k]:=Fdt;grind
end
def O4(g:Gnd)(b:Bld)(k t:Nat):Prop:=(b.x<=(t:Int)%g.W/\(t:Int)%g.W<b.x+b.w)/\(b.y<=(t:Int)/g.W/\(t:Int)/g.W<b.y+(k:Int))
def Io(g:Gnd)(b:Bld)(k m t:Nat):Prop:=(t:Int)/g.W=b.y+(k:Int)/\(b.x<=(t:Int)%g.W/\(t:Int)%g.W<b.x+(m:Int))
instance(g:Gnd)(b:Bld)(k t:Nat):Decidable (O4 g b k t):=inferInstanceAs (Decidable (_/\_))
instance(g:Gnd)(b:Bld)(k m t:Nat):Decidable (Io g b k m t):=inferInstanceAs (Decidable (_/\_))
def Cd(g:Gnd)(l:List Bld)(i:Nat)(b:Bld)(k m t:Nat):Bool:=xj g (l.take i) t||decide (O4 g b k t\/Io g b k m t)
theorem yll(g:Gnd)(l:List Bld)(i:Nat)(b:Bld):Cd g l i b 0 0=xj g (l.take i):=by
 funext t
 simp_all[Cd,decide_eq_false,O4,Io]
theorem yln(g:Gnd)(l:List Bld)(i:Nat)(b:Bld)(k:Nat)(hw:0<=b.w):Cd g l i b k b.w.toNat=Cd g l i b (k+1) 0:=by grind[Cd,O4,Io]
theorem ylo{g:Gnd}{l:List Bld}{i:Nat}(hi:i<l.length)(hh:0<=l[i].h):Cd g l i l[i] l[i].h.toNat 0=xj g (l.take (i+1)):=by
 funext t
 unfold Cd xj;rw[Fab hi,List.any_append]
 congr 1
 simp only[List.any_cons,List.any_nil,Bool.or_false];grind[O4,Io,ku]
def ylm{g:Gnd}(hg:zw g){l:List Bld}{i:Nat}{b:Bld}(hb:yi b/\onP g b){k m:Nat}(hk:(k:Int)<b.h)(hm:(m:Int)<b.w){n:Nat}(hn:(n:Int)=b.x+(m:Int)+g.W*(b.y+(k:Int))):
  Cd g l i b k (m+1) n=true/\∀s,s≠n->Cd g l i b k (m+1) s=Cd g l i b k m s:=by
 unfold yi onP at hb;obtain⟨q1,q2,q3,q4⟩:=Kp hg (x:=b.x+m) (y:=b.y+k) θ θ;unfold Cd;refine⟨?_,λs hs=>?_⟩
 ·have:Io g b k (m+1) n:=by grind[Io]
  grind
 ·have e:=Fdd (s:Int) g.W;grind[Io]
def Sy{g:Gnd}{t:Nat}{p:Vc}{r:Int}(hr:0<r)(h:ja g t p r):
  (tx g t<p.1+r/\p.1-r<tx g t+65536)/\(ty g t<p.2+r/\p.2-r<ty g t+65536):=by
 unfold ja at h;have n:∀x lo:Int,0<=off x lo:=λx lo=>by grind[off]
 have a:=Nx (n p.1 (tx g t)) hr (by have:=Fav (n p.2 (ty g t)) (n p.2 (ty g t));omega);have b:=Nx (n p.2 (ty g t)) hr (by have:=Fav (n p.1 (tx g t)) (n p.1 (tx g t));omega);grind[off]
section
variable {P:Program} {c:Cfg}
def j3{ops:Array Oper}{o:Oper}{A:Fr}{go skip:Fr->Prop}(hg:o.guard=none)(h:go A):Iv ops o A go skip:=by unfold Iv;grind
def ju{o:Oper}{t:TypeId}{a x:Operand}{K:Fr->Store->Prop}{A:Fr}{st:Store}{i:TI}{v:AV}(ho:o.op=.store t a x)(hd:o.dst=none)(hi:c.I t=some i)(hx:A.ev x=.av v)(h:Gx i A st (A.ev a) v K):Di P c o K A st:=by unfold Di;rw[ho];show F4 P c o K A st;simp_all[F4,za]
end
def uz{A:Int}{m:Nat}(h:(m:Int)<A):A.toNat-(m+1)<A.toNat-m:=θ
theorem i8(a:Int)(m:Nat):a+((m+1:Nat):Int)=a+(m:Int)+1:=θ
def Sr{A x:Int}{m:Nat}(h:x+(m:Int)<A):((m+1:Nat):Int)<=A-x:=θ
def Nb(g:Gnd)(l:List Bld)(c:Int)(p:Vc)(r y:Int):Prop:=∀t,t<g.T.length->(t:Int)/g.W<y->yp g l c t=false->¬ja g t p r
def Ph(g:Gnd)(l:List Bld)(c:Int)(p:Vc)(r y x:Int):Prop:=∀t,t<g.T.length->(t:Int)/g.W=y->(t:Int)%g.W<x->yp g l c t=false->¬ja g t p r
def ymf{g:Gnd}{l:List Bld}{c:Int}{p:Vc}{r:Int}(hr:0<r)(hp:0<=p.2-r):Nb g l c p r ((p.2-r)/65536):=by intro t _ hy _ hh;have:=(Sy hr hh).2;grind[ty]
def ymi{g:Gnd}{l:List Bld}{c:Int}{p:Vc}{r y:Int}(hr:0<r)(hp:0<=p.1-r):Ph g l c p r y ((p.1-r)/65536):=by intro t _ _ hx _ hh;have:=(Sy hr hh).1;grind[tx]
def ymj{g:Gnd}(hg:zw g){l:List Bld}{c:Int}{p:Vc}{r y x:Int}(hr:0<r)(hp:0<=p.1+r)(hx:¬(x<=(p.1+r)/65536)\/¬(x<g.W))(hu:Nb g l c p r y)(h:Ph g l c p r y x):Nb g l c p r (y+1):=by
 intro t ht hy ho hh;by_cases e:(t:Int)/g.W=y
 ·by_cases e2:(t:Int)%g.W<x
  ·exact h t ht e e2 ho hh
  ·have h1:=(Sy hr hh).1;have h2:=(Ck hg (t:=t) (by have:=(qg hg).2.2;omega)).1;grind[tx]
 ·exact hu t ht θ ho hh
def ymg{g:Gnd}(hg:zw g){l:List Bld}{c:Int}{p:Vc}{r y:Int}(hr:0<r)(hp:0<=p.2+r)(hy:¬(y<=(p.2+r)/65536)\/¬(y<g.H))(hu:Nb g l c p r y):∀t,t<g.T.length->yp g l c t=false->¬ja g t p r:=by
 intro t ht ho hh;by_cases e:(t:Int)/g.W<y
 ·exact hu t ht e ho hh
 ·have h1:=(Sy hr hh).2;have h2:=(Ck hg (t:=t) (by have:=(qg hg).2.2;omega)).2;grind[ty]
def ymh{g:Gnd}(hg:zw g){l:List Bld}{c:Int}{p:Vc}{r y x:Int}(hx:0<=x/\x<g.W)(hy:0<=y/\y<g.H)(h:Ph g l c p r y x)(hn:yp g l c (x+g.W*y).toNat=false->¬ja g (x+g.W*y).toNat p r):Ph g l c p r y (x+1):=by
 intro t ht e1 e2 ho;by_cases e:(t:Int)%g.W<x
 ·exact h t ht e1 e ho
 ·have e3:(t:Int)%g.W=x:=θ;have q:=Fdd (t:Int) g.W;grind
section
variable {g:Gnd} {x y:Int} {s:Nat}
def onG(g:Gnd)(x y:Int):Prop:=(0<=x/\x<g.W)/\(0<=y/\y<g.H)
instance(g:Gnd)(x y:Int):Decidable (onG g x y):=inferInstanceAs (Decidable (_/\_))
def tl(g:Gnd)(x y:Int):Nat:=(x+g.W*y).toNat
def Cj(hg:zw g)(h:onG g x y):((tl g x y:Nat):Int)=x+g.W*y/\tl g x y<g.T.length/\(tl g x y:Int)%g.W=x/\(tl g x y:Int)/g.W=y:=by
 obtain⟨h1,h2,h3⟩:=qg hg;obtain⟨⟨hx,hx2⟩,hy,hy2⟩:=h;have hW:1<=g.W:=hg.1.1;have e0:0<=g.W*y:=Fav θ hy;have e:((tl g x y:Nat):Int)=x+g.W*y:=by unfold tl;omega
 have e1:g.W*y<=g.W*(g.H-1):=Fa9 (Fcu _) θ hy θ;rw[Int.mul_sub,Int.mul_one]at e1;refine⟨e,θ,?_,?_⟩
 ·simp_all[Fc8]
 ·rw[e,Fd1 _ _ θ,Fb8 hx hx2,Int.zero_add]
def Mj(hg:zw g){t:Nat}(ht:t<g.T.length):onG g ((t:Int)%g.W) ((t:Int)/g.W)/\tl g ((t:Int)%g.W) ((t:Int)/g.W)=t:=by obtain⟨h1,h2,h3⟩:=qg hg;have hW:1<=g.W:=hg.1.1;have a:=Fcf (t:Int) (show g.W≠0 by omega);have b:=Fcs (t:Int) (show 0<g.W by omega);have c:=Fb2 (show 0<=(t:Int) by omega) (show 0<=g.W by omega);have d:(t:Int)/g.W<g.H:=Fd0 θ (by rw[Int.mul_comm];omega);refine⟨⟨⟨a,b⟩,c,d⟩,?_⟩;unfold tl;rw[Fdd];omega
def sqP(g:Gnd)(f:Nat->Bool)(s:Nat)(x y:Int):Prop:=∀a b:Int,-(s:Int)<=a->a<=s->-(s:Int)<=b->b<=s->onG g (x+a) (y+b)/\f (tl g (x+a) (y+b))=true
theorem sq_zero{f:Nat->Bool}:sqP g f 0 x y↔onG g x y/\f (tl g x y)=true:=by
 constructor
 ·intro h;have:=h 0 0 ψ ψ ψ ψ;simpa using this
 ·intro h a b h1 h2 h3 h4;grind
theorem sq_succ{f:Nat->Bool}:sqP g f (s+1) x y↔∀a b:Int,-1<=a->a<=1->-1<=b->b<=1->onG g (x+a) (y+b)/\sqP g f s (x+a) (y+b):=by
 constructor
 ·intro h a b h1 h2 h3 h4;refine⟨(h a b θ θ θ θ).1,λa' b' k1 k2 k3 k4=>?_⟩;have:=h (a+a') (b+b') θ θ θ θ;grind
 ·intro h a b h1 h2 h3 h4;obtain⟨a1,ha1,ha2,ha3,ha4⟩:∃a1:Int,-1<=a1/\a1<=1/\-(s:Int)<=a-a1/\a-a1<=s:=by
   by_cases c1:a>s
   ·exact⟨1,θ,θ,θ,θ⟩
   ·by_cases c2:a< -s
    ·exact⟨-1,θ,θ,θ,θ⟩
    ·exact⟨0,θ,θ,θ,θ⟩
  obtain⟨b1,hb1,hb2,hb3,hb4⟩:∃b1:Int,-1<=b1/\b1<=1/\-(s:Int)<=b-b1/\b-b1<=s:=by
   by_cases c1:b>s
   ·exact⟨1,θ,θ,θ,θ⟩
   ·by_cases c2:b< -s
    ·exact⟨-1,θ,θ,θ,θ⟩
    ·exact⟨0,θ,θ,θ,θ⟩
  have:=(h a1 b1 ha1 ha2 hb1 hb2).2 (a-a1) (b-b1) ha3 ha4 hb3 hb4;grind
def bo{f:Nat->Bool}{s':Nat}(hs:s'<=s)(h:sqP g f s x y):sqP g f s' x y:=λa b h1 h2 h3 h4=>h a b θ θ θ θ
def zub{f:Nat->Bool}(h:sqP g f s x y):2*(s:Int)+1<=g.W:=by have h1:=(h (-(s:Int)) 0 θ θ θ θ).1.1.1;have h2:=(h s 0 θ θ θ θ).1.1.2;omega
def m5(a b c d e:Int):Int:=min (min (min (min a (b+1)) (c+1)) (d+1)) (e+1)
def ymp{f:Nat->Bool}{A B:Int->Int->Int}(oA:∀x y,¬onG g x y->A x y=0)(oB:∀x y,¬onG g x y->B x y=0)
  (hA:∀x y,onG g x y->A x y=m5 (if f (tl g x y)then 128 else 0) (A (x-1) y) (A (x-1) (y-1)) (A x (y-1)) (A (x+1) (y-1)))
  (hB:∀x y,onG g x y->B x y=m5 (A x y) (B (x+1) y) (B (x+1) (y+1)) (B x (y+1)) (B (x-1) (y+1))) (hxy:onG g x y) (s:Nat) (hs:s<=127):(s:Int)<B x y↔sqP g f s x y:=by
 -- not below 0
 have nA:∀n:Nat,∀x y,onG g x y->y*200+x<n->0<=A x y:=by
  intro n;induction n with
  |zero=>intro x y h hn;obtain⟨⟨h1,h2⟩,h3,h4⟩:=h;omega
  |succ n ih=>
   intro x y h hn;have any:∀x' y',y'*200+x'<y*200+x->0<=A x' y':=λx' y' hl=>by
    by_cases ho:onG g x' y'
    ·exact ih x' y' ho θ
    ·rw[oA x' y' ho];decide
   rw[hA x y h];have a1:=any (x-1) y θ;have a2:=any (x-1) (y-1) θ;have a3:=any x (y-1) θ;have a4:=any (x+1) (y-1) θ;have a5:(0:Int)<=(if f (tl g x y)then 128 else 0):=by split<;>decide
   unfold m5;omega
 have pA:∀x y,0<=A x y:=λx y=>by
  by_cases ho:onG g x y
  ·exact nA (y*200+x+1).toNat x y ho (by obtain⟨⟨h1,h2⟩,h3,h4⟩:=ho;omega)
  ·rw[oA x y ho];decide
 have nB:∀n:Nat,∀x y,onG g x y->(g.H-y)*200+(g.W-x)<n->0<=B x y:=by
  intro n;induction n with
  |zero=>intro x y h hn;obtain⟨⟨h1,h2⟩,h3,h4⟩:=h;omega
  |succ n ih=>
   intro x y h hn;have any:∀x' y',(g.H-y')*200+(g.W-x')<(g.H-y)*200+(g.W-x)->0<=B x' y':=λx' y' hl=>by
    by_cases ho:onG g x' y'
    ·exact ih x' y' ho θ
    ·rw[oB x' y' ho];decide
   rw[hB x y h];have a1:=any (x+1) y θ;have a2:=any (x+1) (y+1) θ;have a3:=any x (y+1) θ;have a4:=any (x-1) (y+1) θ;have a5:=pA x y;unfold m5;omega
 have pB:∀x y,0<=B x y:=λx y=>by
  by_cases ho:onG g x y
  ·exact nB ((g.H-y)*200+(g.W-x)+1).toNat x y ho (by obtain⟨⟨h1,h2⟩,h3,h4⟩:=ho;omega)
  ·rw[oB x y ho];decide
 constructor
 ·-- what is bad is not farther than its steps
  have up1:∀d:Nat,∀x y a b,onG g x y->-(d:Int)<=a->a<=d->-(d:Int)<=b->b<=0->a<=-b->¬(onG g (x+a) (y+b)/\f (tl g (x+a) (y+b))=true)->A x y<=d:=by
   intro d;induction d with
   |zero=>
    intro x y a b h h1 h2 h3 h4 h5 hbad;have ea:a=0:=θ;have eb:b=0:=θ;subst ea eb;rw[Fb7,Fb7]at hbad;have hf:¬f (tl g x y)=true:=λhf=>hbad ⟨h,hf⟩;rw[hA x y h,if_neg hf];unfold m5;omega
   |succ d ih=>
    intro x y a b h h1 h2 h3 h4 h5 hbad;have go:∀u v:Int,-(d:Int)<=a-u->a-u<=d->-(d:Int)<=b-v->b-v<=0->a-u<=-(b-v)->A (x+u) (y+v)<=d:=λu v g1 g2 g3 g4 g5=>by
     by_cases ho:onG g (x+u) (y+v)
     ·refine ih (x+u) (y+v) (a-u) (b-v) ho g1 g2 g3 g4 g5 ?_;rw[show x+u+(a-u)=x+a by omega,show y+v+(b-v)=y+b by omega];exact hbad
     ·rw[oA _ _ ho];omega
    have hk:=hA x y h;unfold m5 at hk;by_cases cb:b=0
    ·by_cases ca:a=0
     ·subst ca cb;rw[Fb7,Fb7]at hbad;have hf:¬f (tl g x y)=true:=λhf=>hbad ⟨h,hf⟩;rw[if_neg hf]at hk;omega
     ·have:=go (-1) 0 θ θ θ θ θ;rw[show x+-1=x-1 by omega,Fb7]at this;omega
    ·by_cases ca:a=0
     ·have:=go 0 (-1) θ θ θ θ θ;rw[show y+-1=y-1 by omega,Fb7]at this;omega
     ·by_cases ca2:a<0
      ·have:=go (-1) (-1) θ θ θ θ θ;rw[show y+-1=y-1 by omega,show x+-1=x-1 by omega]at this;omega
      ·have:=go 1 (-1) θ θ θ θ θ;rw[show y+-1=y-1 by omega]at this;omega
  have up2:∀d:Nat,∀x y a b,onG g x y->-(d:Int)<=a->a<=d->-(d:Int)<=b->b<=d->¬(onG g (x+a) (y+b)/\f (tl g (x+a) (y+b))=true)->B x y<=d:=by
   intro d;induction d with
   |zero=>
    intro x y a b h h1 h2 h3 h4 hbad;have:=up1 0 x y a b h h1 h2 h3 θ θ hbad;have hk:=hB x y h;unfold m5 at hk;omega
   |succ d ih=>
    intro x y a b h h1 h2 h3 h4 hbad;have hk:=hB x y h;unfold m5 at hk;by_cases cone:b<=0/\a<=-b
    ·have:=up1 (d+1) x y a b h h1 h2 h3 cone.1 cone.2 hbad;omega
    have go:∀u v:Int,-(d:Int)<=a-u->a-u<=d->-(d:Int)<=b-v->b-v<=d->B (x+u) (y+v)<=d:=λu v g1 g2 g3 g4=>by
     by_cases ho:onG g (x+u) (y+v)
     ·refine ih (x+u) (y+v) (a-u) (b-v) ho g1 g2 g3 g4 ?_;rw[show x+u+(a-u)=x+a by omega,show y+v+(b-v)=y+b by omega];exact hbad
     ·rw[oB _ _ ho];omega
    by_cases cb:b<=0
    ·have:=go 1 0 θ θ θ θ;rw[Fb7]at this;omega
    ·by_cases ca:a=0
     ·have:=go 0 1 θ θ θ θ;rw[Fb7]at this;omega
     ·by_cases ca2:a<0
      ·have:=go (-1) 1 θ θ θ θ;rw[show x+-1=x-1 by omega]at this;omega
      ·have:=go 1 1 θ θ θ θ;omega
  intro hlt a b h1 h2 h3 h4;refine Classical.byContradiction λhbad=>?_;have:=up2 s x y a b hxy h1 h2 h3 h4 hbad;omega
 ·-- what is good all about is far
  have loA:∀s:Nat,s<=127->∀x y,sqP g f s x y->(s:Int)<A x y:=by
   intro s;induction s with
   |zero=>
    intro _ x y h;obtain⟨ho,hf⟩:=sq_zero.1 h;rw[hA x y ho,if_pos hf];have a1:=pA (x-1) y;have a2:=pA (x-1) (y-1);have a3:=pA x (y-1);have a4:=pA (x+1) (y-1);unfold m5;omega
   |succ s ih=>
    intro hs x y h;have h2:=sq_succ.1 h;have nb:=λ(a b:Int) h3 h4 h5 h6=>ih θ _ _ (h2 a b h3 h4 h5 h6).2;obtain⟨ho,hf⟩:=sq_zero.1 (bo (Fad _) h);have a1:=nb (-1) 0 ψ ψ ψ ψ;have a2:=nb (-1) (-1) ψ ψ ψ ψ;have a3:=nb 0 (-1) ψ ψ ψ ψ;have a4:=nb 1 (-1) ψ ψ ψ ψ;rw[show x+-1=x-1 by omega]at a1 a2;rw[show y+-1=y-1 by omega]at a2 a3 a4;rw[Fb7]at a1 a3;rw[hA x y ho,if_pos hf];unfold m5;omega
  have loB:∀s:Nat,s<=127->∀x y,sqP g f s x y->(s:Int)<B x y:=by
   intro s;induction s with
   |zero=>
    intro hs x y h;obtain⟨ho,hf⟩:=sq_zero.1 h;rw[hB x y ho];have a1:=pB (x+1) y;have a2:=pB (x+1) (y+1);have a3:=pB x (y+1);have a4:=pB (x-1) (y+1);have a5:=loA 0 hs x y h;unfold m5;omega
   |succ s ih=>
    intro hs x y h;have h2:=sq_succ.1 h;have nb:=λ(a b:Int) h3 h4 h5 h6=>ih θ _ _ (h2 a b h3 h4 h5 h6).2;obtain⟨ho,hf⟩:=sq_zero.1 (bo (Fad _) h);have a1:=nb 1 0 ψ ψ ψ ψ;have a2:=nb 1 1 ψ ψ ψ ψ;have a3:=nb 0 1 ψ ψ ψ ψ;have a4:=nb (-1) 1 ψ ψ ψ ψ;rw[show x+-1=x-1 by omega]at a4;rw[Fb7]at a1 a3;have a5:=loA (s+1) hs x y h;rw[hB x y ho];unfold m5;omega
  exact loB s hs x y
end
end Go.V
