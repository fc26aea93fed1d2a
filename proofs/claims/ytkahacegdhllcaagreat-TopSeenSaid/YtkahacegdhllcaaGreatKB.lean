/- Ground of laws of throngtop: contracts and plain lemmas; no condition beyond the row's own. -/
import Derived.Laws.Append
import Derived.Tactics
import Derived.RangeFuncLeaves
import Derived.Test.YtkahacegdhllcaaGreatKA
set_option linter.unusedSimpArgs false
set_option linter.unusedVariables false
set_option linter.defProp false
namespace Go.V
section
variable {P:Program} {c:Cfg} {w:World} {Oth M:BB} {st:Store}
def CellsRel.mono{T T':BB}(hs:∀b o,T' b o->T b o){l:List AV}{b:Nat}(h:CellsRel w T l b):CellsRel w T' l b:=by have⟨c,e,fr,h1,h2,h3,h4⟩:=h;exact⟨c,e,fr,h1,h2,h3,λi x y hx hy=>(h4 i x y hx hy).mono hs⟩
def ObjRel.mono{T T':BB}(hs:∀b o,T' b o->T b o){x:AObj}{b:Nat}(h:ObjRel w T x b):ObjRel w T' x b:=by
  cases x with
  |cells l=>exact CellsRel.mono hs h
  | map es bs clock=>
    have⟨ms,h1,h2,h3,h4⟩:=h;exact⟨ms,h1,h2,λi x y hx hy=>⟨(h3 i x y hx hy).1.mono hs,(h3 i x y hx hy).2.mono hs⟩,h4⟩
  |iter m since seen last=>exact h
  |ghost o gh=>exact⟨h.1,λp hp=>(h.2 p hp).mono hs⟩
def LRel.mono{T T':BB}(hs:∀b o,T' b o->T b o){β:Nat->Nat}{x:LV}{v:Value}(h:LRel w T β x v):LRel w T' β x v:=by
  cases x with
  |any=>trivial
  |und=>exact h
  |av x=>exact VRel.mono hs h
  |bx k off=>exact h
def SimB.shrink{n:SN}{β:Nat->Nat}{A:Fr}{a:Act}(h:SimB n Oth β A st M a w){M':BB}(hs:∀b o,M' b o->M b o)
    (hb:∀k l,A.bx k=some l->∀o,M' (β k) o) (ho:∀b x,st.obj b=some x->∀o,M' b o) (ht:∀b top,st.tok b=some top->∀o,top<=o->M' b o):SimB n Oth β A st M' a w where
  tsz:=h.tsz
  dfr:=h.dfr.sub hs
  tm i:=(h.tm i).mono λb o hm=>hm.imp (hs b o) id
  bx k l hk:=⟨(h.bx k l hk).1.mono λb o hm=>hm.imp (hs b o) id,hb k l hk⟩
  inj:=h.inj
  sep:=h.sep
  sto:=
    { obj:=λb x hx=>⟨(h.sto.obj b x hx).1.mono λb o hm=>hm.imp (hs b o) id,ho b x hx⟩
      tok:=λb top hx=>by have⟨c,e,fr,h1,h2,h3,h4⟩:=h.sto.tok b top hx;grind
      mlt:=λb o hm=>h.sto.mlt b o (hs b o hm)
      olt:=h.sto.olt
      dis:=λb o hO hM=>h.sto.dis b o hO (hs b o hM)}
def gr(M:BB)(B top:Nat):Nat->Nat->Prop:=λb o=>M b o\/(b=B/\top<=o)
def zju(w:World)(o:Obj)(M:BB)(top:Nat):Chg M w (gr M w.heap.size top) (w.alloc o):=
  { Kx w o M with
    sub:=λb o' hm hb=>by
      rcases hm with h|h
      · exact h
      · omega}
def SimB.newTok{n:SN}{β:Nat->Nat}{A:Fr}{a:Act}(h:SimB n Oth β A st M a w)(cs:Array Value)(e:TypeId)(top:Nat)(htop:top<=cs.size):
    SimB n Oth β A (st.sT w.heap.size (some top)) (gr M w.heap.size top) a (w.alloc (.cells cs e)):=by
  have hlt:∀b,(st.obj b≠none\/st.tok b≠none)->b<w.heap.size:=λb hb=>by
    rcases hb with hb|hb
    · cases ho:st.obj b with
      |none=>grind
      |some x=>exact(h.sto.obj b x ho).1.lt
    · cases ho:st.tok b with
      |none=>grind
      | some x=>
        have⟨c,e,fr,h1,_⟩:=h.sto.tok b x ho;grind
  have h1:=(h.grow1 (.cells cs e)).shrink (M':=gr M w.heap.size top) (λb o hm=>hm.imp id λh=>h.1)
    (λk l hk o=>.inl ((h.bx k l hk).2 o)) (λb x hx o=>.inl ((h.sto.obj b x hx).2 o))
    (λb t hx o ho=>by have⟨c,e,fr,h1,h2,h3,h4⟩:=h.sto.tok b t hx;exact .inl (h4 o ho))
  refine{h1 with sep:=λk b hk hb he=>?_,sto:={h1.sto with tok:=λb t ht=>?_}}
  · by_cases hbs:b=w.heap.size
    · cases hl:A.bx k with
      |none=>grind
      |some l=>have:=(h.bx k l hl).1.lt;omega
    · refine h.sep k b hk ?_ he
      simpa [Store.sT,y9 hbs]using hb
  · by_cases hbs:b=w.heap.size
    · subst hbs
      simp only[Store.sT,Fb5,cond_true,Fam]at ht;subst ht;exact⟨cs,e,(0,0),Kq w _,.inl rfl,htop,λo ho=>.inr ⟨rfl,ho⟩⟩
    · simp only[Store.sT,y9 hbs,cond_false]at ht
      exact h1.sto.tok b t ht
structure Wrote(w:World)(b o:Nat)(vs:List Value)(w':World):Prop where
  size:w'.heap.size=w.heap.size
  other:∀b',b'≠b->w'.heap[b']?=w.heap[b']?
  blk:∀c e fr,w.heap[b]?=some (.cells c e fr)->∃c',w'.heap[b]?=some (.cells c' e fr)/\c'.toList=c.toList.take o++vs++c.toList.drop (o+vs.length)/\c'.size=c.size
  tape:w'.tape=w.tape
  os:w'.os=w.os
  output:w'.output=w.output
theorem dp(w:World)(b o:Nat)(v:Value)(b':Nat):(w.setCell ⟨b,o,none⟩ v).heap[b']?=if b'=b then(w.heap[b']?).map (λ|.cells c e fr=>.cells (c.setIfInBounds o v) e fr|x=>x)else w.heap[b']?:=by simp only[World.setCell,Fc8];grind
def Kf(w:World)(b o:Nat):∀(vs:List Value) (i:Nat) (w:World) (c:Array Value) (e:TypeId) (fr:Nat×Nat),w.heap[b]?=some (.cells c e fr)->Gk fr c.size->o+i+vs.length<=c.size->
    (∀v∈vs,xe v=true)->∃w',(storeCells ⟨b,o,none⟩ vs i).run P w=.ok () w'/\Wrote w b (o+i) vs w':=by
  intro vs;induction vs with
  | nil=>
    intro i w c e fr hw _ _ _;exact⟨w,ζ,rfl,λ_ _=>rfl,λc e fr h=>⟨c,h,φ,rfl⟩,rfl,rfl,rfl⟩
  | cons v vs ih=>
    intro i w c e fr hw hf hlen hone;simp only[Fbf]at hlen;have hlt:o+i<c.size:=θ;have hcell:w.cell? ⟨b,o+i,none⟩=some c[o+i]:=by simp[World.cell?,hw,hlt]
    have hfz:w.frozen? ⟨b,o+i,none⟩=false:=by grind[World.frozen?,Gk]
    have hst:(store (Addr.add ⟨b,o,none⟩ i) v).run P w=.ok () (w.setCell ⟨b,o+i,none⟩ v):=by rw[wk];have h1:=hone v φ;cases v<;>simp[xe]at h1<;>simp[store,Sem.run,hcell,hfz]
    have hw1:(w.setCell ⟨b,o+i,none⟩ v).heap[b]?=some (.cells (c.setIfInBounds (o+i) v) e fr):=by simp_all[dp]
    have⟨w',hr,hwr⟩:=ih (i+1) _ _ e fr hw1 δ δ (λv hv=>hone v (by simp[hv]));refine⟨w',by grind[storeCells,Sem.run_bind,Result.andThen_ok],by rw[hwr.size];simp,λb' hb=>by rw[hwr.other b' hb,dp,if_neg hb],λc₁ e₁ fr₁ hc₁=>?_,by rw[hwr.tape];rfl,by rw[hwr.os];rfl,by rw[hwr.output];rfl⟩;rw[hw]at hc₁;cases hc₁;have⟨c',hc',hl,hs⟩:=hwr.blk _ _ _ hw1;refine⟨c',hc',?_,δ⟩;rw[hl,Fek];have hlt':o+i<c.toList.length:=θ;apply Fb4;intro j;simp only[List.getElem?_append,Fc7,Fbq,Fds,Fac,Fai,Fak,Fbf,Fcp];grind
def Wrote.keeps{b o:Nat}{vs:List Value}{w':World}(h:Wrote w b o vs w'){T:BB}(hb:∀o,T b o):Keeps w T w' T where
  cell b' o' c hc hT:=by have hne:b'≠b:=λe=>hT (e▸hb o');rw[G5 (h.other b' hne)];exact hc
  out b' o' c hc hT:=hT
  shp b' c e fr hw:=by
    by_cases hbb:b'=b
    · subst hbb
      have⟨c',h1,_,h2⟩:=h.blk c e fr hw;grind
    · exact⟨c,fr,by rw[h.other b' hbb];exact hw,rfl⟩
def Wrote.chg{b o:Nat}{vs:List Value}{w':World}(h:Wrote w b o vs w')(hb:∀o,M b o):Chg M w M w' where
  size:=by rw[h.size];simp
  keep b' o' _ hm:=G5 (h.other b' λe=>hm (e▸hb o')) o'
  blk b' _ hm:=h.other b' λe=>hm 0 (e▸hb 0)
  shp:=(h.keeps (T:=M) hb).shp
  sub _ _ hm _:=hm
  tape:=h.tape
  os:=h.os
  output:=h.output
def CellsRel.wrote{b o:Nat}{vs:List Value}{w':World}{T:BB}(h:Wrote w b o vs w')(hT:∀o,T b o){l xs:List AV}(hl:CellsRel w T l b)(hx:Reads w T xs vs):
    CellsRel w' T (zq l o xs) b:=by
  have⟨c,e,fr,h1,h2,h3,h4⟩:=hl;have⟨c',h5,h6,h7⟩:=h.blk c e fr h1;have hr:Reads w T l c.toList:=⟨θ,λi x y hx hy=>h4 i x y hx δ⟩
  have hr':Reads w' T (zq l o xs) c'.toList:=by rw[h6];unfold zq;refine(((hr.take o).append hx).append ?_).keep (h.keeps hT);rw[hx.1];exact hr.drop _
  exact⟨c',e,fr,h5,h2,by simpa using hr'.1,λi x y hx hy=>hr'.2 i x y hx δ⟩
def StoreOK.wrote{b o:Nat}{vs:List Value}{w':World}(h:StoreOK st Oth M w)(hw:Wrote w b o vs w')(hb:∀o,M b o)(hob:st.obj b=none):StoreOK st Oth M w' where
  obj b' x hx:=by have hne:b'≠b:=λe=>δ;exact⟨ObjRel.same (h.obj b' x hx).1 (hw.keeps λo=>.inl (hb o)) (hw.other b' hne),(h.obj b' x hx).2⟩
  tok b' top ht:=by
    have⟨c,e,fr,h1,h2,h3,h4⟩:=h.tok b' top ht;by_cases he:b'=b
    · subst he
      have⟨c',h5,_,h6⟩:=hw.blk c e fr h1;grind
    · exact⟨c,e,fr,ψb,h2,h3,h4⟩
  mlt b' o' hm:=by rw[hw.size];exact h.mlt b' o' hm
  olt b' o' hm:=by rw[hw.size];exact h.olt b' o' hm
  dis:=h.dis
theorem SimB.setBx{n:SN}{β:Nat->Nat}{A:Fr}{a:Act}(h:SimB n Oth β A st M a w){k o:Nat}{l xs:List AV}{vs:List Value}{w':World}(hk:A.bx k=some l)
    (hx:Reads w (λb o=>M b o\/Oth b o) xs vs) (hw:Wrote w (β k) o vs w'):SimB n Oth β (A.setBx k (zq l o xs)) st M a w':=by
  have hM:=(h.bx k l hk).2;have hT:∀o,M (β k) o\/Oth (β k) o:=λo=>.inl (hM o);have hsome:∀k',(A.setBx k (zq l o xs)).bx k'≠none->A.bx k'≠none:=by grind[Fr.setBx,y9]
  have hob:st.obj (β k)=none:=by
    cases ho:st.obj (β k)with
    |none=>rfl
    |some x=>exact absurd rfl (h.sep k (β k) δ (.inl δ))
  exact
    { tsz:=h.tsz
      dfr:=h.dfr.step λD _ _ h2=>⟨hw.other D λe=>(h2 0).1 (e▸hM 0),λo=>(h2 o).1⟩
      tm:=λi=>(h.tm i).keep (hw.keeps hT)
      bx:=λk' l' hk'=>by
        by_cases he:k'=k
        · subst he
          simp only[Fr.setBx,Fb5,cond_true,Fam]at hk';subst hk';exact⟨CellsRel.wrote hw hT (h.bx k' l hk).1 hx,hM⟩
        · simp only[Fr.setBx,y9 he,cond_false]at hk'
          have hne:β k'≠β k:=λe=>he (h.inj k' k δ δ e);exact⟨(h.bx k' l' hk').1.same (hw.keeps hT) (hw.other _ hne),(h.bx k' l' hk').2⟩
      inj:=λk1 k2 h1 h2=>h.inj k1 k2 (hsome k1 h1) (hsome k2 h2)
      sep:=λk1 b h1=>h.sep k1 b (hsome k1 h1)
      sto:=h.sto.wrote hw hM hob}
theorem SimB.sO{n:SN}{β:Nat->Nat}{A:Fr}{a:Act}(h:SimB n Oth β A st M a w){b o:Nat}{l xs:List AV}{vs:List Value}{w':World}(hk:st.obj b=some (.cells l))
    (hx:Reads w (λb o=>M b o\/Oth b o) xs vs) (hw:Wrote w b o vs w'):SimB n Oth β A (st.sO b (.cells (zq l o xs))) M a w':=by
  have hM:=(h.sto.obj b _ hk).2;have hT:∀o,M b o\/Oth b o:=λo=>.inl (hM o)
  exact
    { tsz:=h.tsz
      dfr:=h.dfr.step λD _ _ h2=>⟨hw.other D λe=>(h2 0).1 (e▸hM 0),λo=>(h2 o).1⟩
      tm:=λi=>(h.tm i).keep (hw.keeps hT)
      bx:=λk' l' hk'=>by have hne:β k'≠b:=h.sep k' b δ (.inl δ);exact⟨(h.bx k' l' hk').1.same (hw.keeps hT) (hw.other _ hne),(h.bx k' l' hk').2⟩
      inj:=h.inj
      sep:=λk1 b1 h1 h2=>h.sep k1 b1 h1 (by grind[Store.sO,y9])
      sto:=
        { obj:=λb' x hx'=>by
            by_cases he:b'=b
            · subst he
              simp only[Store.sO,Fb5,cond_true,Fam]at hx';subst hx';exact⟨CellsRel.wrote hw hT (h.sto.obj b' _ hk).1 hx,hM⟩
            · simp only[Store.sO,y9 he,cond_false]at hx'
              exact⟨ObjRel.same (h.sto.obj b' x hx').1 (hw.keeps hT) (hw.other b' he),(h.sto.obj b' x hx').2⟩
          tok:=λb' top ht=>by
            have⟨c,e,fr,h1,h2,h3,h4⟩:=h.sto.tok b' top ht;by_cases he:b'=b
            · subst he
              have⟨c',h5,_,h6⟩:=hw.blk c e fr h1;grind
            · exact⟨c,e,fr,ψb,h2,h3,h4⟩
          mlt:=λb' o' hm=>by rw[hw.size];exact h.sto.mlt b' o' hm
          olt:=λb' o' hm=>by rw[hw.size];exact h.sto.olt b' o' hm
          dis:=h.sto.dis}}
end
section
variable {P:Program} {c:Cfg} {K:Fr->Store->Prop} {A:Fr} {st:Store}
def Bh{d n:Nat}{p:Prop}(h:bif Nat.blt d n then p else False):d<n/\p:=θd
theorem yuf{o:Oper}{t:TypeId}(ho:o.op=.alloc t)(hI:qe P c.I)
    (h:optK (c.I t) λi=>optK o.dst λd=>bif Nat.blt d c.n then
      (bif c.G.contains d then∀b,Fresh st b->K (A.put d (.av (.s (.pointer (some ⟨b,0,none⟩))))) (st.sO b (.cells (Cu i)))
        else K (A.newBx d (Cu i)) st)else False):AOp P c.N o K A st:=by
  have⟨i,hi,h⟩:=zt h;have⟨d,hd,h⟩:=zt h;have⟨hlt,h⟩:=Bh h;rintro Oth M a w ⟨β,sim⟩;have⟨z,hz1,hz2⟩:=Ln (hI _ _ hi) w;have hr:(execOp a.eval o).run P w=.ok (.value (.pointer (some ⟨w.heap.size,0,none⟩))) (w.alloc (.cells z.cells t)):=by simp_all[execOp,Instr.alloc,newVar,newRow]
  have hrd:∀T,Reads w T (Cu i) z.cells.toList:=λT=>by grind[Cu,Reads.map_s]
  unfold Oper.wp;rw[hr,Oper.upon_value,hd];cases hg:c.G.contains d with
  | true=>
    rw[hg]at h;exact⟨_,_,vg M w.heap.size,h w.heap.size (sim.sto.fresh (Fah _)),⟨β,(sim.newObj _ (.cells (Cu i)) (Sx w t M Oth (hrd _))).put hlt (VRel.s _)⟩,Kx _ _ _⟩
  | false=>
    rw[hg]at h;exact⟨_,_,vg M w.heap.size,h,⟨_,sim.newBx hlt t (hrd _)⟩,Kx _ _ _⟩
theorem yuc{o:Oper}{t:TypeId}{x:Operand}(ho:o.op=.box t x)(hI:qe P c.I)
    (h:optK o.dst λd=>bif Nat.blt d c.n then(match A.ev x with
      | .av x=>optK (cellsOf x) λl=>
        bif c.G.contains d then∀b,Fresh st b->K (A.put d (.av (.s (.pointer (some ⟨b,0,none⟩))))) (st.sO b (.cells l))
        else K (A.newBx d l) st
      |_=>False)else False):AOp P c.N o K A st:=by
  have⟨d,hd,h⟩:=zt h;have⟨hlt,h⟩:=Bh h;split at h
  · rename_i y hy
    have⟨l,hl,h⟩:=zt h;rintro Oth M a w ⟨β,sim⟩;have hv:=qn sim.env hy;have⟨hrd,_⟩:=um hv hl;have hr:(execOp a.eval o).run P w=.ok (.value (.pointer (some ⟨w.heap.size,0,none⟩))) (w.alloc (.cells (a.eval x).cells t)):=by simp[execOp,ho,Instr.box,newVar,newRow]
    unfold Oper.wp;rw[hr,Oper.upon_value,hd];cases hg:c.G.contains d with
    | true=>
      rw[hg]at h;exact⟨_,_,vg M w.heap.size,h w.heap.size (sim.sto.fresh (Fah _)),⟨β,(sim.newObj _ (.cells l) (Sx w t M Oth hrd)).put hlt (VRel.s _)⟩,Kx _ _ _⟩
    | false=>
      rw[hg]at h;exact⟨_,_,vg M w.heap.size,h,⟨_,sim.newBx hlt t hrd⟩,Kx _ _ _⟩
  grind
def yt7{o:Oper}{t:TypeId}{p x:Operand}(ho:o.op=.store t p x)(hd:o.dst=none)(hI:qe P c.I)
    (h:optK (c.I t) λi=>match A.ev x with
      |.av x=>Dx i A st (A.ev p) x K
      |_=>False):AOp P c.N o K A st:=by
  have⟨i,hi,h⟩:=zt h;split at h
  · rename_i y hy
    have⟨xs,hxs,h⟩:=zt h;cases hb:(Nat.beq xs.length i.size&&xs.all AV.one)with
    |false=>grind
    |true=>
    rw[hb]at h;simp only[cond_true]at h;simp only[Fa6]at hb;have hsz:xs.length=i.size:=(vw _ _).1 hb.1;rintro Oth M a w ⟨β,sim⟩;have hv:=qn sim.env hy;have⟨hrd,hone⟩:=um hv hxs;have hone':∀v∈(a.eval x).cells.toList,xe v=true:=by
      intro v hv;have⟨j,hj⟩:=Fbb.1 hv;have hjl:j<xs.length:=by rw[hrd.1];grind
      exact bo (hrd.2 j _ v (Fab hjl) hj) (Fcc.1 hb.2 _ (Faa hjl))
    have hvs:(a.eval x).cells.size=i.size:=by rw[<-hsz,hrd.1];simp
    unfold Oper.wp;split at h
    · rename_i k off hp
      have⟨l,hl,h⟩:=zt h;cases hb2:Nat.ble (off+xs.length) l.length with
      |false=>grind
      |true=>
      rw[hb2]at h;simp only[cond_true,Ht]at h;have hle:off+xs.length<=l.length:=Fbt hb2;have hp':a.eval p=.pointer (some ⟨β k,off,none⟩):=by have:=sim.ev p;rw[hp]at this;exact this
      have⟨⟨cs,e,fr,h1,h2,h3,h4⟩,hM⟩:=sim.bx k l hl;have⟨w',hr,hw⟩:=Kf (P:=P) w (β k) off (a.eval x).cells.toList 0 w cs e fr h1 (.inl h2) δ hone';have hrun:(execOp a.eval o).run P w=.ok .skip w':=ψ3;rw[hrun,Oper.upon_skip,hd];exact⟨_,_,M,h,⟨β,sim.setBx hl hrd hw⟩,hw.chg hM⟩
    · rename_i b off hp
      have⟨ob,hob,h⟩:=zt h;cases ob with
      |map es bs clock=>grind
      |iter m since seen last=>grind
      |ghost o gh=>grind
      |cells l=>
      have⟨hle,h⟩:=h;rw[Ht]at h;have hp':a.eval p=.pointer (some ⟨b,off,none⟩):=VRel.eq_s (qn sim.env hp);have⟨⟨cs,e,fr,h1,h2,h3,h4⟩,hM⟩:=sim.sto.obj b _ hob;have⟨w',hr,hw⟩:=Kf (P:=P) w b off (a.eval x).cells.toList 0 w cs e fr h1 (.inl h2) δ hone';have hrun:(execOp a.eval o).run P w=.ok .skip w':=ψ3;rw[hrun,Oper.upon_skip,hd];exact⟨_,_,M,h,⟨β,sim.sO hob hrd hw⟩,hw.chg hM⟩
    grind
  grind
end
section
variable {P:Program} {c:Cfg} {K:Fr->Store->Prop} {A:Fr} {st:Store}
def VRel.clos_inv{w:World}{T:BB}{f:FuncId}{cs:List AV}{v:Value}(h:VRel w T (.clos f cs) v):∃c,v=.func (.func f) #[] c/\Reads w T cs c.toList:=by
  cases h with
  |clos _ _ c hl h=>exact⟨c,rfl,θ,λi x y hx hy=>h i x y hx δ⟩
def inM(M:BB)(A:Fr)(β:Nat->Nat):Nat->Nat->Prop:=λb o=>M b o/\∀k,A.bx k≠none->β k≠b
def bj(Oth M:BB)(A:Fr)(β:Nat->Nat):Nat->Nat->Prop:=λb o=>Oth b o\/(M b o/\∃k,A.bx k≠none/\β k=b)
def Km{Oth M:BB}{β:Nat->Nat}:∀b o,(inM M A β b o\/bj Oth M A β b o)->(M b o\/Oth b o):=by
  rintro b o (h|h|h)
  · exact .inl h.1
  · grind
  grind
def SimB.inner{n:SN}{Oth M:BB}{β:Nat->Nat}{a:Act}{w:World}(sim:SimB n Oth β A st M a w):StoreOK st (bj Oth M A β) (inM M A β) w:=
  { obj:=λb x hx=>⟨(sim.sto.obj b x hx).1.mono Km,λo=>⟨(sim.sto.obj b x hx).2 o,λk hk=>sim.sep k b hk (.inl δ)⟩⟩
    tok:=λb top hx=>by have⟨c,e,fr,h1,h2,h3,h4⟩:=sim.sto.tok b top hx;exact⟨c,e,fr,h1,h2,h3,λo ho=>⟨h4 o ho,λk hk=>sim.sep k b hk (.inr δ)⟩⟩
    mlt:=λb o hm=>sim.sto.mlt b o hm.1
    olt:=λb o hm=>by
      rcases hm with h|h
      · exact sim.sto.olt b o h
      · exact sim.sto.mlt b o h.1
    dis:=λb o hO hM=>by
      rcases hO with h|⟨h,k,hk,he⟩
      · exact sim.sto.dis b o h hM.1
      · exact hM.2 k hk he}
def SimB.post{n:SN}{Oth M:BB}{β:Nat->Nat}{a:Act}{w:World}(sim:SimB n Oth β A st M a w){R:Ja}:
    ∀v w',xm st R (bj Oth M A β) (inM M A β) w v w'->∃r st' M',R r st'/\VRel w' (λb o=>M' b o\/Oth b o) r v/\SimB n Oth β A st' M' a w'/\Chg M w M' w':=by
  rintro v w' ⟨r,st',Mc',hR,hr,hsto,hchg⟩
  let M':Nat->Nat->Prop:=λb o=>Mc' b o\/(M b o/\∃k,A.bx k≠none/\β k=b)
  have hT2:∀b o,(M' b o\/Oth b o)->(Mc' b o\/bj Oth M A β b o):=by
    rintro b o ((h|h)|h)
    · grind
    · exact .inr (.inr h)
    · exact .inr (.inl h)
  have hblk:∀k,A.bx k≠none->w'.heap[β k]?=w.heap[β k]?:=λk hk=>by
    cases hl:A.bx k with
    |none=>grind
    |some l=>exact hchg.blk _ (sim.bx k l hl).1.lt λo hm=>hm.2 k hk rfl
  have hno:∀k b o,A.bx k≠none->Mc' b o->β k≠b:=λk b o hk hm he=>by
    subst he;cases hl:A.bx k with
    |none=>grind
    |some l=>exact(hchg.sub _ o hm (sim.bx k l hl).1.lt).2 k hk rfl
  refine⟨r,st',M',hR,hr.mono hT2,?_,?_⟩
  · exact
      { tsz:=sim.tsz
        dfr:=sim.dfr.step λD _ hl h2=>⟨hchg.blk D hl λo hm=>(h2 o).1 hm.1,λo hm=>by
          rcases hm with hm|hm
          · exact(h2 o).1 (hchg.sub D o hm hl).1
          grind⟩
        tm:=λi=>((LRel.mono Km (sim.tm i)).keep hchg.keeps).mono hT2
        bx:=λk l hl=>by have hk:A.bx k≠none:=δ;exact⟨(((sim.bx k l hl).1.mono Km).same hchg.keeps (hblk k hk)).mono hT2,λo=>.inr ⟨(sim.bx k l hl).2 o,k,hk,rfl⟩⟩
        inj:=sim.inj
        sep:=λk b hk hb=>by
          rcases hb with hb|hb
          · cases ho:st'.obj b with
            |none=>grind
            |some x=>exact hno k b 0 hk ((hsto.obj b x ho).2 0)
          · cases ho:st'.tok b with
            |none=>grind
            | some top=>
              have⟨c,e,fr,h1,h2,h3,h4⟩:=hsto.tok b top ho;grind
        sto:=
          { obj:=λb x hx=>⟨(hsto.obj b x hx).1.mono hT2,λo=>.inl ((hsto.obj b x hx).2 o)⟩
            tok:=λb top hx=>by have⟨c,e,fr,h1,h2,h3,h4⟩:=hsto.tok b top hx;grind
            mlt:=λb o hm=>by
              rcases hm with h|h
              · exact hsto.mlt b o h
              · exact Nat.lt_of_lt_of_le (sim.sto.mlt b o h.1) hchg.size
            olt:=λb o hm=>Nat.lt_of_lt_of_le (sim.sto.olt b o hm) hchg.size
            dis:=λb o hO hM=>by
              rcases hM with h|h
              · exact hsto.dis b o (.inl hO) h
              · exact sim.sto.dis b o hO h.1}}
  · exact
      { size:=hchg.size
        keep:=λb o hb hm=>hchg.keep b o hb λh=>hm h.1
        blk:=λb hb hm=>hchg.blk b hb λo h=>hm o h.1
        shp:=hchg.shp
        sub:=λb o hm hb=>by
          rcases hm with h|h
          · exact(hchg.sub b o h hb).1
          grind
        tape:=hchg.tape
        os:=hchg.os
        output:=hchg.output}
def SimB.call{n:SN}{Oth M:BB}{β:Nat->Nat}{a:Act}{w:World}(sim:SimB n Oth β A st M a w){g:FuncId}{args:List AV}{vs:Array Value}{R:Ja}
    (hc:ACalls P g args st R) (hv:Reads w (λb o=>M b o\/Oth b o) args vs.toList):
    Vi P (λv w'=>∃r st' M',R r st'/\VRel w' (λb o=>M' b o\/Oth b o) r v/\SimB n Oth β A st' M' a w'/\Chg M w M' w') ((callFunc g vs).run P w):=by
  have key:=sim.post (R:=R);have hout:=hc.out _ _ w vs sim.inner ⟨hv.1,λi x y hx hy=>(hv.2 i x y hx hy).mono Km⟩;generalize(callFunc g vs).run P w=res at*;cases res with
  |halt h w'=>trivial
  | ok nx w'=>
    cases nx with
    |enter f as=>exact Calls.mono hout λe w'' ⟨v,he,hp⟩=>⟨v,he,key v w'' hp⟩
    |value v=>exact key v w' hout
    |_=>trivial
def gm{o:Oper}(hI:qe P c.I)(h:vcX P c o K A st):AOp P c.N o K A st:=by
  have⟨vs,hvs,h⟩:=zt h;rintro Oth M a w ⟨β,sim⟩;have⟨hm1,hm2⟩:=Oj hvs;have hr:Reads w (λb o=>M b o\/Oth b o) vs (o.op.operands.map a.eval).toList:=by refine⟨by simp[hm1],λi x y hx hy=>?_⟩;have⟨z,hz,hzz⟩:=hm2 i x hx;have hz':o.op.operands[i]?=some z:=δ;rw[Fc1,Far,hz]at hy;simp at hy;subst hy;exact qn sim.env (Pu hzz)
  have hout:=h.out _ _ w a.eval hI sim.inner ⟨hr.1,λi x y hx hy=>(hr.2 i x y hx hy).mono Km⟩;have key:=sim.post (R:=λr st'=>xc A c.n o.dst (.av r) λA'=>K A' st')
  have fin:∀v w',(∃r st' M',(xc A c.n o.dst (.av r) λA'=>K A' st')/\VRel w' (λb o=>M' b o\/Oth b o) r v/\SimB c.N Oth β A st' M' a w'/\Chg M w M' w')->
      ∃A' st' M',K A' st'/\Sim c.N Oth A' st' M' (a.put o.dst v) w'/\Chg M w M' w':=by
    rintro v w' ⟨r,st',M',hk,hv,hs,hchg⟩;unfold xc at hk;cases hd:o.dst with
    |none=>rw[hd]at hk;exact⟨A,st',M',hk,⟨β,hs⟩,hchg⟩
    | some d=>
      rw[hd]at hk;have⟨hlt,hk⟩:=Bh hk;exact⟨_,st',M',hk,⟨β,hs.put hlt hv⟩,hchg⟩
  unfold Oper.wp;generalize(execOp a.eval o).run P w=res at*;cases res with
  |halt h w'=>grind
  | ok nx w'=>
    cases nx with
    |value v=>rw[Oper.upon_value];exact fin v w' (key v w' hout)
    | skip=>
      have⟨hd,hout⟩:=hout;rw[Oper.upon_skip];have:=fin _ w' (key _ w' hout);trivial
    |_=>grind
def zeb(w:World)(T:BB)(l:List Value):Reads w T (l.map AV.s) l:=⟨φ,λi x y hx hy=>by rw[Far,hy]at hx;cases hx;exact .s _⟩
def yo8{w:World}{T:BB}{x:LV}{g:FuncId}{fv cap:List AV}{v:Value}(h:dz x=some (g,fv,cap))(hx:∀y,x=.av y->VRel w T y v):∃f c,v=.func (.func g) f c/\Reads w T fv f.toList/\Reads w T cap c.toList:=by
  unfold dz at h;split at h
  · cases h
    have⟨c,h1,h2⟩:=VRel.clos_inv (hx _ rfl);exact⟨#[],c,h1,Reads.nil,h2⟩
  · cases h
    exact⟨_,_,VRel.eq_s (hx _ rfl),zeb _ _ _,zeb _ _ _⟩
  · cases h
theorem yub{o:Oper}{cl:Call}{f:Operand}(ho:o.op=.call cl)(hcl:cl.callee=.value f)
    (h:match dz (A.ev f)with
      | some (g,fv,cap)=>optK (cl.args.toList.mapM λx=>(A.ev x).toAV) λvs=>
        ACalls P g (fv++(vs++cap)) st λr st'=>xc A c.n o.dst (.av r) λA'=>K A' st'
      |_=>False):AOp P c.N o K A st:=by
  split at h
  · rename_i g fv cap hf
    have⟨vs,hvs,h⟩:=zt h;rintro Oth M a w ⟨β,sim⟩;have⟨fvv,capv,hcv,hfr,hcr⟩:=yo8 hf λx hx=>qn sim.env hx;have⟨hm1,hm2⟩:=Oj hvs;have hr1:Reads w (λb o=>M b o\/Oth b o) vs (cl.args.map a.eval).toList:=by refine⟨by simp[hm1],λi x y hx hy=>?_⟩;have⟨z,hz,hzz⟩:=hm2 i x hx;have hz':cl.args[i]?=some z:=δ;rw[Fc1,Far,hz]at hy;simp at hy;subst hy;exact qn sim.env (Pu hzz)
    have hr:Reads w (λb o=>M b o\/Oth b o) (fv++(vs++cap)) (fvv++(cl.args.map a.eval)++capv).toList:=by rw[Fbn,Fbn,Fas];exact hfr.append (hr1.append hcr)
    have hrun:(execOp a.eval o).run P w=(callFunc g (fvv++(cl.args.map a.eval)++capv)).run P w:=by grind[execOp,resolve,Deferred.ofValue,invoke]
    have hc:=sim.call h hr;unfold Oper.wp;rw[hrun]
    have fin:∀v w',(∃r st' M',(xc A c.n o.dst (.av r) λA'=>K A' st')/\VRel w' (λb o=>M' b o\/Oth b o) r v/\SimB c.N Oth β A st' M' a w'/\Chg M w M' w')->
        ∃A' st' M',K A' st'/\Sim c.N Oth A' st' M' (a.put o.dst v) w'/\Chg M w M' w':=by
      rintro v w' ⟨r,st',M',hk,hv,hs,hchg⟩;unfold xc at hk;cases hd:o.dst with
      |none=>rw[hd]at hk;exact⟨A,st',M',hk,⟨β,hs⟩,hchg⟩
      | some d=>
        rw[hd]at hk;have⟨hlt,hk⟩:=Bh hk;exact⟨_,st',M',hk,⟨β,hs.put hlt hv⟩,hchg⟩
    generalize(callFunc g (fvv++(cl.args.map a.eval)++capv)).run P w=res at*;cases res with
    |halt h w'=>trivial
    | ok nx w'=>
      cases nx with
      | enter f as=>
        rw[Oper.upon_enter];exact Calls.mono hc λe w'' ⟨v,he,hp⟩=>by subst he;exact fin v w'' hp
      |value v=>rw[Oper.upon_value];exact fin v w' hc
      |_=>trivial
  grind
theorem yt9{o:Oper}{cl:Call}{y:Operand}{m:String}(ho:o.op=.call cl)(hcl:cl.callee=.invoke y m)(h:cw P c o cl m (A.ev y) K A st):AOp P c.N o K A st:=by
  unfold cw at h;split at h
  · rename_i t v hf
    have⟨vs,hvs,g,x,⟨u,hm,hu⟩,h⟩:=zt h;rintro Oth M a w ⟨β,sim⟩;have hcv:a.eval y=.iface t v:=VRel.eq_s (qn sim.env hf);have⟨hm1,hm2⟩:=Oj hvs;have hr1:Reads w (λb o=>M b o\/Oth b o) vs (cl.args.map a.eval).toList:=by refine⟨by simp[hm1],λi x y hx hy=>?_⟩;have⟨z,hz,hzz⟩:=hm2 i x hx;have hz':cl.args[i]?=some z:=δ;rw[Fc1,Far,hz]at hy;simp at hy;subst hy;exact qn sim.env (Pu hzz)
    have hr:Reads w (λb o=>M b o\/Oth b o) (x::vs) (#[u]++(cl.args.map a.eval)).toList:=by grind[Reads.cons]
    have hrun:(execOp a.eval o).run P w=(callFunc g (#[u]++(cl.args.map a.eval))).run P w:=by
      have e1:(#[Value.iface t v]++Array.map a.eval cl.args).extract 1 (#[Value.iface t v]++Array.map a.eval cl.args).size=Array.map a.eval cl.args:=φ;have e2:execOp a.eval o=callMethod (.iface t v) m ((#[Value.iface t v]++Array.map a.eval cl.args).extract 1 (#[Value.iface t v]++Array.map a.eval cl.args).size):=by
        have e3:(#[Value.iface t v]++Array.map a.eval cl.args)[0]?=some (Value.iface t v):=by simp_all[Fdu]
        simp_all[execOp,resolve,invoke]
      rw[e2,e1];simp[callMethod,hm]
    have hc:=sim.call h hr;unfold Oper.wp;rw[hrun]
    have fin:∀v w',(∃r st' M',(xc A c.n o.dst (.av r) λA'=>K A' st')/\VRel w' (λb o=>M' b o\/Oth b o) r v/\SimB c.N Oth β A st' M' a w'/\Chg M w M' w')->
        ∃A' st' M',K A' st'/\Sim c.N Oth A' st' M' (a.put o.dst v) w'/\Chg M w M' w':=by
      rintro v w' ⟨r,st',M',hk,hv,hs,hchg⟩;unfold xc at hk;cases hd:o.dst with
      |none=>rw[hd]at hk;exact⟨A,st',M',hk,⟨β,hs⟩,hchg⟩
      | some d=>
        rw[hd]at hk;have⟨hlt,hk⟩:=Bh hk;exact⟨_,st',M',hk,⟨β,hs.put hlt hv⟩,hchg⟩
    generalize(callFunc g (#[u]++(cl.args.map a.eval))).run P w=res at*;cases res with
    |halt h w'=>trivial
    | ok nx w'=>
      cases nx with
      | enter f as=>
        rw[Oper.upon_enter];exact Calls.mono hc λe w'' ⟨v,he,hp⟩=>by subst he;exact fin v w'' hp
      |value v=>rw[Oper.upon_value];exact fin v w' hc
      |_=>trivial
  grind
end
section
variable {P:Program} {c:Cfg} {K:Fr->Store->Prop} {A:Fr} {st:Store}
def Ku{α:Type}{k:Nat}:∀{rows:List (List α)} (_:∀row∈rows,row.length=k) {i j:Nat} {row:List α} {x:α},rows[i]?=some row->row[j]?=some x->rows.flatten[i*k+j]?=some x:=by
  intro rows;induction rows with
  |nil=>simp
  | cons r rows ih=>
    intro hk i j row x h1 h2;have hr:r.length=k:=hk r φ;cases i with
    | zero=>
      grind
    | succ i=>
      grind
theorem Ge{α:Type}{k:Nat}:∀{rows:List (List α)} (_:∀row∈rows,row.length=k),rows.flatten.length=rows.length*k:=by
  intro rows;induction rows with
  |nil=>simp
  | cons r rows ih=>
    grind
theorem zcx(r l xs:List AV)(o:Nat):zq (r++l) (r.length+o) xs=r++zq l o xs:=by unfold zq;rw[List.take_append,List.drop_append];have h1:List.take (r.length+o) r=r:=Fck θ;have h2:List.drop (r.length+o+xs.length) r=[]:=Fc5 θ;rw[h1,h2];have e1:r.length+o-r.length=o:=θ;have e2:r.length+o+xs.length-r.length=o+xs.length:=θ;grind
theorem ype{k:Nat}{xs:List AV}(hx:xs.length=k):∀{rows:List (List AV)} (_:∀row∈rows,row.length=k) {i:Nat},i<rows.length->(rows.set i xs).flatten=zq rows.flatten (i*k) xs:=by
  intro rows;induction rows with
  |nil=>simp
  | cons r rows ih=>
    intro hk i hi;have hr:r.length=k:=hk r φ;cases i with
    | zero=>
      simp_all[zq]
    | succ i=>
      simp only[List.set_cons_succ,Fd7];rw[ih (λrow h=>hk row (by simp[h])) δ];rw[<-zcx];grind
def ylm{k n:Nat}:∀(parts:List (Nat×LV)) (acc rows:List (List AV)),(∀row∈acc,row.length=k)->acc.length=n->Kl k n acc parts=some rows->
    Kv (λi=>some (i*k,k)) acc.flatten parts=some rows.flatten/\(∀row∈rows,row.length=k)/\rows.length=n:=by
  intro parts;induction parts with
  |nil=>intro acc rows h1 h2 h;simp[Kl]at h;subst h;trivial
  | cons p parts ih=>
    intro acc rows h1 h2 h;have⟨i,x⟩:=p;simp only[Kl]at h;cases x with
    | av x=>
      simp only at h;cases hc:cellsOf x with
      |none=>grind
      | some xs=>
        rw[hc]at h;simp only at h;cases hb:(Nat.beq xs.length k&&Nat.blt i n)with
        |false=>grind
        | true=>
          rw[hb]at h;simp only[cond_true]at h;simp only[Fa6]at hb;have hx:xs.length=k:=(vw _ _).1 hb.1;have hi:i<n:=Fbt hb.2;have⟨h3,h4,h5⟩:=ih (acc.set i xs) rows (λrow hr=>δ) δ h;refine⟨?_,h4,h5⟩;have hfl:=Ge h1;have hle:(i+1)*k<=n*k:=Fa2 k hi;have hb2:(Nat.beq xs.length k&&Nat.ble (i*k+k) acc.flatten.length)=true:=by simp_all[Fb8]
          simp only[Kv,hc,hb2,cond_true];grind[ype]
    |_=>simp at h
def ic{w:World}{M Oth T':BB}{rows:List (List AV)}{k:Nat}(hk:∀row∈rows,row.length=k){cs:Array Value}{e:TypeId}{cap:Nat}
    (hr:∀(i:Nat) (x:AV),rows.flatten[i]?=some x->∃v,cs[i]?=some v/\VRel w (λb o=>M b o\/Oth b o) x v/\xe v=true) (hcap:rows.length<=cap) (tok:Option Nat)
    (hT:Keeps w (λb o=>M b o\/Oth b o) (w.alloc (.cells cs e)) T') (hno:∀o,o<rows.length*k->¬T' w.heap.size o)
    (htok:∀t,tok=some t->t=w.heap.size/\rows≠[]/\cap*k<=cs.size):
    VRel (w.alloc (.cells cs e)) T' (.lst k rows tok) (.slice (some ⟨w.heap.size,0,none⟩) rows.length cap):=by
  have hlen:=Ge hk;have hlt:∀(i:Nat) (row:List AV) (j:Nat) (x:AV),rows[i]?=some row->row[j]?=some x->i*k+j<rows.length*k:=by intro i row j x h1 h2;have:=(Fax.1 (Ku hk h1 h2)).1;omega
  refine VRel.lst rows tok w.heap.size 0 cap k (λj=>cs.getD j undef) hcap (λi row h=>hk row (Fa4 h)) (λt ht=>?_) (λi row j x h1 h2=>?_) (λi row j x h1 h2=>?_) (λi row j x h1 h2=>?_)
  · have⟨h1,h2,h3⟩:=htok t ht
    exact⟨h1,rfl,h2,cs,e,(0,0),Kq w _,h3⟩
  · have⟨v,hv,_⟩:=hr _ x (Ku hk h1 h2)
    simp_all
  · have⟨v,hv,_,hv1⟩:=hr _ x (Ku hk h1 h2)
    simp_all
  · have⟨v,hv,hvr,_⟩:=hr _ x (Ku hk h1 h2)
    have:cs.getD (i*k+j) undef=v:=by simp[hv]
    simp only[this];exact hvr.keep hT
def zgx(w:World)(o:Obj)(M Oth:BB)(top:Nat):Keeps w (λb o=>M b o\/Oth b o) (w.alloc o) (λb o=>gr M w.heap.size top b o\/Oth b o) where
  cell:=(Ip w o M Oth).cell
  out b o' c hc hT hT':=by
    rcases hT' with(h|h)|h
    · grind
    · have:=O9 hc;omega
    grind
  shp:=(Ip w o M Oth).shp
theorem yg7(z:Array Value)(n:Nat)(hz:0<z.size):((Array.range (n*z.size)).map (λi=>z[i%z.size]!)).toList=(List.replicate n z.toList).flatten:=by
  induction n with
  |zero=>simp
  | succ n ih=>
    rw[List.replicate_succ',Fc4,<-ih];simp only[Fc1,Array.toList_range,Fb8,Nat.one_mul,List.range_add,Fav,Fdc,Fd7,List.flatten_nil,Fbi]
    congr 1
    apply Fb4;intro i;simp only[Far];by_cases hi:i<z.size
    · simp[hi,Nat.mod_eq_of_lt hi]
    grind
def zk0{o:Oper}{t:TypeId}{n:Nat}{parts:Array (Nat×Operand)}(ho:o.op=.buildSlice t n parts)(hI:qe P c.I)
    (h:optK (c.I t) λi=>optK o.dst λd=>bif Nat.blt d c.n then(match i.ty with
      | .slice e=>optK (c.I e) λie=>optK (Kl ie.size n (List.replicate n (Cu ie)) (parts.toList.map λp=>(p.1,A.ev p.2))) λrows=>
        bif rows.flatten.all AV.one then n*ie.size<=16777216/\(match rows with
          |[]=>K (A.put d (.av .emp)) st
          | _ ::_=>bif c.G.contains d then(bif c.G.contains (d+1000000)then∀b,Fresh st b->K (A.put d (.av (.s (.slice (some ⟨b,0,none⟩) rows.length rows.length)))) (st.sO b (.cells rows.flatten))
              else∀b,Fresh st b->K (A.put d (.av (.lst ie.size rows (some b)))) (st.sT b (some (rows.length*ie.size))))
            else K (A.put d (.av (.lst ie.size rows none))) st)else False
      |_=>False)else False):AOp P c.N o K A st:=by
  have⟨i,hi,h⟩:=zt h;have⟨d,hd,h⟩:=zt h;have⟨hlt,h⟩:=Bh h;split at h
  · rename_i e hty
    have⟨ie,hie,h⟩:=zt h;replace h:=zt h;have⟨rows,hrows,h⟩:=h;cases hone:rows.flatten.all AV.one with
    |false=>grind
    |true=>
    rw[hone]at h;simp only[cond_true]at h;have⟨hroom,hK⟩:=h;rintro Oth M a w ⟨β,sim⟩;have⟨z,hz1,hz2⟩:=Ln (hI _ _ hie) w;have hzs:z.cells.size=ie.size:=by rw[<-(hI _ _ hie).zsz,<-hz2];simp
    have⟨hf1,hf2,hf3⟩:=ylm _ _ rows (λrow hr=>by grind[Cu]) φ hrows
    let base:Array Value:=(Array.range (n*ie.size)).map (λi=>(if n*ie.size=0 then #[]else z.cells)[i%(if n*ie.size=0 then #[]else z.cells).size]!)
    have hbase:Reads w (λb o=>M b o\/Oth b o) (List.replicate n (Cu ie)).flatten base.toList:=by
      by_cases hn:n=0
      · subst hn
        grind[Reads.nil]
      · by_cases hs0:ie.size=0
        · have e1:base.toList=[]:=by simp[base,hs0]
          simp_all[Cu,Reads.nil]
        have hne:¬n*ie.size=0:=by grind[Nat.mul_eq_zero]
        have:base.toList=(List.replicate n z.cells.toList).flatten:=by simp only[base,hne,if_false];grind[yg7]
        rw[this,hz2];have e:(List.replicate n (Cu ie)).flatten=(List.replicate n ie.zero).flatten.map AV.s:=by simp_all[Cu]
        rw[e];exact Reads.map_s _
    have hparts:((parts.toList.map λp=>(p.1,A.ev p.2))).length=(parts.map λ(p:Nat×Operand)=>(p.1,a.eval p.2)).toList.length∧
        ∀(i:Nat) (p:Nat×LV) (v:Nat×Value),(parts.toList.map λp=>(p.1,A.ev p.2))[i]?=some p->(parts.map λ(p:Nat×Operand)=>(p.1,a.eval p.2)).toList[i]?=some v->p.1=v.1/\LRel w (λb o=>M b o\/Oth b o) β p.2 v.2:=by
      refine⟨φ,λi p v hp hv=>?_⟩;rw[Fc1,Far]at hv;rw[Far]at hp;cases hq:parts.toList[i]? with
      |none=>grind
      | some q=>
        rw[hq]at hp hv;simp at hp hv;subst hp hv;exact⟨rfl,sim.ev _⟩
    have⟨ds,hds1,hds2⟩:=s9 (β:=β) (place:=λi=>some (i*ie.size,ie.size)) _ _ _ base rows.flatten hparts.1 hparts.2 hbase hf1;have hrun:(execOp a.eval o).run P w=.ok (.value (.slice (some ⟨w.heap.size,0,none⟩) n n)) (w.alloc (.cells ds e)):=by
      have h1:¬n*ie.size>2^24:=θ;simp only[execOp,ho,Instr.buildSlice,Sem.run_bind,yk (xq (hI _ _ hi) hty),Result.andThen_ok,run_sizeOf (hI _ _ hie),h1,if_false];by_cases hn0:n*ie.size=0
      · have h2:Instr.fill (λi=>some (i*ie.size,ie.size)) (Array.map (λx=>(#[]:Array Value)[x%(#[]:Array Value).size]!) (Array.range (n*ie.size))) (Array.map (λ(x:Nat×Operand)=>(x.1,a.eval x.2)) parts).toList=some ds:=by grind
        simp_all[newRow]
      · have h2:Instr.fill (λi=>some (i*ie.size,ie.size)) (Array.map (λx=>z.cells[x%z.cells.size]!) (Array.range (n*ie.size))) (Array.map (λ(x:Nat×Operand)=>(x.1,a.eval x.2)) parts).toList=some ds:=by grind
        simp_all[newRow]
    unfold Oper.wp;rw[hrun,Oper.upon_value,hd];have hlen:=Ge hf2;have hdsz:ds.size=n*ie.size:=by have:=hds2.1;grind
    have hread:∀(i:Nat) (x:AV),rows.flatten[i]?=some x->∃v,ds[i]?=some v/\VRel w (λb o=>M b o\/Oth b o) x v/\xe v=true:=λi x hx=>by have⟨v,hv,hvr⟩:=hds2.getElem? hx;grind[bo]
    have hnoT:∀o,¬(M w.heap.size o\/Oth w.heap.size o):=λo h=>by
      rcases h with h|h
      · have:=sim.sto.mlt _ _ h;omega
      · have:=sim.sto.olt _ _ h;omega
    subst hf3;cases rows with
    |nil=>exact⟨_,_,M,hK,⟨β,(sim.grow (Grow.alloc w _)).put hlt (x:=.av .emp) (VRel.emp _ (λx h=>δ))⟩,(Grow.alloc w _).chg M⟩
    | cons r rs=>
      cases hg:c.G.contains d with
      | true=>
        cases hg2:c.G.contains (d+1000000)with
        | true=>
          simp only[hg,hg2,cond_true]at hK;refine⟨_,_,_,hK w.heap.size (sim.sto.fresh (Fah _)),⟨β,(sim.newObj (.cells ds e) (.cells (r::rs).flatten) (Sx w e M Oth hds2)).put hlt (VRel.s _)⟩,Kx _ _ _⟩
        |false=>
        simp only[hg,hg2,cond_true,cond_false]at hK;refine⟨_,_,_,hK w.heap.size (sim.sto.fresh (Fah _)),⟨β,(sim.newTok ds e ((r::rs).length*ie.size) θ).put hlt (ic hf2 hread (Fah _) _ (zgx _ _ _ _ _) (λo ho hh=>?_) (λt ht=>?_))⟩,zju _ _ _ _⟩
        · rcases hh with(h|h)|h
          · grind
          · omega
          grind
        grind
      | false=>
        simp only[hg,cond_false]at hK;exact⟨_,_,M,hK,⟨β,(sim.grow (Grow.alloc w _)).put hlt (ic hf2 hread (Fah _) _ ((Grow.alloc w _).keeps _) (λo ho hh=>hnoT o hh) (λt ht=>by cases ht))⟩,(Grow.alloc w _).chg M⟩
  grind
end
section
variable {P:Program} {c:Cfg} {K:Fr->Store->Prop} {A:Fr} {st:Store}
theorem yga(n:Nat)(w:World):(askRoom n).run P w=.ok () w:=φ
def yf9(need old e:Nat)(w:World):∃n,need<=n/\(need<=140737488355328->n<=9223372036854775807)/\(choose (.appendCap need old e)).run P w=.ok n w.drew:=by refine⟨need+w.tape w.drawn (.appendCap need old e)%(2^63-need),Nat.le_add_right _ _,λh=>?_,rfl⟩;have:=Nat.mod_lt (w.tape w.drawn (.appendCap need old e)) (show 0<2^63-need by omega);omega
structure AppArgs(P:Program)(c:Cfg)(argTypes:Array TypeId)(args:Array Value)(t e:TypeId)(ie:TI)(base:Option Addr)(sLen sCap:Nat)(xv:Value):Prop where
  ht:argTypes[0]?=some t
  ht1:∃t1 e1,argTypes[1]?=some t1/\P.underlying t1=some (.slice e1)
  hty:P.underlying t=some (.slice e)
  hie:TIok P e ie
  h0:args[0]?=some (.slice base sLen sCap)
  h1:args[1]?=some xv
def Mz{argTypes:Array TypeId}{args:Array Value}{t e:TypeId}{ie:TI}{base:Option Addr}{sLen sCap n:Nat}{xv:Value}(ty:TypeId)(h:AppArgs P c argTypes args t e ie base sLen sCap xv){w:World}{old new:Array Value}
    (hlen:(Builtin.lenOf xv).run P w=.ok n w) (hnew:(Builtin.firstCells ie.size n xv).run P w.drew=.ok new w.drew) (hold:(Builtin.firstCells ie.size sLen (.slice base sLen sCap)).run P w.drew=.ok old w.drew)
    (hneed:sCap<sLen+n) (hroom:room (sLen+n) ie.bytes):
    ∃ newCap rest,sLen+n<=newCap/\newCap<=9223372036854775807/\rest.size=(newCap-(sLen+n))*ie.size∧
      (Builtin.append_ argTypes ty args).run P w=.ok (.slice (some ⟨w.heap.size,0,none⟩) (sLen+n) newCap) (w.drew.alloc (.cells (old++new++rest) e)):=by
  have⟨newCap,hcap,hcap2,hch⟩:=yf9 (P:=P) (sLen+n) sCap e w;have⟨z,hz1,hz2⟩:=Ln h.hie w.drew;have⟨t1,e1,ht1,hu1⟩:=h.ht1;have⟨inf,hinf,hsz,hby,_⟩:=h.hie.info;have hzs:z.cells.size=ie.size:=by rw[<-h.hie.zsz,<-hz2];simp
  refine⟨newCap,Builtin.zeroCells z.cells (newCap-(sLen+n)),hcap,hcap2 hroom.2,by simp[Builtin.zeroCells,hzs],?_⟩;have⟨hr1,hr2⟩:=hroom;have hc1:¬(sLen+n<=sCap):=θ;have hc2:¬(((sLen+n:Nat):Int)>IntKind.i64.max):=by grind[IntKind.max,IntKind.bits]
  have hc3:¬(Builtin.nextslicecap (sLen+n) sCap*ie.bytes>2^48):=by have h1:=nextslicecap_le hneed;have h2:Builtin.nextslicecap (sLen+n) sCap*ie.bytes<=2*(sLen+n)*ie.bytes:=Fa2 _ h1;grind
  have hti:∀w:World,(typeInfo e).run P w=.ok inf w:=λw=>by simp[typeInfo,hinf]
  simp only[Builtin.append_,h.ht,h.h0,h.h1,Sem.run_bind,yk h.hty,Result.andThen_ok,run_sizeOf h.hie,ht1,yk hu1,Sem.run_pure];simp only[Fap,if_false,hlen,Result.andThen_ok,hc1,hc2,false_and,Sem.run_bind,hti,hby,hc3,hch,yga,hold,hnew,Bool.not_false,if_true,hz1];rfl
def My{argTypes:Array TypeId}{args:Array Value}{t e:TypeId}{ie:TI}{base:Option Addr}{sLen sCap n:Nat}{xv:Value}(ty:TypeId)(h:AppArgs P c argTypes args t e ie base sLen sCap xv){w w':World}{new:Array Value}
    (hlen:(Builtin.lenOf xv).run P w=.ok n w) (hnew:(Builtin.firstCells ie.size n xv).run P w=.ok new w)
    (hneed:sLen+n<=sCap) (hst:∀a,base=some a->(storeCells (a.add (sLen*ie.size)) new.toList).run P w=.ok () w') (hno:base=none->w'=w):
    (Builtin.append_ argTypes ty args).run P w=.ok (.slice base (sLen+n) sCap) w':=by
  have⟨t1,e1,ht1,hu1⟩:=h.ht1;simp only[Builtin.append_,h.ht,h.h0,h.h1,Sem.run_bind,yk h.hty,Result.andThen_ok,run_sizeOf h.hie,ht1,yk hu1,Sem.run_pure];simp only[Fap,if_false,hlen,Result.andThen_ok,hneed,if_true,Bool.not_false,Sem.run_bind,hnew];cases base with
  |none=>simp_all
  |some a=>simp_all
def d0{α:Type}{k:Nat}:∀{rows:List (List α)} (_:∀row∈rows,row.length=k) {p:Nat} {x:α},rows.flatten[p]?=some x->∃(i j:Nat) (row:List α),p=i*k+j/\rows[i]?=some row/\row[j]?=some x:=by
  intro rows;induction rows with
  |nil=>simp
  | cons r rows ih=>
    intro hk p x h;have hr:r.length=k:=hk r φ;simp only[Fd7]at h;by_cases hp:p<r.length
    · rw[Fa5 hp]at h
      exact⟨0,p,r,θ,rfl,h⟩
    · rw[Fa7 θ]at h
      have⟨i,j,row,h1,h2,h3⟩:=ih (λrow h=>hk row (by simp[h])) h;exact⟨i+1,j,row,δ,δ,h3⟩
theorem rx{w w':World}(h:w'.heap=w.heap)(a:Addr):w'.cell? a=w.cell? a:=by simp only[World.cell?,h]
def Li{w:World}{T:BB}{β:Nat->Nat}{k:Nat}{x:LV}{xv:Value}{rows:List (List AV)}(hx:LRel w T β x xv)(h:kh k x=some rows):
    (Builtin.lenOf xv).run P w=.ok rows.length w/\(∀row∈rows,row.length=k)∧
      ∃new:Array Value,Reads w T rows.flatten new.toList/\(∀v∈new.toList,xe v=true)/\new.size=rows.length*k/\∀w',w'.heap=w.heap->(Builtin.firstCells k rows.length xv).run P w'=.ok new w':=by
  unfold kh at h;split at h
  · rename_i k' rows' tok
    cases hb:Nat.beq k' k with
    |false=>grind
    | true=>
      rw[hb]at h;simp only[cond_true,Fam]at h;subst h;obtain rfl:=(vw _ _).1 hb;rcases Pk hx with⟨ad,cap,hv,h2,_,rfl⟩|⟨b,off,cap,hv,hcap,hk,f,hf⟩
      · subst h2
        exact⟨ψc,φ,#[],Reads.nil,φ,φ,λw' _=>by cases ad<;>simp[hv,Builtin.firstCells,loadCells,loadCellsFrom]⟩
      · have hk':∀row∈rows',row.length=k':=λrow hr=>by grind[List.mem_iff_getElem?]
        refine⟨ψc,hk',((List.range' 0 (rows'.length*k')).map f).toArray,⟨?_,?_⟩,λv hv=>?_,φ,λw' hw=>?_⟩
        · rw[Ge hk'];simp
        · intro p x y hp hy
          have⟨i,j,row,h1,h2,h3⟩:=d0 hk' hp;grind
        · simp only[Fag]at hv
          obtain⟨p,hp,rfl⟩:=hv;have hlt:p<rows'.flatten.length:=by rw[Ge hk'];grind
          have⟨i,j,row,h1,h2,h3⟩:=d0 hk' (Fab hlt);grind
        · have:=Lo (P:=P) ⟨b,off,none⟩ w' f (rows'.length*k') 0 #[] (λp _ hp=>by
            rw[wk,rx hw];have hlt:p<rows'.flatten.length:=by rw[Ge hk'];omega
            have⟨i,j,row,h1,h2,h3⟩:=d0 hk' (Fab hlt);grind)
          grind[Builtin.firstCells,loadCells]
  · simp at h
    subst h;have hv:xv=.slice none 0 _:=VRel.eq_s hx;exact⟨ψc,φ,#[],Reads.nil,φ,φ,λw' _=>by simp[hv,Builtin.firstCells]⟩
  · simp at h
    subst h;have hv:∃a,xv=.slice a 0 0:=by
      cases hx with
      |emp a h=>simp
    have⟨a,hv⟩:=hv;refine⟨ψc,φ,#[],Reads.nil,φ,φ,λw' _=>?_⟩;cases a with
    |none=>simp[hv,Builtin.firstCells]
    |some a=>simp[hv,Builtin.firstCells,loadCells,loadCellsFrom]
  · cases h
theorem Owned.nil(k:Nat)(st:Store):Owned k st .emp [] st:=.inl ⟨rfl,rfl,rfl⟩
def SimB.appendNew{n:SN}{Oth M:BB}{β:Nat->Nat}{a:Act}{w:World}(sim:SimB n Oth β A st M a w){rows:List (List AV)}{k:Nat}(hk:∀row∈rows,row.length=k)(hne:rows≠[])
    {cs:Array Value} {e:TypeId} {cap:Nat} (hr:∀(i:Nat) (x:AV),rows.flatten[i]?=some x->∃v,cs[i]?=some v/\VRel w (λb o=>M b o\/Oth b o) x v/\xe v=true) (hcap:rows.length<=cap) (hsz:cap*k<=cs.size):
    ∃ st' M',Owned k st (.lst k rows (some w.heap.size)) rows st'/\SimB n Oth β A st' M' a (w.drew.alloc (.cells cs e))/\Chg M w M' (w.drew.alloc (.cells cs e))∧
      VRel (w.drew.alloc (.cells cs e)) (λb o=>M' b o\/Oth b o) (.lst k rows (some w.heap.size)) (.slice (some ⟨w.heap.size,0,none⟩) rows.length cap):=by
  have hle:rows.length*k<=cap*k:=Fa2 k hcap;refine⟨_,_,.inr ⟨hne,w.heap.size,sim.sto.fresh (Fah _),rfl,rfl⟩,(sim.grow (Grow.drew w)).newTok cs e (rows.length*k) θ,((Grow.drew w).chg M).trans (zju w.drew _ M _),ic (w:=w.drew) (M:=M) (Oth:=Oth) hk (λi x hx=>?_) hcap _ (zgx w.drew _ _ _ _) (λo ho hh=>?_) (λt ht=>?_)⟩
  · have⟨v,h1,h2,h3⟩:=hr i x hx
    exact⟨v,h1,h2.keep ((Grow.drew w).keeps _),h3⟩
  · rcases hh with(h|h)|h
    · have:=sim.sto.mlt _ _ h;simp_all
    · omega
    · have:=sim.sto.olt _ _ h;simp_all
  simp_all
def getElem?_append3{old new rest:Array Value}{i:Nat}{v:Value}(h:(old.toList++new.toList)[i]?=some v):(old++new++rest)[i]?=some v:=δ
def zmj{w:World}{T:BB}{k:Nat}{rows:List (List AV)}{b:Nat}{base:Option Addr}{sLen sCap:Nat}(h:VRel w T (.lst k rows (some b)) (.slice base sLen sCap)):
    base=some ⟨b,0,none⟩/\sLen=rows.length/\rows.length<=sCap/\rows≠[]/\(∀row∈rows,row.length=k)/\(∃c e fr,w.heap[b]?=some (.cells c e fr)/\sCap*k<=c.size)/\∃f:Nat->Value,
      (∀(i:Nat) (row:List AV) (j:Nat) (x:AV),rows[i]?=some row->row[j]?=some x->w.cell? ⟨b,i*k+j,none⟩=some (f (i*k+j))/\¬T b (i*k+j)/\VRel w T x (f (i*k+j))/\xe (f (i*k+j))=true):=by
  cases h with
  | lst _ _ b' off cap _ f hcap hk htok hc h0 hx=>
    obtain⟨rfl,rfl,h1,h2⟩:=htok b rfl;refine⟨rfl,rfl,hcap,h1,λrow hr=>?_,h2,f,λi row j x h3 h4=>?_⟩
    · grind[List.mem_iff_getElem?]
    grind
def zaj{n:SN}{Oth M:BB}{β:Nat->Nat}{a:Act}{w:World}(sim:SimB n Oth β A st M a w){argTypes:Array TypeId}{args:Array Value}{t e:TypeId}{ie:TI}{base:Option Addr}{sLen sCap:Nat}{xv:Value}(ty:TypeId)
    (h:AppArgs P c argTypes args t e ie base sLen sCap xv) {x:LV} (hx:LRel w (λb o=>M b o\/Oth b o) β x xv) {rows':List (List AV)} (hs:kh ie.size x=some rows'):
    ((sLen=0/\sCap=0/\∀x,base=some x->x.spot=none)->room rows'.length ie.bytes->∃v w' r st' M',(Builtin.append_ argTypes ty args).run P w=.ok v w'/\Owned ie.size st r rows' st'/\SimB n Oth β A st' M' a w'/\Chg M w M' w'/\VRel w' (λb o=>M' b o\/Oth b o) r v)∧
    (∀rows b,0<ie.size->VRel w (λb o=>M b o\/Oth b o) (.lst ie.size rows (some b)) (.slice base sLen sCap)->st.tok b=some (rows.length*ie.size)->room (rows++rows').length ie.bytes->
      ∃v w' r st' M',(Builtin.append_ argTypes ty args).run P w=.ok v w'/\Owned ie.size (st.sT b none) r (rows++rows') st'/\SimB n Oth β A st' M' a w'/\Chg M w M' w'/\VRel w' (λb o=>M' b o\/Oth b o) r v):=by
  have⟨hlen,hk',new,hnr,hone,hns,hnew⟩:=Li (P:=P) hx hs;constructor
  · rintro⟨rfl,rfl,hspot⟩ hroom
    by_cases hn:rows'=[]
    · subst hn
      refine⟨_,w,.emp,st,M,My ty h (w':=w) hlen (hnew w rfl) φ (λa ha=>?_) (λ_=>rfl),Owned.nil _ _,sim,Chg.refl M w,VRel.emp _ hspot⟩;simp_all[storeCells]
    · have hpos:0<rows'.length:=Fcu.2 hn
      have⟨newCap,rest,h1,_,h2,h3⟩:=Mz ty h (old:=#[]) hlen (hnew w.drew rfl) (by cases base<;>simp[Builtin.firstCells,loadCells,loadCellsFrom]) θ (by simpa using hroom);simp only[Fa9]at h1 h2 h3;have⟨st',M',ho,hsim,hchg,hv⟩:=sim.appendNew (cs:=#[]++new++rest) (e:=e) (cap:=newCap) hk' hn (λi x hx=>by have⟨v,hv,hvr⟩:=hnr.getElem? hx;grind) h1 (by grind[Nat.sub_mul]);grind
  · intro rows b hpos hsv htb hroom
    obtain⟨rfl,rfl,hcap,hne,hk,⟨c0,e0,fr0,hblk,hcsz⟩,f,hf⟩:=zmj hsv;have hkk:∀row∈rows++rows',row.length=ie.size:=λrow hr=>δ;have⟨c1,e1,fr1,hb1,hunf,htop,hMtop⟩:=sim.sto.tok b _ htb;rw[hblk]at hb1;cases hb1
    -- the first cell
    have hfirst:¬M b 0:=by
      cases rows with
      |nil=>grind
      | cons r rs=>
        have hr:r.length=ie.size:=hk r φ;cases r with
        |nil=>grind
        | cons y ys=>
          have:=(hf 0 (y::ys) 0 y rfl rfl).2.1;grind
    have hold:∀p,p<rows.length*ie.size->w.cell? ⟨b,p,none⟩=some (f p)/\¬(M b p\/Oth b p)/\xe (f p)=true/\∀x,rows.flatten[p]?=some x->VRel w (λb o=>M b o\/Oth b o) x (f p):=λp hp=>by
      have hlt:p<rows.flatten.length:=by rw[Ge hk];omega
      have⟨i,j,row,h1,h2,h3⟩:=d0 hk (Fab hlt);grind
    have holdR:Reads w (λb o=>M b o\/Oth b o) rows.flatten ((List.range' 0 (rows.length*ie.size)).map f):=by refine⟨by rw[Ge hk];simp,λp x y hp hy=>?_⟩;grind
    by_cases hstay:rows.length+rows'.length<=sCap
    · have hle:(rows.length+rows'.length)*ie.size<=sCap*ie.size:=Fa2 _ hstay
      have hdist:(rows.length+rows'.length)*ie.size=rows.length*ie.size+rows'.length*ie.size:=Fb8 _ _ _;have h9:new.toList.length=rows'.length*ie.size:=θ;have h10:rows.length*ie.size+0+new.toList.length<=c0.size:=θ;have⟨w',hrun,hw⟩:=Kf (P:=P) w b (rows.length*ie.size) new.toList 0 w c0 e0 fr0 hblk hunf h10 hone;simp only[Nat.add_zero]at hw;have happ:=My (P:=P) ty h (w':=w') hlen (hnew w rfl) hstay (λa ha=>by cases ha;rw[wk];grind) (λhh=>by cases hh)
      let M':Nat->Nat->Prop:=λb' o=>M b' o/\¬(b'=b/\o<(rows.length+rows'.length)*ie.size)
      have⟨c',hblk',hl',hs'⟩:=hw.blk _ _ _ hblk;have hcellb:∀o,o<rows.length*ie.size->w'.cell? ⟨b,o,none⟩=w.cell? ⟨b,o,none⟩:=λo ho=>by simp only[World.cell?,hblk',hblk];rw[<-Fdp,hl',Fas,Fa5 δ,Fc7];simp[ho]
      have hcelln:∀j v,new[j]?=some v->w'.cell? ⟨b,rows.length*ie.size+j,none⟩=some v:=λj v hv=>by have hj:=(Fb3.1 hv).1;simp only[World.cell?,hblk'];have hm:min (rows.length*ie.size) c0.size=rows.length*ie.size:=θ;have:c'.toList[rows.length*ie.size+j]?=some v:=δ;grind
      have hkeep:Keeps w (λb o=>M b o\/Oth b o) w' (λb o=>M' b o\/Oth b o):=
        { cell:=λb' o' v hv hT=>by
            by_cases he:b'=b
            · grind
            · rw[G5 (hw.other b' he)]
              exact hv
          out:=λb' o' v hv hT hT'=>hT (hT'.imp (λh=>h.1) id)
          shp:=λb' c e fr hc=>by
            by_cases he:b'=b
            · grind
            · exact⟨c,fr,by rw[hw.other b' he];exact hc,rfl⟩}
      have hobjb:st.obj b=none:=by
        cases ho:st.obj b with
        |none=>rfl
        |some x=>exact absurd ((sim.sto.obj b x ho).2 0) hfirst
      have hbxb:∀k l,A.bx k=some l->β k≠b:=λk l hl=>sim.sep k b δ (.inr δ)
      have hsim:SimB n Oth β A ((st.sT b none).sT b (some ((rows++rows').length*ie.size))) M' a w':=
        { tsz:=sim.tsz
          dfr:=sim.dfr.step λD _ _ h2=>⟨hw.other D λe=>(h2 _).1 (e▸hMtop _ (Fah _)),λo hm=>(h2 o).1 hm.1⟩
          tm:=λi=>(sim.tm i).keep hkeep
          bx:=λk l hl=>⟨(sim.bx k l hl).1.same hkeep (hw.other _ (hbxb k l hl)),λo=>⟨(sim.bx k l hl).2 o,λhh=>hbxb k l hl hh.1⟩⟩
          inj:=sim.inj
          sep:=λk b' hk hb=>by
            refine sim.sep k b' hk ?_;by_cases he:b'=b
            · grind
            simp_all[Store.sT,y9]
          sto:=
            { obj:=λb' x hx=>by
                have hx':st.obj b'=some x:=hx;have he:b'≠b:=λe=>δ;exact⟨ObjRel.same (sim.sto.obj b' x hx').1 hkeep (hw.other b' he),λo=>⟨(sim.sto.obj b' x hx').2 o,λhh=>he hh.1⟩⟩
              tok:=λb' top ht=>by
                by_cases he:b'=b
                · subst he
                  simp only[Store.sT,Fb5,cond_true,Fam]at ht;grind
                · simp only[Store.sT,y9 he,cond_false]at ht
                  have⟨c,e,fr,h1,h2,h3,h4⟩:=sim.sto.tok b' top ht;exact⟨c,e,fr,ψb,h2,h3,λo ho=>⟨h4 o ho,λhh=>he hh.1⟩⟩
              mlt:=λb' o hm=>by rw[hw.size];exact sim.sto.mlt b' o hm.1
              olt:=λb' o hm=>by rw[hw.size];exact sim.sto.olt b' o hm
              dis:=λb' o hO hM=>sim.sto.dis b' o hO hM.1}}
      have hchg:Chg M w M' w':=
        { size:=by rw[hw.size];simp
          keep:=λb' o hb hm=>by
            by_cases he:b'=b
            · grind
            · exact G5 (hw.other b' he) o
          blk:=λb' hb hm=>hw.other b' λe=>hm (rows.length*ie.size) δ
          shp:=hkeep.shp
          sub:=λb' o hm _=>hm.1
          tape:=hw.tape
          os:=hw.os
          output:=hw.output}
      refine⟨_,w',.lst ie.size (rows++rows') (some b),_,M',happ,.inr ⟨by simp[hne],b,⟨hobjb,by simp[Store.sT]⟩,rfl,rfl⟩,hsim,hchg,?_⟩;rw[<-Fac];have hget:∀p x,(rows++rows').flatten[p]?=some x->∃v,w'.cell? ⟨b,p,none⟩=some v/\¬(M' b p\/Oth b p)/\xe v=true/\VRel w' (λb o=>M' b o\/Oth b o) x v:=λp x hp=>by
        rw[Fc4]at hp;by_cases hlt:p<rows.length*ie.size
        · rw[Fa5 (by rw[Ge hk];exact hlt)]at hp
          have⟨h1,h2,h4,h3⟩:=hold p hlt;exact⟨f p,δ,λhh=>h2 (hh.imp (λh=>h.1) id),h4,(h3 x hp).keep hkeep⟩
        · rw[Fa7 (by rw[Ge hk];omega),Ge hk]at hp
          have⟨v,hv,hvr⟩:=hnr.getElem? hp;have hpl:=(Fax.1 hp).1;rw[Ge hk']at hpl;have:=hcelln _ v (by simpa using hv);have e:rows.length*ie.size+(p-rows.length*ie.size)=p:=θ;rw[e]at this;refine⟨v,this,λhh=>?_,hone v (Fa4 hv),hvr.keep hkeep⟩;rcases hh with hh|hh
          · exact hh.2 ⟨rfl,θ⟩
          · exact sim.sto.dis b p hh (hMtop p θ)
      have hlt2:∀(i:Nat) (row:List AV) (j:Nat) (x:AV),(rows++rows')[i]?=some row->row[j]?=some x->(rows++rows').flatten[i*ie.size+j]?=some x:=λi row j x h1 h2=>Ku hkk h1 h2;refine VRel.lst _ _ b 0 sCap ie.size (λj=>(w'.cell? ⟨b,j,none⟩).getD undef) (by rw[Fac];exact hstay) (λi row hr=>hkk row (Fa4 hr)) (λt ht=>?_) (λi row j x h1 h2=>?_) (λi row j x h1 h2=>?_) (λi row j x h1 h2=>?_)
      · cases ht;exact⟨rfl,rfl,by simp[hne],c',e0,fr0,hblk',by rw[hs'];exact hcsz⟩
      · have⟨v,h3,h4,h6,h5⟩:=hget _ x (hlt2 i row j x h1 h2)
        simp only[Fa9,h3,Option.getD_some];exact⟨Tv,h4⟩
      · have⟨v,h3,h4,h6,h5⟩:=hget _ x (hlt2 i row j x h1 h2)
        simp only[h3,Option.getD_some];exact h6
      grind
    · have hold2:(Builtin.firstCells ie.size rows.length (.slice (some ⟨b,0,none⟩) rows.length sCap)).run P w.drew=.ok (((List.range' 0 (rows.length*ie.size)).map f).toArray) w.drew:=by
        have:=Lo (P:=P) ⟨b,0,none⟩ w.drew f (rows.length*ie.size) 0 #[] (λp _ hp=>by rw[wk,Fa9];exact(hold p θ).1);simp only[Builtin.firstCells,loadCells];simpa using this
      have⟨newCap,rest,h1,_,h2,h3⟩:=Mz ty h hlen (hnew w.drew rfl) hold2 θ (by simpa using hroom)
      have htokless:SimB n Oth β A (st.sT b none) M a w:=
        { sim with
          sep:=λk b' hk hb=>sim.sep k b' hk (hb.imp id λh=>by
            by_cases he:b'=b
            · subst he;rw[htb];simp
            · simpa [Store.sT,y9 he]using h)
          sto:=sim.sto.weaken ⟨λ_ _ h=>h,λb' x hx=>by
            by_cases he:b'=b
            · subst he;simp[Store.sT]at hx
            · simpa [Store.sT,y9 he]using hx⟩}
      have⟨st',M',ho,hsim,hchg,hv⟩:=htokless.appendNew (cs:=((List.range' 0 (rows.length*ie.size)).map f).toArray++new++rest) (e:=e) (cap:=newCap) hkk (by simp[hne]) (λi x hx=>by
        rw[Fc4]at hx;have⟨v,hv,hvr⟩:=(holdR.append hnr).getElem? hx;refine⟨v,getElem?_append3 (by simpa using hv),hvr,?_⟩;rcases Faq.1 (Fa4 hv)with hm|hm
        · simp only[Fag]at hm
          obtain⟨p,hp,rfl⟩:=hm;exact(hold p (by simpa using hp)).2.2.1
        · exact hone v hm) (by rw[Fac];exact h1) (by simp only[Array.size_append,hns,h2,List.size_toArray,Fal,List.length_range'];have:=Fa2 ie.size h1;rw[Nat.sub_mul,<-Fb8];omega)
      rw[Fac]at hv;exact⟨_,_,_,st',M',h3,ho,hsim,hchg,hv⟩
end
section
variable {P:Program} {c:Cfg} {K:Fr->Store->Prop} {A:Fr} {st:Store} {Oth M:BB}
theorem Iu{w:World}{b:Nat}{cs:Array Value}{e:TypeId}{fr:Nat×Nat}(h:w.heap[b]?=some (.cells cs e fr))(hf:Gk fr cs.size):
    ∃fr',Gk fr' cs.size/\(w.freeze ⟨b,cs.size,none⟩ 1).heap[b]?=some (.cells cs e fr')/\∀i,i≠b->(w.freeze ⟨b,cs.size,none⟩ 1).heap[i]?=w.heap[i]?:=by
  have⟨lo,hi⟩:=fr;refine⟨if lo==hi then(cs.size,cs.size+1)else(min lo cs.size,max hi (cs.size+1)),?_,?_,λi hi=>?_⟩
  · grind[Gk]
  · simp_all[World.freeze,Fc8]
  simp_all[World.freeze,Fc8,Ne.symm]
theorem zhz{w:World}{b:Nat}{cs:Array Value}{e:TypeId}{fr:Nat×Nat}(h:w.heap[b]?=some (.cells cs e fr))(hf:Gk fr cs.size)(b' o:Nat):
    (w.freeze ⟨b,cs.size,none⟩ 1).cell? ⟨b',o,none⟩=w.cell? ⟨b',o,none⟩:=by grind[Iu,World.cell?]
theorem sj(w:World)(a:Addr)(n:Nat):(w.freeze a n).heap.size=w.heap.size:=by grind[World.freeze]
def Ov{w:World}{b:Nat}{cs:Array Value}{e:TypeId}{fr:Nat×Nat}(h:w.heap[b]?=some (.cells cs e fr))(hf:Gk fr cs.size)(T:BB):
    Keeps w T (w.freeze ⟨b,cs.size,none⟩ 1) T where
  cell b' o x hc _:=by rw[zhz h hf];exact hc
  out _ _ _ _ hT:=hT
  shp b' c' e' f' hw:=by have⟨fr',_,h2,h3⟩:=Iu h hf;grind
def zhy{w:World}{b:Nat}{cs:Array Value}{e:TypeId}{fr:Nat×Nat}(h:w.heap[b]?=some (.cells cs e fr))(hf:Gk fr cs.size){T:BB}{l:List AV}{b':Nat}(hb:b'≠b)(hr:CellsRel w T l b'):
    CellsRel (w.freeze ⟨b,cs.size,none⟩ 1) T l b':=by
  have⟨fr',h1,h2,h3⟩:=Iu h hf;have⟨c',e',f',h4,h5,h6,h7⟩:=hr;exact⟨c',e',f',δ,h5,h6,λi x y hx hy=>(h7 i x y hx hy).keep (Ov h hf T)⟩
theorem SimB.freeze{n:SN}{β:Nat->Nat}{a:Act}{w:World}(s:SimB n Oth β A st M a w){b:Nat}{cs:Array Value}{e:TypeId}{fr:Nat×Nat}(h:w.heap[b]?=some (.cells cs e fr))(hf:Gk fr cs.size)(hno:∃o,¬M b o):
    SimB n Oth β A st M a (w.freeze ⟨b,cs.size,none⟩ 1) where
  tsz:=s.tsz
  dfr:=s.dfr.step λD hD _ h2=>by grind[Iu]
  tm i:=(s.tm i).keep (Ov h hf _)
  bx k l hk:=⟨zhy h hf (λe=>by have⟨o,ho⟩:=hno;exact ho (e▸(s.bx k l hk).2 o)) (s.bx k l hk).1,(s.bx k l hk).2⟩
  inj:=s.inj
  sep:=s.sep
  sto:=
    { obj:=λb' x hx=>by
        refine⟨?_,(s.sto.obj b' x hx).2⟩;have hr:=(s.sto.obj b' x hx).1;cases x with
        |cells l=>exact zhy h hf (λe=>by have⟨o,ho⟩:=hno;exact ho (e▸(s.sto.obj b' _ hx).2 o)) hr
        | ghost o gh=>
          have⟨⟨h1,hc⟩,h2⟩:=hr;have hb:b'≠b:=λhh=>by subst hh;rw[h]at h1;cases h1;cases hc
          have⟨fr',_,_,h6⟩:=Iu h hf;exact⟨⟨δ,hc⟩,λp hp=>(h2 p hp).keep (Ov h hf _)⟩
        | iter m since seen last=>
          have h1:w.heap[b']?=_:=hr;have hb:b'≠b:=λhh=>δ;have⟨fr',_,_,h6⟩:=Iu h hf;show _=_;grind
        | map es bs clock=>
          have⟨ms,h1,h2,h3,h4⟩:=hr;have hb:b'≠b:=λhh=>δ;have⟨fr',_,_,h6⟩:=Iu h hf;exact⟨ms,δ,h2,λi x y hx hy=>⟨(h3 i x y hx hy).1.keep (Ov h hf _),(h3 i x y hx hy).2.keep (Ov h hf _)⟩,h4⟩
      tok:=λb' top ht=>by have⟨c',e',f',h1,h2,h3⟩:=s.sto.tok b' top ht;grind[Iu]
      mlt:=λb' o hm=>by rw[sj];exact s.sto.mlt b' o hm
      olt:=λb' o hm=>by rw[sj];exact s.sto.olt b' o hm
      dis:=s.sto.dis}
def ysx{w:World}{b:Nat}{cs:Array Value}{e:TypeId}{fr:Nat×Nat}(h:w.heap[b]?=some (.cells cs e fr))(hf:Gk fr cs.size)(hM:∃o,M b o):Chg M w M (w.freeze ⟨b,cs.size,none⟩ 1) where
  size:=by rw[sj];simp
  keep b' o _ _:=zhz h hf b' o
  blk b' _ hno:=by grind[Iu]
  shp b' c' e' f' hw:=(Ov h hf (λ_ _=>False)).shp b' c' e' f' hw
  sub _ _ h _:=h
  tape:=ζ
  os:=ζ
  output:=ζ
theorem yua{o:Oper}{s t:TypeId}{x:Operand}(ho:o.op=.convert s t x)(hI:qe P c.I)(h:fk P c o s t x K A st):AOp P c.N o K A st:=by
  unfold fk at h;split at h
  · rename_i k rows b hx
    cases hb:Nat.beq s t with
    |false=>grind
    |true=>
    rw[hb]at h;simp only[cond_true]at h;obtain rfl:=(vw _ _).1 hb;have⟨i,hi,h⟩:=zt h;split at h
    · rename_i e hty
      have⟨ie,hie,h⟩:=zt h;cases hu8:(ro ie.ty&&Nat.beq k 1)with
      |false=>grind
      |true=>
      rw[hu8]at h;simp only[cond_true]at h;have⟨top,htop,h⟩:=zt h;have⟨hu8,hk1⟩:=Fbh.1 hu8;have hk1:=(vw _ _).1 hk1;have hiety:ie.ty=.int .u8:=by grind[ro]
      rintro Oth M a w ⟨β,sim⟩;have⟨cs,e',fr,h1,h2,h3,h4⟩:=sim.sto.tok b top htop;have hv:∃n cap,a.eval x=.slice (some ⟨b,0,none⟩) n cap/\∃o,¬M b o:=by
        have hr:=qn sim.env hx;generalize a.eval x=v at hr;cases hr with
        | lst _ _ b' off cap _ f hcap hk htok hc h0 hx'=>
          obtain⟨rfl,rfl,hne,_⟩:=htok b rfl;refine⟨_,_,rfl,?_⟩;cases rows with
          |nil=>grind
          | cons r rs=>
            have hr1:=hk 0 r rfl;cases r with
            |nil=>grind
            |cons y ys=>exact⟨_,λhm=>(hc 0 _ 0 y rfl rfl).2 (.inl hm)⟩
      have⟨n,cap,hv,hnoM⟩:=hv;have hsh:w.shape? b=some (e',cs.size):=by simp[World.shape?,h1]
      have hrun:(execOp a.eval o).run P w=.ok (.value (a.eval x)) (w.freeze ⟨b,cs.size,none⟩ 1):=by simp[execOp,ho,hv,convert,yk (xq (hI _ _ hi) hty),yk (I5 (hI _ _ hie) hiety),markStringish,hsh]
      have sim':=sim.freeze h1 h2 hnoM;unfold Oper.wp;rw[hrun,Oper.upon_value];have hvr:LRel (w.freeze ⟨b,cs.size,none⟩ 1) (λb o=>M b o\/Oth b o) β (.av (.lst k rows (some b))) (a.eval x):=by have:=sim'.ev x;grind
      have hchg:Chg M w M (w.freeze ⟨b,cs.size,none⟩ 1):=ysx h1 h2 ⟨top,h4 top (Fah _)⟩;unfold xc at h;cases hd:o.dst with
      |none=>rw[hd]at h;exact⟨A,st,M,h,⟨β,sim'⟩,hchg⟩
      | some d=>
        rw[hd]at h;have⟨hlt,h⟩:=Bh h;exact⟨_,st,M,h,⟨β,sim'.put hlt hvr⟩,hchg⟩
    grind
  · exact gm hI h
  · exact gm hI h
  grind[Ve]
end
section
variable {P:Program} {c:Cfg} {K:Fr->Store->Prop} {A:Fr} {st:Store}
theorem yue{o:Oper}{cl:Call}(ho:o.op=.call cl)(hcl:cl.callee=.builtin .append)(hI:qe P c.I)
    (h:optK cl.argTypes[0]? λt=>optK (c.I t) λi=>optK cl.args[0]? λs=>optK cl.args[1]? λx=>match i.ty with
      |.slice e=>bif (cl.argTypes[1]?.bind c.I).any Pz then
          appendK P c st e (A.ev s) (A.ev x) λr st'=>xc A c.n o.dst (.av r) λA'=>K A' st' else vcX P c o K A st
      |_=>False):AOp P c.N o K A st:=by
  have⟨t,ht,h⟩:=zt h;have⟨i,hi,h⟩:=zt h;have⟨s,hs,h⟩:=zt h;have⟨x,hx,h⟩:=zt h;split at h
  · rename_i e hty
    cases hb:(cl.argTypes[1]?.bind c.I).any Pz with
    |false=>rw[hb]at h;exact gm hI h
    |true=>
    rw[hb]at h;simp only[cond_true]at h;replace h:=h.out;rintro Oth M a w ⟨β,sim⟩;have ht1:∃t1 e1,cl.argTypes[1]?=some t1/\P.underlying t1=some (.slice e1):=by
      cases h1:cl.argTypes[1]? with
      |none=>grind
      | some t1=>
        rw[h1]at hb;simp only[Option.bind_some]at hb;cases h2:c.I t1 with
        |none=>grind
        | some j=>
          rw[h2]at hb;simp only[Option.any_some]at hb;unfold Pz at hb;split at hb
          · rename_i e1 h3;exact⟨t1,e1,rfl,xq (hI _ _ h2) h3⟩
          grind
    have hrun:(execOp a.eval o).run P w=((Builtin.append_ cl.argTypes o.type (cl.args.map a.eval)).run P w).andThen λv w'=>.ok (.value v) w':=by simp_all[execOp,resolve,invoke,builtin]
    have fin:∀v w',(∃r st' M',(xc A c.n o.dst (.av r) λA'=>K A' st')/\VRel w' (λb o=>M' b o\/Oth b o) r v/\SimB c.N Oth β A st' M' a w'/\Chg M w M' w')->
        ∃A' st' M',K A' st'/\Sim c.N Oth A' st' M' (a.put o.dst v) w'/\Chg M w M' w':=by
      rintro v w' ⟨r,st',M',hk,hv,hs,hchg⟩;unfold xc at hk;cases hd:o.dst with
      |none=>rw[hd]at hk;exact⟨A,st',M',hk,⟨β,hs⟩,hchg⟩
      | some d=>
        rw[hd]at hk;have⟨hlt,hk⟩:=Bh hk;exact⟨_,st',M',hk,⟨β,hs.put hlt hv⟩,hchg⟩
    have h1:(cl.args.map a.eval)[1]?=some (a.eval x):=δ;unfold Oper.wp;rw[hrun];rcases h with h|⟨s',x',hes,hex,h⟩;rotate_left
    · have hvs:=qn sim.env hes
      have hvx:=qn sim.env hex;have h0:(cl.args.map a.eval)[0]?=some (a.eval s):=δ;have⟨ie,hie⟩:=h.has;have⟨v,w',hr,hp⟩:=h.out ie hie _ _ w _ _ _ o.type _ t sim.inner (hvs.mono Km) (hvx.mono Km) ht ht1 (xq (hI _ _ hi) hty) (hI _ _ hie) h0 h1;rw[hr];exact fin v w' (sim.post v w' hp)
    unfold gj at h;have⟨ie,hie,h⟩:=zt h;split at h
    · rename_i hev
      have⟨rows,hrows,hroom,h⟩:=zt h;have hsv:a.eval s=.slice none 0 0:=VRel.eq_s (qn sim.env hev);have h0:(cl.args.map a.eval)[0]?=some (.slice none 0 0):=δ;have⟨v,w',r,st',M',hr,hown,hsim,hchg,hv⟩:=(zaj (c:=c) sim o.type ⟨ht,ht1,xq (hI _ _ hi) hty,hI _ _ hie,h0,h1⟩ (sim.ev x) hrows).1 ⟨rfl,rfl,λx h=>ω⟩ hroom;rw[hr];exact fin v w' ⟨r,st',M',h r st' hown,hv,hsim,hchg⟩
    · rename_i hev
      have⟨rows,hrows,hroom,h⟩:=zt h;have hsv:∃ad,a.eval s=.slice ad 0 0/\∀x,ad=some x->x.spot=none:=by
        have:=qn sim.env hev;generalize a.eval s=v at this;cases this with
        |emp ad h=>grind
      have⟨ad,hsv,hspot⟩:=hsv;have h0:(cl.args.map a.eval)[0]?=some (.slice ad 0 0):=δ;have⟨v,w',r,st',M',hr,hown,hsim,hchg,hv⟩:=(zaj (c:=c) sim o.type ⟨ht,ht1,xq (hI _ _ hi) hty,hI _ _ hie,h0,h1⟩ (sim.ev x) hrows).1 ⟨rfl,rfl,hspot⟩ hroom;rw[hr];exact fin v w' ⟨r,st',M',h r st' hown,hv,hsim,hchg⟩
    · rename_i k rows b hev
      cases hkb:(Nat.beq k ie.size&&Nat.blt 0 ie.size)with
      |false=>grind
      |true=>
      rw[hkb]at h;simp only[cond_true]at h;rw[Fa6]at hkb;have hpos:0<ie.size:=Fbt hkb.2;obtain rfl:=(vw _ _).1 hkb.1;have⟨rows',hrows,htok,hroom,h⟩:=zt h;have hvr:=qn sim.env hev;obtain⟨base,sLen,sCap,hsv⟩:∃base sLen sCap,a.eval s=.slice base sLen sCap:=by generalize a.eval s=v at hvr;cases hvr<;>simp
      rw[hsv]at hvr;have h0:(cl.args.map a.eval)[0]?=some (.slice base sLen sCap):=δ;have⟨v,w',r,st',M',hr,hown,hsim,hchg,hv⟩:=(zaj (c:=c) sim o.type ⟨ht,ht1,xq (hI _ _ hi) hty,hI _ _ hie,h0,h1⟩ (sim.ev x) hrows).2 rows b hpos hvr htok hroom;rw[hr];exact fin v w' ⟨r,st',M',h r st' hown,hv,hsim,hchg⟩
    grind
  grind
def zem{o:Oper}{x:LV}{v:Value}{a:Act}{w:World}{Oth M:BB}{β:Nat->Nat}(sim:SimB c.N Oth β A st M a w)(hv:LRel w (λb o=>M b o\/Oth b o) β x v)
    (h:xc A c.n o.dst x λA'=>K A' st):∃A' st' M',K A' st'/\Sim c.N Oth A' st' M' (a.put o.dst v) w/\Chg M w M' w:=by
  unfold xc at h;cases hd:o.dst with
  |none=>rw[hd]at h;exact⟨A,st,M,h,⟨β,sim⟩,Chg.refl _ _⟩
  | some d=>
    rw[hd]at h;have⟨hlt,h⟩:=Bh h;exact⟨_,st,M,h,⟨β,sim.put hlt hv⟩,Chg.refl _ _⟩
set_option maxHeartbeats 1000000 in
theorem yf6(w:World){t e:TypeId}(hu:P.underlying t=some (.slice e))(ad:Option Addr)(n cap d:Nat):(Op.equalIn (d+1) t (.slice ad n cap) (.slice none 0 0)).run P w=.ok ad.isNone w:=by cases ad<;>simp[Op.equalIn,yk hu]
theorem zdx(w:World){t e:TypeId}(hu:P.underlying t=some (.slice e))(ad:Option Addr)(n cap:Nat):
    (binOp .eql t (.slice ad n cap) (.slice none 0 0)).run P w=.ok (.bool ad.isNone) w/\(binOp .neq t (.slice ad n cap) (.slice none 0 0)).run P w=.ok (.bool !ad.isNone) w:=by grind[yf6,binOp,Op.equal,Op.maxDepth,Sem.run_bind,Result.andThen_ok,Sem.run_pure]
theorem yud{o:Oper}{op:BinOp}{t yt:TypeId}{x y:Operand}(ho:o.op=.binOp op t x y yt)(hI:qe P c.I)
    (h:f9 c o op t x y yt K A st):AOp P c.N o K A st:=by
  unfold f9 at h;split at h
  · rename_i k rows tok hx hy
    have⟨i,hi,h⟩:=zt h;rintro Oth M a w ⟨β,sim⟩;have hyv:a.eval y=.slice none 0 0:=VRel.eq_s (qn sim.env hy);have hxv:∃ad n cap,a.eval x=.slice ad n cap/\(ad.isNone=true->rows=[]):=by
      rcases Pk (qn sim.env hx)with⟨_,cap,hv,h2,_⟩|⟨b,off,cap,hv,_⟩
      · grind
      grind
    have⟨ad,n,cap,hxv,hnil⟩:=hxv;cases hty:i.ty with
    | slice e=>
      rw[hty]at h;have hu:=xq (hI _ _ hi) hty;cases op with
      | eql=>
        have hrun:(execOp a.eval o).run P w=.ok (.value (.bool ad.isNone)) w:=by simp_all[execOp,eqGuard,zdx]
        unfold Oper.wp;rw[hrun,Oper.upon_value];exact zem sim (x:=ke ad.isNone) (VRel.s _) (h _ hnil)
      | neq=>
        have hrun:(execOp a.eval o).run P w=.ok (.value (.bool !ad.isNone)) w:=by simp_all[execOp,eqGuard,zdx]
        unfold Oper.wp;rw[hrun,Oper.upon_value];exact zem sim (x:=ke !ad.isNone) (VRel.s _) (h _ hnil)
      |_=>grind
    |_=>grind
  grind[Ve]
def zkz(hI:qe P c.I){o:Oper}(h:Fp P c o K A st):AOp P c.N o K A st:=by
  unfold Fp at h;cases hx:isX o.op with
  |true=>rw[hx]at h;exact gm hI h
  |false=>
  rw[hx]at h;replace h:Hb P c o K A st:=h;unfold Hb at h;cases ho:o.op with
  |alloc t=>grind[Ht,yuf]
  |box t x=>grind[yuc]
  |buildSlice t n ps=>simp only[ho]at h;exact zk0 ho hI h
  | store t p x=>
    simp only[ho]at h;cases hd:o.dst with
    |some d=>grind
    |none=>rw[hd]at h;exact yt7 ho hd hI h
  |binOp op t x y yt=>grind[yud]
  |convert s t x=>grind[yua]
  | call cl=>
    simp only[ho]at h;grind[yub,yt9,yue,Ve]
  |_=>grind[Ve]
def Cfg.noDepth(c:Cfg):c.F.depth.isSome=true->1<=0:=λh=>ω
def zj4{c:Cfg}{f:FuncId}{args:Array Value}{w:World}{R:Ending->World->Prop}(h:Calls P f args w R):CallsIn c.F 0 P f args w R:=
  (callsIn_wide (n:=0)).2 h
def ygf{c:Cfg}{row:String}{args:Array Value}{w:World}{R:Value->World->Prop}(h:Rows P row args w R):RowsIn c.F 0 P row args w R:=
  λx cs _=>let⟨v,w',r,s⟩:=h x cs;⟨v,w',r,stepsIn_wide.2 s⟩
def Oper.wpIn_F{o:Oper}(hd:∀cl,o.op≠.defer cl){a:Act}{w:World}{K:Act->World->Prop}{Q:Exit->Act->World->Prop}(h:o.wp P a w K Q):o.wpIn c.F 0 P a w K Q:=by
  refine⟨λ_ _=>Tv,?_⟩;rw[Oper.semAt_eq _ _ _ hd];unfold Oper.wp at h;generalize(execOp a.eval o).run P w=r at*;cases r with
  | ok x w'=>
    cases x<;>simp only[Oper.upon,Oper.uponIn]at h⊢<;>
      first
        |exact h
        |exact⟨c.noDepth,zj4 h⟩
        |exact⟨c.noDepth,ygf h⟩
        |exact h.elim
  |halt x w'=>cases x<;>trivial<;>exact h
def yjq{o:Oper}(h:Fp P c o K A st)(cl:Call):o.op≠.defer cl:=by intro e;unfold Fp at h;rw[e]at h;have h:Hb P c o K A st:=h;unfold Hb at h;simp only[e]at h;have⟨d,_,h⟩:=zt h;have⟨_,h⟩:=Bh h;exact h.elim
def zlj{o:Oper}{l:Nat}(h:g8 A o.op=some l):∃cl f fv cap,o.op=.call cl/\cl.callee=.value f/\A.ev f=.av (.s (.func (.yield l) fv cap))/\fv=#[]/\cap=#[]:=by
  unfold g8 at h;split at h
  · rename_i cl hop
    split at h
    · rename_i f hcl
      split at h
      · rename_i l' fv cap hev
        cases hb:(Nat.beq fv.size 0&&Nat.beq cap.size 0)with
        |false=>grind
        | true=>
          simp_all
      · cases h
    · cases h
  · cases h
def ygh{l:Nat}{f:FuncId}{tmps:Array Value}{assign body:Code}{w:World}{R:Ending->World->Prop}(h:RoundIn Fence.wide 0 P l f tmps assign body w R):RoundIn c.F 0 P l f tmps assign body w R:=h
def yug(hI:qe P c.I){o:Oper}(h:Nd P c o K A st):yvi P c o K A st:=by
  unfold Nd at h;split at h;rotate_left
  · exact λOth M a w sim=>Oper.wpIn_F (yjq h) (zkz hI h Oth M a w sim)
  · rename_i l hl
    obtain⟨cl,f,fv,cap,ho,hcl,hf,rfl,rfl⟩:=zlj hl;rintro Oth M a w ⟨β,sim⟩;have⟨vs,hvs,h⟩:=zt h;unfold za0 at hvs;rw[ho]at hvs;have hfv:a.eval f=.func (.yield l) #[] #[]:=VRel.eq_s (qn sim.env hf);have⟨hm1,hm2⟩:=Oj hvs;have hr1:Reads w (λb o=>M b o\/Oth b o) vs (cl.args.map a.eval).toList:=by refine⟨by simp[hm1],λi x y hx hy=>?_⟩;have⟨z,hz,hzz⟩:=hm2 i x hx;have hz':cl.args[i]?=some z:=δ;rw[Fc1,Far,hz]at hy;simp at hy;subst hy;exact qn sim.env (Pu hzz)
    have hrun:(execOp a.eval o).run P w=(Instr.yield l (cl.args.map a.eval)).run P w:=by grind[execOp,resolve,Deferred.ofValue,invoke]
    have⟨fn,tmps,assign,body,hy,hround⟩:=h.out _ _ w (cl.args.map a.eval) sim.inner ⟨hr1.1,λi x y hx hy=>(hr1.2 i x y hx hy).mono Km⟩;refine⟨λ_ _=>Tv,?_⟩;rw[Oper.semAt_eq _ _ _ δ,hrun,hy,Oper.uponIn_round];refine⟨c.noDepth,ygh (hround.mono ?_)⟩;rintro e w' ⟨v,rfl,hp⟩;have⟨r,st',M',hk,hv,hs,hchg⟩:=sim.post v w' hp;show∃A' st' M',_;unfold xc at hk;cases hd:o.dst with
    |none=>rw[hd]at hk;exact⟨A,st',M',hk,⟨β,hs⟩,hchg⟩
    | some d=>
      rw[hd]at hk;have⟨hlt,hk⟩:=Bh hk;exact⟨_,st',M',hk,⟨β,hs.put hlt hv⟩,hchg⟩
end
def P0(c:Cfg)(o:Oper)(A:Fr)(K:Fr->Prop):Prop:=xc A c.n o.dst .und K
def Cw(P:Program)(c:Cfg)(ops:Array Oper)(K:Fr->Store->Prop):List Oper->Fr->Store->Prop
  |[],A,st=>K A st
  | o::rest,A,st=>
    match o.guard with
    |none=>Nd P c o (Cw P c ops K rest) A st
    | some (j,want)=>optK ((ops[j]?).bind (·.dst)) λt=>
      match A.t t with
      |.av (.s (.bool b))=>Ds b
          (bif want then Nd P c o (Cw P c ops K rest) (A.put t (ke true)) st else P0 c o (A.put t (ke true)) λA'=>Cw P c ops K rest A' st)
          (bif want then P0 c o (A.put t (ke false)) λA'=>Cw P c ops K rest A' st else Nd P c o (Cw P c ops K rest) (A.put t (ke false)) st)
      |.und=>P0 c o A λA'=>Cw P c ops K rest A' st
      |_=>False
structure AWp(P:Program)(c:Cfg)(code:Code)(Q:Exit->Fr->Store->Prop)(A:Fr)(st:Store):Prop where
  out:∀Oth M a w,Sim c.N Oth A st M a w->code.wpIn c.F 0 P (λe a' w'=>∃A' st' M',Q e A' st'/\Sim c.N Oth A' st' M' a' w'/\Chg M w M' w') a w
structure ADraw(P:Program)(c:Cfg)(ops:Array Oper)(K:Fr->Store->Prop)(A:Fr)(st:Store):Prop where
  out:∀id,AWp P c (.region id ops true) (λe A' st'=>match e with|.normal=>K A' st'|_=>False) A st
def V4(next:Fr->Store->Prop)(Q:Exit->Fr->Store->Prop):Exit->Fr->Store->Prop
  |.normal=>next
  |e=>Q e
def dg(id:Nat)(Q:Exit->Fr->Store->Prop):Exit->Fr->Store->Prop
  |.exit id'=>bif Nat.beq id' id then Q .normal else Q (.exit id')
  |e=>Q e
def zfl(Q:Exit->Fr->Store->Prop):Exit->Fr->Store->Prop
  |.goto _=>λ_ _=>False
  |e=>Q e
def vc(P:Program)(c:Cfg):Code->(Exit->Fr->Store->Prop)->Fr->Store->Prop
  |.skip,Q,A,st=>Q .normal A st
  | .region _ ops draw,Q,A,st=>match draw with
    |false=>Cw P c ops (Q .normal) ops.toList A st
    |true=>ADraw P c ops (Q .normal) A st
  |.seq a b,Q,A,st=>vc P c a (V4 (vc P c b Q) Q) A st
  | .cond x a b,Q,A,st=>match A.ev x with
    |.av (.s (.bool t))=>Ds t (vc P c a Q A st) (vc P c b Q A st)
    |_=>False
  |.block id b,Q,A,st=>vc P c b (dg id Q) A st
  |.loop b,Q,A,st=>AWp P c (.loop b) Q A st
  |.exit id,Q,A,st=>Q (.exit id) A st
  |.scope b,Q,A,st=>vc P c b (zfl Q) A st
  |.label _,Q,A,st=>Q .normal A st
  |.ret,Q,A,st=>Q .ret A st
  |_,_,_,_=>False
section
variable {P:Program} {c:Cfg}
theorem Fr.put_self{A:Fr}{d:Nat}{x:LV}(h:A.t d=x):A.put d x=A:=by
  unfold Fr.put
  congr
  grind[y9]
theorem zhm{ops:Array Oper}{tmps:Array Value}{j t:Nat}{b:Bool}(hd:(ops[j]?).bind (·.dst)=some t)(h:tmps.getD t undef=.bool b):yielded ops tmps j=some b:=by unfold yielded;rw[hd];simp only[Option.bind_some];rw[Fbm]at h;grind[undef]
theorem zhl{ops:Array Oper}{tmps:Array Value}{j t:Nat}(hd:(ops[j]?).bind (·.dst)=some t)(h:tmps.getD t undef=undef):yielded ops tmps j=none:=by
  unfold yielded;rw[hd];simp only[Option.bind_some];rw[Fbm]at h;cases ht:tmps[t]? with
  |none=>rfl
  |some v=>rw[ht]at h;simp at h;subst h;rfl
theorem Vl{o:Oper}{a:Act}{w:World}{K K':Act->World->Prop}{Q Q':Exit->Act->World->Prop}(hk:∀a w,K a w->K' a w)(hn:∀e a w,e≠.normal->¬Q e a w)(h:o.wpIn c.F 0 P a w K Q):o.wpIn c.F 0 P a w K' Q':=by
  refine⟨h.1,?_⟩;have h:=h.2;generalize(o.semAt c.F.round a.eval).run P w=r at*;have nq:∀(e:Exit) (a:Act) (w:World) {p:Prop},e≠.normal->Q e a w->p:=λe a w p hne h=>(hn e a w hne h).elim;cases r with
  | ok x w'=>
    cases x<;>simp only[Oper.uponIn]at h⊢<;>
      first
        |exact hk _ _ h
        |exact⟨h.1,CallsIn.mono h.2 (λe w'' he=>by
            cases e with
            |returned v=>exact hk _ _ he
            |panicked ch=>exact nq _ _ _ φ he
            |outgrown=>have⟨a2,w2,h2⟩:=he;exact nq _ _ _ φ h2)⟩
        |exact⟨h.1,RowsIn.mono h.2 (λ_ _ he=>hk _ _ he)⟩
        |exact⟨h.1,RoundIn.mono h.2 (λe w'' he=>by
            cases e with
            |returned v=>exact hk _ _ he
            |panicked ch=>exact nq _ _ _ φ he
            |outgrown=>have⟨a2,w2,h2⟩:=he;exact nq _ _ _ φ h2)⟩
        |exact h
  |halt x w'=>cases x<;>simp only[Oper.uponIn]at h⊢<;>grind
def zbj(hI:qe P c.I)(ops:Array Oper)(K:Fr->Store->Prop):∀(l:List Oper) (A:Fr) (st:Store),Cw P c ops K l A st->
    ∀Oth M a w,Sim c.N Oth A st M a w->wpListIn c.F 0 P ops (λe a' w'=>e=.normal/\∃A' st' M',K A' st'/\Sim c.N Oth A' st' M' a' w'/\Chg M w M' w') l a w:=by
  intro l;induction l with
  |nil=>intro A st h Oth M a w sim;exact⟨rfl,A,st,M,h,sim,Chg.refl M w⟩
  | cons o rest ih=>
    intro A st h Oth M a w sim
    have mono:∀(M':BB) (w':World) (a':Act) (A':Fr) (st':Store),Cw P c ops K rest A' st'->Sim c.N Oth A' st' M' a' w'->Chg M w M' w'->
        wpListIn c.F 0 P ops (λe a' w'=>e=.normal/\∃A' st' M',K A' st'/\Sim c.N Oth A' st' M' a' w'/\Chg M w M' w') rest a' w':=by
      intro M' w' a' A' st' h1 h2 h3;have:=ih A' st' h1 Oth M' a' w' h2;clear h h1
      -- weaken the post
      have wm:∀(l:List Oper) (a w0) (Q Q':Exit->Act->World->Prop),(∀e a w,Q e a w->Q' e a w)->(∀e a w,e≠.normal->¬Q e a w)->wpListIn c.F 0 P ops Q l a w0->wpListIn c.F 0 P ops Q' l a w0:=by
        intro l;induction l with
        |nil=>intro a w0 Q Q' hq _ h;exact hq _ _ _ h
        | cons o l ihl=>
          intro a w0 Q Q' hq hn h;unfold wpListIn at h⊢;split
          · rename_i hw
            rw[if_pos hw]at h;grind[Vl]
          grind
      refine wm rest a' w' _ _ ?_ ?_ this
      · rintro e a w ⟨he,A',st',M'',h4,h5,h6⟩
        exact⟨he,A',st',M'',h4,h5,h3.trans h6⟩
      grind
    -- an operation that is carried out
    have go:∀A1,Nd P c o (Cw P c ops K rest) A1 st->Sim c.N Oth A1 st M a w->Region.wanted o (yielded ops a.tmps)=true->
        wpListIn c.F 0 P ops (λe a' w'=>e=.normal/\∃A' st' M',K A' st'/\Sim c.N Oth A' st' M' a' w'/\Chg M w M' w') (o::rest) a w:=by
      intro A1 h1 sim1 hw;unfold wpListIn;rw[if_pos hw];exact Vl (λa' w' ⟨A',st',M',h3,h4,h5⟩=>mono M' w' a' A' st' h3 h4 h5) (λ_ _ _ _ h=>h) (yug hI h1 Oth M a w sim1)
    have skip:∀A1,(P0 c o A1 λA'=>Cw P c ops K rest A' st)->Sim c.N Oth A1 st M a w->Region.wanted o (yielded ops a.tmps)=false->
        wpListIn c.F 0 P ops (λe a' w'=>e=.normal/\∃A' st' M',K A' st'/\Sim c.N Oth A' st' M' a' w'/\Chg M w M' w') (o::rest) a w:=by
      intro A1 h1 sim1 hw;unfold wpListIn;rw[if_neg δ];refine⟨λ_ _=>Tv,?_⟩;have⟨β,sim1⟩:=sim1;unfold P0 xc at h1;cases hd:o.dst with
      |none=>rw[hd]at h1;exact mono M w _ A1 st h1 ⟨β,sim1⟩ (Chg.refl _ _)
      | some d=>
        rw[hd]at h1;have⟨hlt,h1⟩:=Bh h1;exact mono M w _ _ st h1 ⟨β,sim1.put hlt (x:=.und) rfl⟩ (Chg.refl _ _)
    unfold Cw at h;cases hg:o.guard with
    | none=>
      grind[Region.wanted]
    | some jw=>
      have⟨j,want⟩:=jw;rw[hg]at h;have⟨t,ht,h⟩:=zt h;have hwant:∀y,yielded ops a.tmps j=y->Region.wanted o (yielded ops a.tmps)=(y==some want):=λy hy=>by simp[Region.wanted,hg,hy]
      split at h
      · rename_i b hb
        have htv:a.tmps.getD t undef=.bool b:=by have⟨β,s⟩:=sim;have:=s.tm t;rw[hb]at this;exact VRel.eq_s this
        have hw:=hwant _ (zhm ht htv);cases b with
        | true=>
          rw[Fr.put_self (A:=A) (x:=ke true) hb]at h;cases want with
          |true=>exact go A h sim δ
          |false=>exact skip A h sim δ
        | false=>
          rw[Fr.put_self (A:=A) (x:=ke false) hb]at h;cases want with
          |true=>exact skip A h sim δ
          |false=>exact go A h sim δ
      · rename_i hb
        have htv:a.tmps.getD t undef=undef:=by have⟨β,s⟩:=sim;have:=s.tm t;rw[hb]at this;exact this
        grind[zhl]
      grind
end
section
variable {P:Program} {c:Cfg}
def Code.wpF_mono{F:Fence}{code:Code}{Q Q':Exit->Act->World->Prop}{a:Act}{w:World}(hq:∀e a w,Q e a w->Q' e a w)(h:code.wpIn F 0 P Q a w):code.wpIn F 0 P Q' a w:=wpIn_mono h hq
def za3{F:Fence}{n:Nat}{code:Code}{Q:Exit->Act->World->Prop}{a:Act}{w:World}(h:code.wpIn F n P (Exit.noGoto Q) a w):(Code.scope code).wpIn F n P Q a w:=by
  intro b k cs hro hb hr;have s1:step P (lone (b.atR a (.code (.scope code)::k)) cs w)=.next (lone (b.atR a (.code code::.inScope code::k)) cs w):=step_lone_go ζ;have h0:(lone (b.atR a (.code (.scope code)::k)) cs w).fenced P F:=fenced_calm hb hr rfl;have⟨e,a₁,w₁,hq,harr⟩:=h b (.inScope code::k) cs hro hb hr;cases e with
  | normal=>
    have s2:step P (lone (b.atR a₁ (.inScope code::k)) cs w₁)=.next (lone (b.atR a₁ k) cs w₁):=step_lone_go ζ;exact⟨.normal,a₁,w₁,hq,.head h0 s1 (StepsIn.trans harr (.one (fenced_calm hb hr rfl) s2))⟩
  | exit id=>
    have hx:exitTo id (.inScope code::k)=exitTo id k:=ζ;exact⟨.exit id,a₁,w₁,hq,λk' hk=>.head h0 s1 (harr.1 k' δ),λhr' hk=>let⟨k₁,h1,h2⟩:=harr.2 hr' δ;⟨k₁,h1,.head h0 s1 h2⟩⟩
  |goto l=>trivial
  |ret=>exact⟨_,a₁,w₁,hq,.of_steps (.one h0 s1) harr⟩
  |panic ch=>exact⟨_,a₁,w₁,hq,.of_steps (.one h0 s1) harr⟩
  |outgrown=>exact⟨_,a₁,w₁,hq,.of_steps (.one h0 s1) harr⟩
def AWp.mono{code:Code}{Q Q':Exit->Fr->Store->Prop}{A:Fr}{st:Store}(h:AWp P c code Q A st)(hq:∀e A st,Q e A st->Q' e A st):AWp P c code Q' A st:=
  ⟨λOth M a w sim=>Code.wpF_mono (λe a' w' ⟨A',st',M',h1,h2,h3⟩=>⟨A',st',M',hq _ _ _ h1,h2,h3⟩) (h.out Oth M a w sim)⟩
def zlp{F:Fence}{ops:Array Oper}{id:Nat}{Q:Exit->Act->World->Prop}{R:Act->World->Prop}{a:Act}{w:World}(h:wpListIn F 0 P ops (λe a' w'=>e=.normal/\R a' w') ops.toList a w)(hq:∀a w,R a w->Q .normal a w):(Code.region id ops false).wpIn F 0 P Q a w:=
  Code.wpF_mono (λe a' w' ⟨he,hr⟩=>δ) (wpIn_region_list h)
def ig(hI:qe P c.I):∀(code:Code) (Q:Exit->Fr->Store->Prop) (A:Fr) (st:Store),vc P c code Q A st->AWp P c code Q A st:=by
  intro code;induction code with
  |skip=>intro Q A st h;exact⟨λOth M a w sim=>wpIn_skip ⟨A,st,M,h,sim,Chg.refl _ _⟩⟩
  | region id ops draw=>
    intro Q A st h;cases draw with
    |false=>exact⟨λOth M a w sim=>zlp (zbj hI ops (Q .normal) ops.toList A st h Oth M a w sim) λ_ _ h=>h⟩
    |true=>exact(ADraw.out h id).mono λe A' st' h'=>δ
  | seq x y ihx ihy=>
    intro Q A st h;refine⟨λOth M a w sim=>wpIn_seq (Code.wpF_mono ?_ ((ihx _ A st h).out Oth M a w sim))⟩;rintro e a' w' ⟨A',st',M',h1,h2,h3⟩;cases e with
    | normal=>
      refine Code.wpF_mono ?_ ((ihy _ A' st' h1).out Oth M' a' w' h2);rintro e a'' w'' ⟨A'',st'',M'',h4,h5,h6⟩;exact⟨A'',st'',M'',h4,h5,h3.trans h6⟩
    |_=>exact⟨A',st',M',h1,h2,h3⟩
  | cond x p q ihp ihq=>
    intro Q A st h;simp only[vc]at h;split at h
    · rename_i t ht
      refine⟨λOth M a w sim=>?_⟩;have hv:a.eval x=.bool t:=ψo;refine wpIn_cond hv ?_;cases t with
      |true=>exact(ihp Q A st h).out Oth M a w sim
      |false=>exact(ihq Q A st h).out Oth M a w sim
    grind
  | block id b ih=>
    intro Q A st h;refine⟨λOth M a w sim=>wpIn_block (Code.wpF_mono ?_ ((ih _ A st h).out Oth M a w sim))⟩;rintro e a' w' ⟨A',st',M',h1,h2,h3⟩;cases e with
    | exit id'=>
      simp only[dg]at h1;simp only[Exit.inBlock];by_cases he:id'=id
      · subst he
        simp only[Fb5,cond_true]at h1;grind
      · simp only[y9 he,cond_false]at h1
        grind
    |_=>exact⟨A',st',M',h1,h2,h3⟩
  |loop b ih=>intro Q A st h;exact h
  |rangeFunc f ps x y ihx ihy=>intro Q A st h;exact h.elim
  |exit id=>intro Q A st h;exact⟨λOth M a w sim=>wpIn_exit ⟨A,st,M,h,sim,Chg.refl _ _⟩⟩
  | scope b ih=>
    intro Q A st h;refine⟨λOth M a w sim=>za3 (Code.wpF_mono ?_ ((ih _ A st h).out Oth M a w sim))⟩;rintro e a' w' ⟨A',st',M',h1,h2,h3⟩;cases e with
    |goto l=>trivial
    |_=>exact⟨A',st',M',h1,h2,h3⟩
  |label l=>intro Q A st h;exact⟨λOth M a w sim=>wpIn_label ⟨A,st,M,h,sim,Chg.refl _ _⟩⟩
  |goto l=>intro Q A st h;exact h.elim
  |ret=>intro Q A st h;exact⟨λOth M a w sim=>wpIn_ret ⟨A,st,M,h,sim,Chg.refl _ _⟩⟩
  |refuse s=>intro Q A st h;exact h.elim
def N6(c:Cfg)(A:Fr)(st:Store):List ResultVar->(List AV->Prop)->Prop
  |[],K=>K []
  | .tmp t::rest,K=>match A.t t with
    |.av x=>N6 c A st rest λl=>K (x::l)
    |_=>False
  |.cell p t::rest,K=>optK (c.I t) λi=>Sy A.bx st (A.t p) λl=>optK (Fx i l) λx=>N6 c A st rest λl=>K (x::l)
def zd9:List AV->AV
  |[x]=>x
  |l=>.tup l
def Wu(c:Cfg)(rs:List ResultVar)(R:Ja)(A:Fr)(st:Store):Prop:=
  N6 c A st rs λl=>∃r st',AV.le (zd9 l) r/\st.Has st'/\R r st'
def my(c:Cfg)(rs:List ResultVar)(R:Ja):Exit->Fr->Store->Prop
  |.normal=>Wu c rs R
  |.ret=>Wu c rs R
  |_=>λ_ _=>False
def gi(args:List AV)(i:Nat):LV:=
  match args,i with
  |[],_=>.und
  |x::_,0=>.av x
  |_::l,i+1=>gi l i
def Cp(args:List AV):Fr:=⟨gi args,λ_=>none⟩
theorem zai(args:List AV)(i:Nat):gi args i=match args[i]? with|some x=>.av x|none=>.und:=by
  induction args generalizing i with
  |nil=>rfl
  | cons x l ih=>
    cases i with
    |zero=>rfl
    |succ i=>simp[gi,ih]
def zea(hI:qe P c.I){w:World}{T:BB}{β:Nat->Nat}{A:Fr}{st:Store}{a:Act}(he:Env w T β A.ev A.bx st a.eval):∀(rs:List ResultVar) (K:List AV->Prop),N6 c A st rs K->
    ∃l vs,K l/\(rs.mapM (m:=Sem) λ|.tmp t=>pure (a.tmps.getD t undef)|.cell p t=>do loadVar t (<-asAddr (a.tmps.getD p undef))).run P w=.ok vs w/\Reads w T l vs:=by
  intro rs;induction rs with
  |nil=>intro K h;exact⟨[],[],h,φ,Reads.nil⟩
  | cons r rs ih=>
    intro K h;cases r with
    | tmp t=>
      simp only[N6]at h;split at h
      · rename_i x hx
        have⟨l,vs,h1,h2,h3⟩:=ih _ h;refine⟨x::l,a.tmps.getD t undef::vs,h1,θd,Reads.cons ?_ h3⟩;have:=he.ev (.tmp t);simp only[Fr.ev,hx]at this;exact this
      grind
    | cell p t=>
      simp only[N6]at h;have⟨i,hi,h⟩:=zt h;have⟨cl,hcl,_,hs⟩:=zjz (ev:=A.ev) h;have⟨x,hx,hcl⟩:=zt hcl;have⟨b,off,hv,hav⟩:=hs w T β a.eval he _ (he.ev (.tmp p));have⟨v,hr,hvr⟩:=zgr (P:=P) (hI _ _ hi) hav hx;have⟨l,vs,h1,h2,h3⟩:=ih _ hcl;have hv':a.tmps.getD p undef=.pointer (some ⟨b,off,none⟩):=hv;refine⟨x::l,v::vs,h1,?_,Reads.cons hvr h3⟩;grind[asAddr,Sem.run_bind,Sem.run_pure,Result.andThen_ok]
def yhc{w:World}{T:BB}{l:List AV}{vs:List Value}(h:Reads w T l vs):VRel w T (zd9 l) (if h:vs.toArray.size=1 then vs.toArray[0]else .tuple vs.toArray):=by
  have⟨hl,hr⟩:=h
  match l,vs,hl with
  |[x],[v],_=>exact hr 0 x v rfl rfl
  |[],[],_=>exact vx ⟨rfl,hr⟩
  | x::y::l,u::v::vs,hl=>
    have:¬(u::v::vs).toArray.size=1:=φ;rw[dif_neg this];exact vx ⟨θ,θ⟩
def Ih(w:World)(b:Nat)(o:Obj):World:={w with heap:=w.heap.setIfInBounds b o}
def yh6{w:World}{b:Nat}{o:Obj}(h:b<w.heap.size):(Ih w b o).heap[b]?=some o:=by simp[Ih,h]
theorem nh{w:World}{b k:Nat}{o:Obj}(h:k≠b):(Ih w b o).heap[k]?=w.heap[k]?:=by simp_all[Ih,Ne.symm]
def yh5{w:World}{b:Nat}{o:Obj}:(Ih w b o).heap.size=w.heap.size:=by simp[Ih]
def yf5{w:World}{b:Nat}(h:w.heap[b]?=some (.deferred (some []))):(Instr.takeDeferred b).run P w=.ok [] (Ih w b (.deferred none)):=by simp_all[Instr.takeDeferred,getObj,setObj,Sem.run,Ih]
structure Shut(Oth M:BB)(w w':World):Prop where
  size:w'.heap.size=w.heap.size
  blk:∀b,w'.heap[b]?=w.heap[b]?\/(w.heap[b]?=some (.deferred (some []))/\w'.heap[b]?=some (.deferred none)/\∀o,¬M b o/\¬Oth b o)
  tape:w'.tape=w.tape
  os:w'.os=w.os
  output:w'.output=w.output
def Shut.keeps{Oth M:BB}{w w':World}(h:Shut Oth M w w')(T:BB):Keeps w T w' T where
  cell b o c hc _:=by
    rcases h.blk b with e|⟨e,_,_⟩
    · rw[G5 e];exact hc
    · simp[World.cell?,e]at hc
  out _ _ _ _ hT:=hT
  shp b c e fr hw:=by
    rcases h.blk b with e'|⟨e',_,_⟩
    · grind
    grind
def Shut.sto{Oth M:BB}{w w':World}{st:Store}(h:Shut Oth M w w')(s:StoreOK st Oth M w):StoreOK st Oth M w' where
  obj b x hx:=by
    have h1:=s.obj b x hx;refine⟨ObjRel.same h1.1 (h.keeps _) ?_,h1.2⟩;rcases h.blk b with e|⟨_,_,e⟩
    · exact e
    simp_all
  tok b top ht:=by
    have⟨c,e,fr,h1,h2,h3,h4⟩:=s.tok b top ht;refine⟨c,e,fr,?_,h2,h3,h4⟩;rcases h.blk b with e'|⟨e',_,_⟩
    · grind
    grind
  mlt b o hm:=by rw[h.size];exact s.mlt b o hm
  olt b o hm:=by rw[h.size];exact s.olt b o hm
  dis:=s.dis
def ylp{Oth M:BB}{fn:Func}{tmps:Array Value}{R:Ending->World->Prop}:∀(ds:List Deferred) (w:World),Marks Oth M w ds->
    (∀w',Shut Oth M w w'->∃v,(results fn tmps).run P w'=.ok v w'/\R (.returned v) w')->LeavesInM Fence.wide 0 P fn tmps R ds .returning w:=by
  intro ds;induction ds with
  |nil=>intro w _ h;exact h w ⟨rfl,λ_=>.inl rfl,rfl,rfl,rfl⟩
  | cons d ds ih=>
    intro w hm h;obtain⟨D,rfl,h1,h2⟩:=hm.all d (Fa1);have hnd:=Fb6.1 hm.nd;have hne:∀d'∈ds,∀D',d'={target:=.collected D',args:=#[]}->D'≠D:=λd' hd' D' e e2=>hnd.1 d' hd' (by rw[e,e2]);refine⟨φ,.inl ⟨D,Ih w D (.deferred none),rfl,yf5 h1,ih _ ⟨hnd.2,λd' hd'=>?_⟩ λw' hs=>h w' ?_⟩⟩
    · have⟨D',e,h3,h4⟩:=hm.all d' (Fau _ hd')
      grind[nh]
    · refine⟨hs.size.trans yh5,λb=>?_,hs.tape,hs.os,hs.output⟩
      by_cases hb:b=D
      · subst hb
        refine .inr ⟨h1,?_,h2⟩;rcases hs.blk b with e|⟨e,_,_⟩
        · rw[e];exact yh6 (Hq h1)
        omega
      · rcases hs.blk b with e|⟨e,e2,e3⟩
        · exact .inl (e.trans (nh hb))
        grind[nh]
def Hi(Oth M:BB)(w:World):Nat->Nat->Prop:=λb o=>Oth b o\/(b<w.heap.size/\¬M b o/\∀c e fr,w.heap[b]?=some (.cells c e fr)->c.size<=o)
def ze3{Oth M:BB}(w:World):Keeps w (λb o=>M b o\/Oth b o) w (λb o=>M b o\/Hi Oth M w b o) where
  cell _ _ _ h _:=h
  out b o v hc hT:=by
    rintro(h|h|⟨_,_,h⟩)
    · grind
    · grind
    grind[World.cell?]
  shp b c e fr h:=⟨c,fr,h,rfl⟩
def yiy{Oth M:BB}{w:World}{st:Store}(s:StoreOK st Oth M w):StoreOK st (Hi Oth M w) M w where
  obj b x hx:=⟨ObjRel.same (s.obj b x hx).1 (ze3 w) rfl,(s.obj b x hx).2⟩
  tok:=s.tok
  mlt:=s.mlt
  olt b o h:=h.elim (s.olt b o) λh=>h.1
  dis b o h:=h.elim (s.dis b o) λh=>h.2.1
def yiz{Oth M:BB}{w:World}{st:Store}{R:Ja}{r:AV}{v:Value}{st':Store}{M':BB}{w' w'':World}(s:StoreOK st Oth M w)(hR:R r st')(hr:VRel w'' (λb o=>M' b o\/Hi Oth M w b o) r v)
    (sto:StoreOK st' (Hi Oth M w) M' w') (hc:Chg M w M' w') (hs:Shut (Hi Oth M w) M' w' w''):xm st R Oth M w v w'':=by
  have hT:∀b o,(M' b o\/Oth b o)->(M' b o\/Hi Oth M w b o):=λb o h=>h.imp id .inl;have sto':=hs.sto sto;refine⟨r,st',M',hR,hr.mono hT,⟨λb x hx=>⟨(sto'.obj b x hx).1.mono hT,(sto'.obj b x hx).2⟩,sto'.tok,sto'.mlt,λb o h=>sto'.olt b o (.inl h),λb o h=>sto'.dis b o (.inl h)⟩,?_⟩;refine{size:=by rw[hs.size];exact hc.size,keep:=λb o hb hm=>?_,blk:=λb hb hm=>?_,shp:=λb c e fr hw=>?_,sub:=hc.sub,tape:=hs.tape.trans hc.tape,os:=hs.os.trans hc.os,output:=hs.output.trans hc.output}
  · rw[<-hc.keep b o hb hm]
    rcases hs.blk b with e|⟨e,e2,_⟩
    · exact G5 e o
    · simp[World.cell?,e,e2]
  · rcases hs.blk b with e|⟨_,_,e⟩
    · exact e.trans (hc.blk b hb hm)
    · exfalso
      cases hx:w.heap[b]? with
      | none=>
        grind
      | some x=>
        cases x with
        |cells c e1 fr=>exact(e c.size).2 (.inr ⟨hb,hm _,λc' e' fr' h=>δ⟩)
        |_=>exact(e 0).2 (.inr ⟨hb,hm _,λc' e' fr' h=>δ⟩)
  · have⟨c',fr',h1,h2⟩:=hc.shp b c e fr hw
    refine⟨c',fr',?_,h2⟩;rcases hs.blk b with e'|⟨e',_,_⟩
    · grind
    grind
def ACalls.of_awp (hI : qe P c.I) {g : FuncId} {fn : Func} {code : Code} {args : List AV} {st : Store} {R : Ja} (hf : P.funcs[g]? = some fn) (hb : fn.body = some code) (hname : (fn.name == "runtime.NumGoroutine") = false)
    (hn:fn.ntmps=c.n) (hlen:Nat.ble args.length c.n=true) (h:AWp P c code (my c fn.results.toList R) (Cp args) st) (hround:c.round=none:=by rfl) (hD:c.D0=[]:=by rfl):ACalls P g args st R:=by
  refine⟨λOth M w vs sto hr=>?_⟩;have hrun:(callFunc g vs).run P w=.ok (.enter g vs) w:=θ4;rw[hrun];simp only[Vi];have hF:c.F=Fence.wide:=by unfold Cfg.F;rw[hround];rfl
  refine(callsIn_wide (n:=0)).1 (callsIn_of_wp_marks hf hb trivial ?_);have hle:args.length<=c.n:=Fbt hlen;have hsz:vs.size=args.length:=by simpa using hr.1.symm
  let a:Act:={tmps:=vs++Array.replicate (fn.ntmps-vs.size) undef,defers:=[]}
  have sim:SimB c.N (Hi Oth M w) (λ_=>0) (Cp args) st M a w:=
    { tsz:=by show Array.size _=c.n;grind
      dfr:=MarksD.nil hD
      tm:=λi=>by
        simp only[Cp,zai,a];rw[Fbm];by_cases hi:i<vs.size
        · rw[Fdu hi,Fbp hi,Fab θ]
          exact(hr.2 i _ _ (Fab θ) (by simp[hi])).keep (ze3 w)
        grind[LRel]
      bx:=λk l hk=>by trivial
      inj:=λk k' hk=>by trivial
      sep:=λk b hk=>by trivial
      sto:=yiy sto}
  have h2:=h.out (Hi Oth M w) M a w ⟨_,sim⟩;rw[hF]at h2;refine Code.wpF_mono ?_ h2
  have fin:∀a' w' A' st' M',Wu c fn.results.toList R A' st'->Sim c.N (Hi Oth M w) A' st' M' a' w'->Chg M w M' w'->
      LeavesInM Fence.wide 0 P fn a'.tmps (λe w'=>∃v,e=.returned v/\xm st R Oth M w v w') a'.defers .returning w':=by
    rintro a' w' A' st' M' hret ⟨β,s⟩ hchg;refine ylp a'.defers w' (s.dfr.out hD) λw'' hs=>?_;have hblk:∀b o,M' b o->w''.heap[b]?=w'.heap[b]?:=λb o hm=>by
      rcases hs.blk b with e|⟨_,_,e⟩
      · exact e
      grind
    have he:Env w'' (λb o=>M' b o\/Hi Oth M w b o) β A'.ev A'.bx st' a'.eval:=
      ⟨λx=>(s.ev x).keep (hs.keeps _),λk l hk=>(s.bx k l hk).1.same (hs.keeps _) (hblk _ 0 ((s.bx k l hk).2 0)),λb x hx=>((hs.sto s.sto).obj b x hx).1⟩
    have⟨l,vs,⟨r,st'',h1,h2,h3⟩,h4,h5⟩:=zea hI he _ _ hret;refine⟨_,?_,_,rfl,yiz sto h3 (h1 _ _ _ (yhc h5)) (s.sto.weaken h2) hchg hs⟩;unfold results;rw[Sem.run_bind,Fes,Sem.run_map];exact congrArg (λr=>(Result.andThen (Result.andThen r λl w=>.ok l.toArray w) λ(vs:Array Value) w'=>.ok (if h:vs.size=1 then vs[0]else .tuple vs) w')) h4
  rintro e a' w' ⟨A',st',M',h1,h2,h3⟩;cases e with
  |normal=>exact fin a' w' A' st' M' h1 h2 h3
  |ret=>exact fin a' w' A' st' M' h1 h2 h3
  |_=>trivial
def Qb (hI : qe P c.I) {g : FuncId} {fn : Func} {code : Code} {args : List AV} {st : Store} {R : Ja} (hf : P.funcs[g]? = some fn) (h : AWp P c code (my c fn.results.toList R) (Cp args) st) (hb : fn.body = some code := by rfl) (hname : (fn.name == "runtime.NumGoroutine") = false := by rfl) (hn : fn.ntmps = c.n := by rfl) (hlen : Nat.ble args.length c.n = true := by rfl) (hround : c.round = none := by rfl) (hD : c.D0 = [] := by rfl): ACalls P g args st R := ACalls.of_awp hI hf hb hname hn hlen h hround hD
def ACalls.of_body (hI : qe P c.I) {g : FuncId} {fn : Func} {code : Code} {args : List AV} {st : Store} {R : Ja} (hf : P.funcs[g]? = some fn) (hb : fn.body = some code) (hname : (fn.name == "runtime.NumGoroutine") = false)
    (hn:fn.ntmps=c.n) (hlen:Nat.ble args.length c.n=true) (h:vc P c code (my c fn.results.toList R) (Cp args) st) (hround:c.round=none:=by rfl) (hD:c.D0=[]:=by rfl):ACalls P g args st R:=
  ACalls.of_awp hI hf hb hname hn hlen (ig hI code _ _ st h) hround hD
def Qa (hI : qe P c.I) {g : FuncId} {fn : Func} {code : Code} {args : List AV} {st : Store} {R : Ja} (hf : P.funcs[g]? = some fn) (h : vc P c code (my c fn.results.toList R) (Cp args) st) (hb : fn.body = some code := by rfl) (hname : (fn.name == "runtime.NumGoroutine") = false := by rfl) (hn : fn.ntmps = c.n := by rfl) (hlen : Nat.ble args.length c.n = true := by rfl) (hround : c.round = none := by rfl) (hD : c.D0 = [] := by rfl): ACalls P g args st R := ACalls.of_body hI hf hb hname hn hlen h hround hD
def Gu(l:List (Nat×LV))(i:Nat):LV:=
  match l with
  |[]=>.any
  |(j,x)::l=>bif Nat.beq i j then x else Gu l i
def Me(l:List (Nat×List AV))(i:Nat):Option (List AV):=
  match l with
  |[]=>none
  |(j,x)::l=>bif Nat.beq i j then some x else Me l i
def Ik(l:List (Nat×LV))(b:List (Nat×List AV)):Fr:=⟨Gu l,Me b⟩
def O0(A:Fr):List (Nat×LV)->Prop
  |[]=>True
  |(j,x)::l=>LV.le (A.t j) x/\O0 A l
def O2(A:Fr):List (Nat×List AV)->Prop
  |[]=>True
  |(j,x)::l=>A.bx j=some x/\O2 A l
def ypi{A:Fr}:∀{l:List (Nat×LV)},O0 A l->∀i,LV.le (A.t i) (Gu l i):=by
  intro l;induction l with
  |nil=>intro _ i;exact LV.le_any _
  | cons p l ih=>
    have⟨j,x⟩:=p;intro h i;simp only[Gu];by_cases hi:i=j
    · subst hi;simp only[Fb5,cond_true];exact h.1
    · simp only[y9 hi,cond_false];exact ih h.2 i
def ypj{A:Fr}:∀{l:List (Nat×List AV)},O2 A l->∀i x,Me l i=some x->A.bx i=some x:=by
  intro l;induction l with
  |nil=>intro _ i x h;trivial
  | cons p l ih=>
    have⟨j,y⟩:=p;intro h i x hx;simp only[Me]at hx;by_cases hi:i=j
    · subst hi;simp only[Fb5,cond_true]at hx;rw[<-hx];exact h.1
    · simp only[y9 hi,cond_false]at hx;exact ih h.2 i x hx
theorem Sim.fits{n:SN}{Oth M:BB}{A:Fr}{st st':Store}{a:Act}{w:World}(h:Sim n Oth A st M a w){l:List (Nat×LV)}{b:List (Nat×List AV)}(ht:O0 A l)(hb:O2 A b)(hs:st.Has st'):Sim n Oth (Ik l b) st' M a w:=by
  have⟨β,s⟩:=h;have hbx:∀k x,Me b k=some x->A.bx k=some x:=ypj hb;have hne:∀k,Me b k≠none->A.bx k≠none:=λk hk=>by
    cases hl:Me b k with
    |none=>grind
    |some x=>grind
  exact⟨β,
    { tsz:=s.tsz
      dfr:=s.dfr
      tm:=λi=>ypi ht i _ _ _ _ (s.tm i)
      bx:=λk x hk=>s.bx k x (hbx k x hk)
      inj:=λk k' h1 h2=>s.inj k k' (hne k h1) (hne k' h2)
      sep:=λk b hk hb=>s.sep k b (hne k hk) (by
        rcases hb with hb|hb
        · cases ho:st'.obj b with
          |none=>grind
          |some x=>exact .inl (by rw[hs.obj b x ho];simp)
        · cases ho:st'.tok b with
          |none=>grind
          |some x=>exact .inr (by rw[hs.tok b x ho];simp))
      sto:=s.sto.weaken hs}⟩
def AWp.weaken{code:Code}{Q:Exit->Fr->Store->Prop}{A:Fr}{st st':Store}{l:List (Nat×LV)}{b:List (Nat×List AV)}(h:AWp P c code Q (Ik l b) st')(ht:O0 A l)(hb:O2 A b)(hs:st.Has st'):AWp P c code Q A st:=
  ⟨λOth M a w sim=>h.out Oth M a w (sim.fits ht hb hs)⟩
structure LoopHead(σ:Type) where
  t:σ->List (Nat×LV)
  bx:σ->List (Nat×List AV)
  inv:σ->Store->Prop
  μ:σ->Nat
def LoopHead.at{σ:Type}(H:LoopHead σ)(A:Fr)(st:Store)(p:σ->Prop):Prop:=
  ∃s,p s/\H.inv s st/\O0 A (H.t s)/\O2 A (H.bx s)
def zd3{σ:Type}(H:LoopHead σ)(s:σ)(Q:Exit->Fr->Store->Prop):Exit->Fr->Store->Prop
  |.normal=>λA st=>H.at A st λs'=>H.μ s'<H.μ s
  |e=>Q e
def AWp.loop{σ:Type}(H:LoopHead σ){b:Code}{Q:Exit->Fr->Store->Prop}{A:Fr}{st:Store}(hI:qe P c.I)(h0:H.at A st λ_=>True)
    (round:∀s st,H.inv s st->vc P c b (zd3 H s Q) (Ik (H.t s) (H.bx s)) st):AWp P c (.loop b) Q A st:=by
  have⟨s0,_,hi0,ht0,hb0⟩:=h0;refine⟨λOth M a w sim=>?_⟩
  refine wpIn_loop_ghost (λn a' w'=>∃s st' M',H.μ s=n/\H.inv s st'/\Sim c.N Oth (Ik (H.t s) (H.bx s)) st' M' a' w'/\Chg M w M' w') (H.μ s0)
    ⟨s0,st,M,rfl,hi0,sim.fits ht0 hb0 (Store.Has.refl st),Chg.refl M w⟩ ?_
  rintro n a' w' ⟨s,st',M',rfl,hi,hsim,hchg⟩;refine Code.wpF_mono ?_ ((ig hI b _ _ st' (round s st' hi)).out Oth M' a' w' hsim);rintro e a'' w'' ⟨A'',st'',M'',h1,h2,h3⟩;cases e with
  | normal=>
    have⟨s',hlt,hi',ht',hb'⟩:=h1;exact⟨H.μ s',hlt,s',st'',M'',rfl,hi',h2.fits ht' hb' (Store.Has.refl st''),hchg.trans h3⟩
  |_=>exact⟨A'',st'',M'',h1,h2,hchg.trans h3⟩
end
section
variable {P:Program} {c:Cfg}
def AWp.of_vc(hI:qe P c.I){code:Code}{Q:Exit->Fr->Store->Prop}{A:Fr}{st:Store}(h:vc P c code Q A st):AWp P c code Q A st:=ig hI code Q A st h
def AWp.seq{x y:Code}{Q:Exit->Fr->Store->Prop}{A:Fr}{st:Store}(h:AWp P c x (V4 (AWp P c y Q) Q) A st):AWp P c (.seq x y) Q A st:=by
  refine⟨λOth M a w sim=>wpIn_seq (Code.wpF_mono ?_ (h.out Oth M a w sim))⟩;rintro e a' w' ⟨A',st',M',h1,h2,h3⟩;cases e with
  | normal=>
    refine Code.wpF_mono ?_ ((AWp.out h1) Oth M' a' w' h2);rintro e a'' w'' ⟨A'',st'',M'',h4,h5,h6⟩;exact⟨A'',st'',M'',h4,h5,h3.trans h6⟩
  |_=>exact⟨A',st',M',h1,h2,h3⟩
theorem AWp.block{id:Nat}{b:Code}{Q:Exit->Fr->Store->Prop}{A:Fr}{st:Store}(h:AWp P c b (dg id Q) A st):AWp P c (.block id b) Q A st:=by
  refine⟨λOth M a w sim=>wpIn_block (Code.wpF_mono ?_ (h.out Oth M a w sim))⟩;rintro e a' w' ⟨A',st',M',h1,h2,h3⟩;cases e with
  | exit id'=>
    simp only[dg]at h1;simp only[Exit.inBlock];by_cases he:id'=id
    · subst he
      simp only[Fb5,cond_true]at h1;grind
    · simp only[y9 he,cond_false]at h1
      grind
  |_=>exact⟨A',st',M',h1,h2,h3⟩
def AWp.scope{b:Code}{Q:Exit->Fr->Store->Prop}{A:Fr}{st:Store}(h:AWp P c b (zfl Q) A st):AWp P c (.scope b) Q A st:=by
  refine⟨λOth M a w sim=>za3 (Code.wpF_mono ?_ (h.out Oth M a w sim))⟩;rintro e a' w' ⟨A',st',M',h1,h2,h3⟩;cases e with
  |goto l=>trivial
  |_=>exact⟨A',st',M',h1,h2,h3⟩
structure Meet(σ:Type) where
  t:σ->List (Nat×LV)
  bx:σ->List (Nat×List AV)
  inv:σ->Store->Prop
def Meet.at{σ:Type}(H:Meet σ)(A:Fr)(st:Store):Prop:=∃s,H.inv s st/\O0 A (H.t s)/\O2 A (H.bx s)
def AWp.meet{σ:Type}(H:Meet σ)(hI:qe P c.I){x y:Code}{Q:Exit->Fr->Store->Prop}{A:Fr}{st:Store}(hx:vc P c x (V4 H.at Q) A st)
    (hy:∀s st',H.inv s st'->AWp P c y Q (Ik (H.t s) (H.bx s)) st'):AWp P c (.seq x y) Q A st:=by
  refine AWp.seq ((AWp.of_vc hI hx).mono λe A' st' h=>?_);cases e with
  | normal=>
    have⟨s,h1,h2,h3⟩:=h;exact AWp.weaken (hy s st' h1) h2 h3 (Store.Has.refl st')
  |_=>exact h
end
section
variable {P:Program}
def tg(P:Program)(t:TypeId):Bool:=
  !P.stoodInHeld t && !P.eqGuardType P.depth t && (match P.underlying t with | some (.struct fs) => fs.toList.all fun f => f.name != "_" | _ => true)
def gz(z:Value)(d:Ty):Bool:=match z with|.agg _=>Da d|_=> !Da d
def infoOf(P:Program)(t:TypeId)(eq:Bool):Option TI:=
  match P.info? t,P.underlying t with
  | some inf,some d=>match inf.zero with
    |some z=>bif Nat.beq z.cells.toList.length inf.size&&(!eq||tg P t)&&gz z (Dc d)then some {ty:=Dc d,size:=inf.size,bytes:=inf.bytes,zero:=z.cells.toList,eq:=eq}else none
    |none=>none
  |_,_=>none
def ymr{t:TypeId}{eq:Bool}{i:TI}(h:infoOf P t eq=some i):TIok P t i:=by
  unfold infoOf at h;split at h
  · rename_i inf d hinf hd
    split at h
    · rename_i z hz
      cases hb:(Nat.beq z.cells.toList.length inf.size&&(!eq||tg P t)&&gz z (Dc d))with
      |false=>grind
      | true=>
        rw[hb]at h;simp only[cond_true,Fam]at h;subst h;simp only[Fa6]at hb;have⟨⟨h2,h3⟩,h4⟩:=hb;refine⟨⟨inf,hinf,rfl,rfl,z,hz,rfl⟩,⟨d,hd,rfl⟩,(vw _ _).1 h2,λinf' z' hi' hz'=>?_,λhe=>?_⟩
        · rw[hinf]at hi'
          cases hi';rw[hz]at hz';cases hz';cases z with
          |agg cs=>exact .inl ⟨h4,cs,rfl⟩
          |_=>exact .inr ⟨by simpa [gz]using h4,rfl⟩
        simp only at he;subst he;simp only[Bool.not_true,Fey,tg,Fa6,Fcf]at h3;grind
    · cases h
  · cases h
inductive Tr where
  |nil
  |node (k:Nat) (l:Tr) (x:TI) (r:Tr)
def Tr.get:Tr->Nat->Option TI
  |.nil,_=>none
  |.node k l x r,t=>bif Nat.beq t k then some x else bif Nat.blt t k then l.get t else r.get t
def Tr.all(P:Program):Tr->Prop
  |.nil=>True
  |.node k l x r=>infoOf P k x.eq=some x/\l.all P/\r.all P
theorem Tr.ok:∀(tr:Tr),tr.all P->qe P tr.get:=by
  intro tr;induction tr with
  |nil=>intro _ t i h;cases h
  | node k l x r ihl ihr=>
    rintro⟨h1,h2,h3⟩ t i h;simp only[Tr.get]at h;by_cases ht:t=k
    · subst ht
      simp only[Fb5,cond_true,Fam]at h;subst h;exact ymr h1
    · simp only[y9 ht,cond_false]at h
      cases hb:Nat.blt t k with
      |true=>rw[hb]at h;exact ihl h2 t i h
      |false=>rw[hb]at h;exact ihr h3 t i h
inductive Tr2 where
  |nil
  |node (l:Tr2) (x:Option TI) (r:Tr2)
def Tr.look(P:Program):Tr->Tr2
  |.nil=>.nil
  |.node k l x r=>.node (l.look P) (infoOf P k x.eq) (r.look P)
def Tr.vals:Tr->Tr2
  |.nil=>.nil
  |.node _ l x r=>.node l.vals (some x) r.vals
def Tr.of_look:∀(t:Tr),t.look P=t.vals->t.all P
  |.nil,_=>True.intro
  | .node k l x r,h=>by simp only[Tr.look,Tr.vals,Tr2.node.injEq]at h;exact⟨h.2.1,Tr.of_look l h.1,Tr.of_look r h.2.2⟩
end
section
variable {st st':Store} {k:Nat} {v:AV}
def App(k:Nat)(st:Store)(v:AV)(rows:List (List AV))(st':Store):Prop:=
  (v=.s (.slice none 0 0)/\rows=[]/\st'=st)\/Owned k st v rows st'
def App.start(k:Nat)(st:Store):App k st (.s (.slice none 0 0)) [] st:=.inl ⟨rfl,rfl,rfl⟩
theorem ybe{b:Nat}{x:Option Nat}(h:st.tok b=none):(st.sT b x).sT b none=st:=by
  unfold Store.sT
  congr
  grind[y9]
theorem App.has{rows:List (List AV)}(h:App k st v rows st'):st'.Has st:=by
  rcases h with⟨_,_,rfl⟩|⟨_,_,rfl⟩|⟨_,b,hb,_,rfl⟩
  · exact Store.Has.refl _
  · exact Store.Has.refl _
  · refine⟨λ_ _ h=>h,λi x h=>?_⟩
    have:i≠b:=λe=>by rw[e,hb.2]at h;cases h
    simpa [Store.sT,y9 this]using h
def App.le{rows:List (List AV)}(h:App k st v rows st'):AV.le v (.lst k rows none):=by
  rcases h with⟨rfl,rfl,_⟩|⟨rfl,rfl,_⟩|⟨_,b,hb,rfl,_⟩
  · exact AV.le_nil k
  · intro w T v h
    cases h with
    | emp a h=>
      cases a with
      |none=>exact .nil k none
      | some a=>
        have⟨b,off,spot⟩:=a;simp_all[VRel.empty]
  · exact AV.le_tok _ _ _
def jy{c:Cfg}{e:TypeId}{ie:TI}{x:LV}{K:Ja}{rows rows':List (List AV)}(h:App ie.size st v rows st')(hie:c.I e=some ie)(hx:kh ie.size x=some rows')
    (hroom:room (rows.length+rows'.length) ie.bytes) (hK:∀v2 st2,App ie.size st v2 (rows++rows') st2->K v2 st2) {P:Program} (hp:Nat.blt 0 ie.size=true:=by rfl):appendK P c st' e (.av v) x K:=by
  refine⟨.inl (za ie hie ?_)⟩;rcases h with⟨rfl,rfl,rfl⟩|⟨rfl,rfl,rfl⟩|⟨hne,b,hb,rfl,rfl⟩
  · exact za rows' hx ⟨δ,λv st2 ho=>hK v st2 (.inr δ)⟩
  · exact za rows' hx ⟨δ,λv st2 ho=>hK v st2 (.inr δ)⟩
  · show(bif Nat.beq ie.size ie.size&&Nat.blt 0 ie.size then _ else False)
    rw[Fb5,hp,Fd4,cond_true];refine za rows' hx ⟨by simp[Store.sT],δ,λv st2 ho=>hK v st2 (.inr ?_)⟩
    rwa [ybe hb.2]at ho
end
section
variable {P:Program} {c:Cfg}
theorem ci{ev ev':Operand->LV}{l:List Operand}(h:∀x∈l,ev' x=ev x):
    (l.mapM λx=>(ev' x).toAV)=(l.mapM λx=>(ev x).toAV):=by
  induction l with
  |nil=>rfl
  | cons a l ih=>
    grind
theorem yi5{ev ev':Operand->LV}{x:Option Operand}(h:∀y∈x.toArray,ev' y=ev y):Hj ev' x=Hj ev x:=by
  cases x with
  |none=>rfl
  |some y=>simp only[Hj];grind
def zbh{ev:Operand->LV}{bx:Nat->Option (List AV)}{st:Store}{d:Nat}{op:Op}{K K':LV->Prop}(hI:qe P c.I)(hK:∀x,K x->K' x)(h:vcV c ev bx st d op K):vcV c ev bx st d op K':=by have⟨x,hx,hx',_⟩:=ij hI op h;grind
def zbi{ev ev':Operand->LV}{bx:Nat->Option (List AV)}{st:Store}{d:Nat}{op:Op}{K:LV->Prop}(h:∀x∈op.operands,ev' x=ev x)(hv:vcV c ev bx st d op K):vcV c ev' bx st d op K:=by
  cases op<;>simp only[Op.operands]at h<;>first|exact hv|skip
  case move x=>simp_all[vcV]
  case assign x=>simp_all[vcV]
  case pick a b e=>simp_all[vcV]
  case load t x=>simp_all[vcV]
  case nilCheck x=>simp_all[vcV]
  case binOp op t x y yt=>simp_all[vcV]
  case unOp op t x=>simp_all[vcV]
  case convert s t x=>simp_all[vcV]
  case fieldAddr s x f=>simp_all[vcV]
  case field s x f=>simp_all[vcV]
  case indexAddr t x i=>simp_all[vcV]
  case index t x i=>simp_all[vcV]
  case extract x i=>simp_all[vcV]
  case slice t x lo hi mx=>
    simp_all[vcV,yi5]
  case build t ps=>
    simp only[vcV]at hv⊢;have e:(ps.toList.map λp=>(p.1,ev' p.2))=(ps.toList.map λp=>(p.1,ev p.2)):=Fbw λp hp=>δ
    rwa [e]
  case makeFunc f first cap=>
    cases f<;>simp only[vcV]at hv⊢<;>try exact hv
    have e:first.toList.mapM (λx=>(ev' x).toV)=first.toList.mapM λx=>(ev x).toV:=by
      have:∀l:List Operand,(∀x∈l,ev' x=ev x)->l.mapM (λx=>(ev' x).toV)=l.mapM λx=>(ev x).toV:=λl=>by
        induction l with
        |nil=>intro _;rfl
        |cons a l ih=>intro hl;rw[List.mapM_cons,List.mapM_cons,hl a φ,ih λx hx=>hl x (by simp[hx])]
      exact this _ λx hx=>h x (by simp;exact .inl θb)
    rwa [ci (ev:=ev) (ev':=ev') λx hx=>h x (by simp;exact .inr θb),e]
  case call cl=>
    have⟨callee,args,argTypes⟩:=cl;simp only[vcV,I4]at hv⊢;cases callee with
    |value f=>exact hv
    |invoke r m=>exact hv
    | builtin b=>
      have ha:∀x∈args,ev' x=ev x:=λx hx=>h x (by simp[Call.operands,hx]);cases b<;>simp only at hv⊢<;>try exact hv
      case len=>
        have⟨t,ht,hv⟩:=zt hv;have⟨i,hi,hv⟩:=zt hv;have⟨x,hx,hv⟩:=zt hv;refine za t ht (za i hi (za x hx ?_))
        rwa [ha x (Fee hx)]
      case cap=>
        have⟨t,ht,hv⟩:=zt hv;have⟨i,hi,hv⟩:=zt hv;have⟨x,hx,hv⟩:=zt hv;refine za t ht (za i hi (za x hx ?_))
        rwa [ha x (Fee hx)]
      case min=>rwa [show args.toList.map ev'=args.toList.map ev from Fbw λx hx=>ha x θb]
      case max=>rwa [show args.toList.map ev'=args.toList.map ev from Fbw λx hx=>ha x θb]
def Od:Op->Bool
  |.load ..=>false
  |.call cl=>match cl.callee with|.builtin .min=>true|.builtin .max=>true|_=>false
  |_=>true
def zbg{ev:Operand->LV}{bx bx':Nat->Option (List AV)}{st st':Store}{d:Nat}{op:Op}{K:LV->Prop}(hn:Od op=true)(hv:vcV c ev bx st d op K):vcV c ev bx' st' d op K:=by
  cases op<;>first|exact hv|skip
  case load t x=>simp[Od]at hn
  case call cl=>
    have⟨callee,args,argTypes⟩:=cl;simp only[vcV,I4]at hv⊢;cases callee with
    |value f=>exact hv
    |invoke r m=>exact hv
    |builtin b=>cases b<;>simp[Od]at hn<;>exact hv
def bsK(c:Cfg)(ev:Operand->LV)(t:TypeId)(n:Nat)(parts:Array (Nat×Operand))(K:LV->Prop):Prop:=
  optK (c.I t) λi=>match i.ty with
    | .slice e=>optK (c.I e) λie=>optK (Kl ie.size n (List.replicate n (Cu ie)) (parts.toList.map λp=>(p.1,ev p.2))) λrows=>
      bif rows.flatten.all AV.one then n*ie.size<=16777216/\(match rows with
        |[]=>K (.av .emp)
        |_::_=>K (.av (.lst ie.size rows none)))else False
    |_=>False
def vcW(c:Cfg)(ev:Operand->LV)(bx:Nat->Option (List AV))(st:Store)(d:Nat)(op:Op)(K:LV->Prop):Prop:=
  match op with
  |.buildSlice t n parts=>bsK c ev t n parts K
  |op=>vcV c ev bx st d op K
def zj9{ev:Operand->LV}{t:TypeId}{n:Nat}{parts:Array (Nat×Operand)}{K:LV->Prop}(h:bsK c ev t n parts K):
    ∃ (i ie:TI) (e:TypeId) (rows:List (List AV)) (x:LV),c.I t=some i/\i.ty=.slice e/\c.I e=some ie/\Kl ie.size n (List.replicate n (Cu ie)) (parts.toList.map λp=>(p.1,ev p.2))=some rows/\rows.flatten.all AV.one=true∧
      n*ie.size<=16777216/\x=(match rows with|[]=>.av .emp|_::_=>.av (.lst ie.size rows none))/\K x/\∀K':LV->Prop,K' x->bsK c ev t n parts K':=by
  unfold bsK at h;have⟨i,hi,h⟩:=zt h;split at h
  · rename_i e hty
    have⟨ie,hie,h⟩:=zt h;have⟨rows,hrows,h⟩:=zt h;cases hone:rows.flatten.all AV.one with
    |false=>rw[hone]at h;exact h.elim
    | true=>
      rw[hone]at h;simp only[cond_true]at h;have⟨hroom,h⟩:=h;refine⟨i,ie,e,rows,_,hi,hty,hie,hrows,hone,hroom,rfl,by cases rows<;>exact h,λK' h'=>za i hi ?_⟩;simp only[hty];refine za ie hie (za rows hrows ?_);rw[hone];exact⟨hroom,by cases rows<;>exact h'⟩
  · exact h.elim
def ii{ev ev':Operand->LV}{bx:Nat->Option (List AV)}{st:Store}{d:Nat}{op:Op}{K:LV->Prop}(h:∀x∈op.operands,ev' x=ev x)(hv:vcW c ev bx st d op K):vcW c ev' bx st d op K:=by
  cases op<;>first|exact zbi (bx:=bx) (st:=st) (d:=d) (K:=K) h (show vcV c ev bx st d _ K from hv)|skip
  case buildSlice t n parts=>
    have e:(parts.toList.map λp=>(p.1,ev' p.2))=(parts.toList.map λp=>(p.1,ev p.2)):=Fbw λp hp=>by rw[h p.2 (by simp[Op.operands];exact⟨p.1,by simpa using hp⟩)]
    simp only[vcW]at hv⊢;unfold bsK at hv⊢
    rwa [e]
theorem zmo{ev:Operand->LV}{bx bx':Nat->Option (List AV)}{st st':Store}{d:Nat}{op:Op}{K:LV->Prop}(hn:Od op=true)(hv:vcW c ev bx st d op K):vcW c ev bx' st' d op K:=by
  cases op<;>first|exact zbg (bx:=bx) (st:=st) (d:=d) (K:=K) hn (show vcV c ev bx st d _ K from hv)|exact hv|skip
  case call cl=>exact zbg (bx:=bx) (bx':=bx') (st:=st) (st':=st') (d:=d) (op:=.call cl) hn hv
end
end Go.V
