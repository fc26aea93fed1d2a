/- Lemmas of thronglaw29; no conditions. -/
import Derived.Laws.Append
import Derived.Tactics
import Derived.RangeFuncLeaves
import Derived.Test.YtphhbmaalpdnoaaGreatKA
set_option linter.unusedSimpArgs false
set_option linter.unusedVariables false
set_option linter.defProp false
open List renaming length→Γ
open Option renaming some→Δ,none→Θ
namespace Go.V
section
variable {P:Program} {c:Cfg} {w:World} {Oth M:BB} {st:Store}
def CellsRel.mono{T a:BB}(g:∀b o,a b o->T b o){l:List AV}{b:Nat}(h:CellsRel w T l b):CellsRel w a l b:=by obtain⟨c,e,t,p,n,k,j⟩:=h;exact⟨c,e,t,p,n,k,λi x y f d=>(j i x y f d).mono g⟩
def ObjRel.mono{T g:BB}(a:∀b o,g b o->T b o){x:AObj}{b:Nat}(h:ObjRel w T x b):ObjRel w g x b:=by
  cases x with
  |cells l=>exact CellsRel.mono a h
  | map es v clock=>
    obtain⟨j,u,t,f,n⟩:=h;exact⟨j,u,t,λi x y e d=>⟨(f i x y e d).1.mono a,(f i x y e d).2.mono a⟩,n⟩
  |iter m since seen last=>exact h
  |ghost o gh=>exact⟨h.1,λp k=>(h.2 p k).mono a⟩
def LRel.mono{T a:BB}(d:∀b o,a b o->T b o){β:Nat->Nat}{x:LV}{v:Value}(h:LRel w T β x v):LRel w a β x v:=by
  cases x with
  |any=>trivial
  |und=>exact h
  |av x=>exact VRel.mono d h
  |bx k off=>exact h
def SimB.shrink{n:SN}{β:Nat->Nat}{A:Fr}{a:Act}(h:SimB n Oth β A st M a w){M':BB}(g:∀b o,M' b o->M b o)
    (u:∀k l,A.bx k=Δ l->∀o,M' (β k) o) (t:∀b x,st.obj b=Δ x->∀o,M' b o) (z:∀b d,st.tok b=Δ d->∀o,d<=o->M' b o):SimB n Oth β A st M' a w where
  tsz:=h.tsz
  dfr:=h.dfr.sub g
  tm i:=(h.tm i).mono λb o f=>f.imp (g b o) id
  bx k l p:=⟨(h.bx k l p).1.mono λb o f=>f.imp (g b o) id,u k l p⟩
  inj:=h.inj
  sep:=h.sep
  sto:=
    { obj:=λb x j=>⟨(h.sto.obj b x j).1.mono λb o f=>f.imp (g b o) id,t b x j⟩
      tok:=λb d j=>by obtain⟨c,e,G,E,D,C,B⟩:=h.sto.tok b d j;grind
      mlt:=λb o f=>h.sto.mlt b o (g b o f)
      olt:=h.sto.olt
      dis:=λb o v y=>h.sto.dis b o v (g b o y)}
def ee(M:BB)(B a:Nat):Nat->Nat->Prop:=λb o=>M b o\/(b=B/\a<=o)
def zg6(w:World)(o:Obj)(M:BB)(a:Nat):Chg M w (ee M w.heap.size a) (w.alloc o):=
  { Kw w o M with
    sub:=λb e d f=>by
      rcases d with h|h
      . exact h
      . omega}
def SimB.newTok{n:SN}{β:Nat->Nat}{A:Fr}{a:Act}(h:SimB n Oth β A st M a w)(p:Array Value)(e:TypeId)(d:Nat)(g:d<=p.size):
    SimB n Oth β A (st.sT w.heap.size (Δ d)) (ee M w.heap.size d) a (w.alloc (.cells p e)):=by
  have j:=(h.grow1 (.cells p e)).shrink (M':=ee M w.heap.size d) (λb o z=>z.imp id λh=>h.1)
    (λk l y o=>.inl ((h.bx k l y).2 o)) (λb x u o=>.inl ((h.sto.obj b x u).2 o))
    (λb t u o v=>by obtain⟨c,e,I,j,H,G,E⟩:=h.sto.tok b t u;exact .inl (E o v))
  refine{j with sep:=λk b y D C=>?_,sto:={j.sto with tok:=λb t i=>?_}}
  . by_cases f:b=w.heap.size
    . cases B:A.bx k with
      |none=>grind
      |some l=>have:=(h.bx k l B).1.lt;omega
    . refine h.sep k b y ?_ C
      simpa [Store.sT,qp f]using D
  . by_cases f:b=w.heap.size
    . subst f
      simp only[Store.sT,Fbu,cond_true,Fak]at i;subst i;exact⟨p,e,(0,0),Ko w _,.inl rfl,g,λo v=>.inr ⟨rfl,v⟩⟩
    . simp only[Store.sT,qp f,cond_false]at i
      exact j.sto.tok b t i
structure Wrote(w:World)(b o:Nat)(vs:List Value)(w':World):Prop where
  size:w'.heap.size=w.heap.size
  other:∀b',b'≠b->w'.heap[b']?=w.heap[b']?
  blk:∀c e fr,w.heap[b]?=Δ (.cells c e fr)->∃c',w'.heap[b]?=Δ (.cells c' e fr)/\c'.toList=c.toList.take o++vs++c.toList.drop (o+Γ vs)/\c'.size=c.size
  tape:w'.tape=w.tape
  os:w'.os=w.os
  output:w'.output=w.output
theorem bf(w:World)(b o:Nat)(v:Value)(a:Nat):(w.setCell ⟨b,o,Θ⟩ v).heap[a]?=if a=b then(w.heap[a]?).map (λ|.cells c e fr=>.cells (c.setIfInBounds o v) e fr|x=>x)else w.heap[a]?:=by simp only[World.setCell,Fc4];grind
def Kb(w:World)(b o:Nat):∀(g:List Value) (i:Nat) (w:World) (c:Array Value) (e:TypeId) (j:Nat×Nat),w.heap[b]?=Δ (.cells c e j)->F9 j c.size->o+i+Γ g<=c.size->
    (∀v∈g,xq v=true)->∃n,(storeCells ⟨b,o,Θ⟩ g i).run P w=.ok () n/\Wrote w b (o+i) g n:=by
  intro g;induction g with
  | nil=>
    intro i w c e j p _ _ _;exact⟨w,ξ,rfl,λ_ _=>rfl,λc e j h=>⟨c,h,φ,rfl⟩,rfl,rfl,rfl⟩
  | cons v g D=>
    intro i w c e j p S l f;simp only[Fbb]at l;have t:o+i<c.size:=Z;have hcell:w.cell? ⟨b,o+i,Θ⟩=Δ c[o+i]:=by simp[World.cell?,p,t]
    have u:w.frozen? ⟨b,o+i,Θ⟩=false:=by grind[World.frozen?,F9]
    have G:(store (Addr.add ⟨b,o,Θ⟩ i) v).run P w=.ok () (w.setCell ⟨b,o+i,Θ⟩ v):=by rw[wu];have I:=f v φ;cases v<;>simp[xq]at I<;>simp[store,Sem.run,hcell,u]
    have k:(w.setCell ⟨b,o+i,Θ⟩ v).heap[b]?=Δ (.cells (c.setIfInBounds (o+i) v) e j):=by simp_all[bf]
    obtain⟨n,R,a⟩:=D (i+1) _ _ e j k δ δ (λv E=>f v (by simp[E]));refine⟨n,by grind[storeCells,Sem.run_bind,Result.andThen_ok],by rw[a.size];simp,λL A=>by rw[a.other L A,bf,if_neg A],λC B z d=>?_,by rw[a.tape];rfl,by rw[a.os];rfl,by rw[a.output];rfl⟩;rw[p]at d;cases d;obtain⟨K,y,H,Q⟩:=a.blk _ _ _ k;refine⟨K,y,?_,δ⟩;rw[H];apply Fcd;simp only[List.getElem?_append,Fed,Fct,Fei,Fad,Fah,Faf,Fbb,Fco];grind
def Wrote.keeps{b o:Nat}{n:List Value}{i:World}(h:Wrote w b o n i){T:BB}(p:∀o,T b o):Keeps w T i T where
  cell a j c l g:=by have f:a≠b:=λe=>g (e▸p j);rw[Gz (h.other a f)];exact l
  out a j c l g:=g
  shp a c e fr k:=by
    by_cases d:a=b
    . subst d
      obtain⟨v,u,_,t⟩:=h.blk c e fr k;grind
    . exact⟨c,fr,by rw[h.other a d];exact k,rfl⟩
def Wrote.chg{b o:Nat}{j:List Value}{g:World}(h:Wrote w b o j g)(d:∀o,M b o):Chg M w M g where
  size:=by rw[h.size];simp
  keep f i _ a:=Gz (h.other f λe=>a (e▸d i)) i
  blk f _ a:=h.other f λe=>a 0 (e▸d 0)
  shp:=(h.keeps d).shp
  sub _ _ a _:=a
  tape:=h.tape
  os:=h.os
  output:=h.output
def CellsRel.wrote{b o:Nat}{g:List Value}{f:World}{T:BB}(h:Wrote w b o g f)(u:∀o,T b o){l xs:List AV}(t:CellsRel w T l b)(a:Reads w T xs g):
    CellsRel f T (zu l o xs) b:=by
  obtain⟨c,e,k,C,B,E,A⟩:=t;obtain⟨n,z,v,D⟩:=h.blk c e k C;have j:Reads w T l c.toList:=⟨Z,λi x y a p=>A i x y a δ⟩
  have d:Reads f T (zu l o xs) n.toList:=by rw[v];refine(((j.take o).append a).append ?_).keep (h.keeps u);rw[a.1];exact j.drop _
  exact⟨n,e,k,z,B,by simpa using d.1,λi x y a p=>d.2 i x y a δ⟩
def StoreOK.wrote{b o:Nat}{k:List Value}{g:World}(h:StoreOK st Oth M w)(hw:Wrote w b o k g)(p:∀o,M b o)(n:st.obj b=Θ):StoreOK st Oth M g where
  obj b' x i:=by have d:b'≠b:=λe=>δ;exact⟨ObjRel.same (h.obj b' x i).1 (hw.keeps λo=>.inl (p o)) (hw.other b' d),(h.obj b' x i).2⟩
  tok b' top l:=by
    obtain⟨c,e,j,h1,v,u,t⟩:=h.tok b' top l;by_cases he:b'=b
    . subst he
      obtain⟨A,z,_,y⟩:=hw.blk c e j h1;grind
    . exact⟨c,e,j,ψd,v,u,t⟩
  mlt b' a f:=by rw[hw.size];exact h.mlt b' a f
  olt b' a f:=by rw[hw.size];exact h.olt b' a f
  dis:=h.dis
theorem SimB.setBx{n:SN}{β:Nat->Nat}{A:Fr}{a:Act}(h:SimB n Oth β A st M a w){k o:Nat}{l xs:List AV}{E:List Value}{C:World}(I:A.bx k=Δ l)
    (K:Reads w (λb o=>M b o\/Oth b o) xs E) (g:Wrote w (β k) o E C):SimB n Oth β (A.setBx k (zu l o xs)) st M a C:=by
  have p:=(h.bx k l I).2;have z:∀o,M (β k) o\/Oth (β k) o:=λo=>.inl (p o);have hsome:∀f,(A.setBx k (zu l o xs)).bx f≠Θ->A.bx f≠Θ:=by grind[Fr.setBx,qp]
  have u:st.obj (β k)=Θ:=by
    cases L:st.obj (β k)with
    |none=>rfl
    |some x=>exact absurd rfl (h.sep k (β k) δ (.inl δ))
  exact
    { tsz:=h.tsz
      dfr:=h.dfr.step λD _ _ t=>⟨g.other D λe=>(t 0).1 (e▸p 0),λo=>(t o).1⟩
      tm:=λi=>(h.tm i).keep (g.keeps z)
      bx:=λf G d=>by
        by_cases y:f=k
        . subst y
          simp only[Fr.setBx,Fbu,cond_true,Fak]at d;subst d;exact⟨CellsRel.wrote g z (h.bx f l I).1 K,p⟩
        . simp only[Fr.setBx,qp y,cond_false]at d
          have v:β f≠β k:=λe=>y (h.inj f k δ δ e);exact⟨(h.bx f G d).1.same (g.keeps z) (g.other _ v),(h.bx f G d).2⟩
      inj:=λj H B t=>h.inj j H (hsome j B) (hsome H t)
      sep:=λj b B=>h.sep j b (hsome j B)
      sto:=h.sto.wrote g p u}
theorem SimB.sO{n:SN}{β:Nat->Nat}{A:Fr}{a:Act}(h:SimB n Oth β A st M a w){b o:Nat}{l xs:List AV}{B:List Value}{z:World}(E:st.obj b=Δ (.cells l))
    (I:Reads w (λb o=>M b o\/Oth b o) xs B) (hw:Wrote w b o B z):SimB n Oth β A (st.sO b (.cells (zu l o xs))) M a z:=by
  have y:=(h.sto.obj b _ E).2;have k:∀o,M b o\/Oth b o:=λo=>.inl (y o)
  exact
    { tsz:=h.tsz
      dfr:=h.dfr.step λD _ _ g=>⟨hw.other D λe=>(g 0).1 (e▸y 0),λo=>(g o).1⟩
      tm:=λi=>(h.tm i).keep (hw.keeps k)
      bx:=λj C f=>by have u:β j≠b:=h.sep j b δ (.inl δ);exact⟨(h.bx j C f).1.same (hw.keeps k) (hw.other _ u),(h.bx j C f).2⟩
      inj:=h.inj
      sep:=λH R h1 g=>h.sep H R h1 (by grind[Store.sO,qp])
      sto:=
        { obj:=λb' x d=>by
            by_cases he:b'=b
            . subst he
              simp only[Store.sO,Fbu,cond_true,Fak]at d;subst d;exact⟨CellsRel.wrote hw k (h.sto.obj b' _ E).1 I,y⟩
            . simp only[Store.sO,qp he,cond_false]at d
              exact⟨ObjRel.same (h.sto.obj b' x d).1 (hw.keeps k) (hw.other b' he),(h.sto.obj b' x d).2⟩
          tok:=λb' p K=>by
            obtain⟨c,e,G,h1,g,Q,L⟩:=h.sto.tok b' p K;by_cases he:b'=b
            . subst he
              obtain⟨U,T,_,S⟩:=hw.blk c e G h1;grind
            . exact⟨c,e,G,ψd,g,Q,L⟩
          mlt:=λb' t v=>by rw[hw.size];exact h.sto.mlt b' t v
          olt:=λb' t v=>by rw[hw.size];exact h.sto.olt b' t v
          dis:=h.sto.dis}}
end
section
variable {P:Program} {c:Cfg} {K:Fr->Store->Prop} {A:Fr} {st:Store}
def Bu{d n:Nat}{p:Prop}(h:bif Nat.blt d n then p else False):d<n/\p:=θh
theorem yu0{o:Oper}{t:TypeId}(C:o.op=.alloc t)(B:qf P c.I)
    (h:optK (c.I t) λi=>optK o.dst λd=>bif Nat.blt d c.n then
      (bif c.G.contains d then∀b,Fresh st b->K (A.put d (.av (.s (.pointer (Δ ⟨b,0,Θ⟩))))) (st.sO b (.cells (Co i)))
        else K (A.newBx d (Co i)) st)else False):AOp P c.N o K A st:=by
  obtain⟨i,v,h⟩:=zv h;obtain⟨d,y,h⟩:=zv h;obtain⟨g,h⟩:=Bu h;rintro j M a w ⟨β,e⟩;obtain⟨z,p,l⟩:=Nj (B _ _ v) w;have u:(execOp a.eval o).run P w=.ok (.value (.pointer (Δ ⟨w.heap.size,0,Θ⟩))) (w.alloc (.cells z.cells t)):=by simp_all[execOp,Instr.alloc,newVar,newRow]
  have f:∀T,Reads w T (Co i) z.cells.toList:=λT=>by grind[Co,Reads.map_s]
  unfold Oper.wp;rw[u,Oper.upon_value,y];cases k:c.G.contains d with
  | true=>
    rw[k]at h;refine⟨_,_,we M w.heap.size,h w.heap.size (e.sto.fresh (Fai _)),⟨β,?_⟩,Kw _ _ _⟩;exact(e.newObj _ (.cells (Co i)) (Sd w t M j (f _))).put g (VRel.s _)
  | false=>
    rw[k]at h;exact⟨_,_,we M w.heap.size,h,⟨_,e.newBx g t (f _)⟩,Kw _ _ _⟩
theorem yux{o:Oper}{t:TypeId}{x:Operand}(v:o.op=.box t x)(C:qf P c.I)
    (h:optK o.dst λd=>bif Nat.blt d c.n then(match A.ev x with
      | .av x=>optK (cellsOf x) λl=>
        bif c.G.contains d then∀b,Fresh st b->K (A.put d (.av (.s (.pointer (Δ ⟨b,0,Θ⟩))))) (st.sO b (.cells l))
        else K (A.newBx d l) st
      |_=>False)else False):AOp P c.N o K A st:=by
  obtain⟨d,B,h⟩:=zv h;obtain⟨g,h⟩:=Bu h;split at h
  . rename_i y k
    obtain⟨l,z,h⟩:=zv h;rintro i M a w ⟨β,e⟩;have p:=qt e.env k;obtain⟨f,_⟩:=po p z;have u:(execOp a.eval o).run P w=.ok (.value (.pointer (Δ ⟨w.heap.size,0,Θ⟩))) (w.alloc (.cells (a.eval x).cells t)):=by simp[execOp,v,Instr.box,newVar,newRow]
    unfold Oper.wp;rw[u,Oper.upon_value,B];cases j:c.G.contains d with
    | true=>
      rw[j]at h;refine⟨_,_,we M w.heap.size,h w.heap.size (e.sto.fresh (Fai _)),⟨β,?_⟩,Kw _ _ _⟩;exact(e.newObj _ (.cells l) (Sd w t M i f)).put g (VRel.s _)
    | false=>
      rw[j]at h;exact⟨_,_,we M w.heap.size,h,⟨_,e.newBx g t f⟩,Kw _ _ _⟩
  grind
def yus{o:Oper}{t:TypeId}{p x:Operand}(ho:o.op=.store t p x)(hd:o.dst=Θ)(hI:qf P c.I)
    (h:optK (c.I t) λi=>match A.ev x with
      |.av x=>Dz i A st (A.ev p) x K
      |_=>False):AOp P c.N o K A st:=by
  obtain⟨i,hi,h⟩:=zv h;split at h
  . rename_i y hy
    obtain⟨g,E,h⟩:=zv h;cases C:(Nat.beq (Γ g) i.size&&g.all AV.one)with
    |false=>grind
    |true=>
    rw[C]at h;simp only[Fay]at C;have H:Γ g=i.size:=(Ae _ _).1 C.1;rintro ε M a w ⟨β,d⟩;have G:=qt d.env hy;obtain⟨f,W⟩:=po G E;have hone':∀v∈(a.eval x).cells.toList,xq v=true:=by
      intro v G;obtain⟨j,hj⟩:=Fa6.1 G;have z:j<Γ g:=by rw[f.1];grind
      exact Wo (f.2 j _ v (Fac z) hj) (Fcm.1 C.2 _ (Faa z))
    have hvs:(a.eval x).cells.size=i.size:=by rw[<-H,f.1];simp
    unfold Oper.wp;split at h
    . rename_i k off L
      obtain⟨l,X,h⟩:=zv h;cases B:Nat.ble (off+Γ g) (Γ l) with
      |false=>grind
      |true=>
      rw[B]at h;simp only[cond_true,Hr]at h;have Q:off+Γ g<=Γ l:=Fbp B;have hp':a.eval p=.pointer (Δ ⟨β k,off,Θ⟩):=by have:=d.ev p;rw[L]at this;exact this
      obtain⟨⟨V,e,U,T,S,h3,h4⟩,R⟩:=d.bx k l X;obtain⟨D,hr,n⟩:=Kb (P:=P) w (β k) off (a.eval x).cells.toList 0 w V e U T (.inl S) δ hone';have hrun:(execOp a.eval o).run P w=.ok .skip D:=ψ2;rw[hrun,Oper.upon_skip,hd];exact⟨_,_,M,h,⟨β,d.setBx X f n⟩,n.chg R⟩
    . rename_i b off L
      obtain⟨ob,u,h⟩:=zv h;cases ob with
      |map es bs clock=>grind
      |iter m since seen last=>grind
      |ghost o gh=>grind
      |cells l=>
      obtain⟨Q,h⟩:=h;rw[Hr]at h;have hp':a.eval p=.pointer (Δ ⟨b,off,Θ⟩):=VRel.eq_s (qt d.env L);obtain⟨⟨V,e,U,T,S,h3,h4⟩,R⟩:=d.sto.obj b _ u;obtain⟨D,hr,n⟩:=Kb (P:=P) w b off (a.eval x).cells.toList 0 w V e U T (.inl S) δ hone';have hrun:(execOp a.eval o).run P w=.ok .skip D:=ψ2;rw[hrun,Oper.upon_skip,hd];exact⟨_,_,M,h,⟨β,d.sO u f n⟩,n.chg R⟩
    grind
  grind
end
section
variable {P:Program} {c:Cfg} {K:Fr->Store->Prop} {A:Fr} {st:Store}
def VRel.clos_inv{w:World}{T:BB}{f:FuncId}{a:List AV}{v:Value}(h:VRel w T (.clos f a) v):∃c,v=.func (.func f) #[] c/\Reads w T a c.toList:=by
  cases h with
  |clos _ _ c e h=>exact⟨c,rfl,Z,λi x y b d=>h i x y b δ⟩
def inM(M:BB)(A:Fr)(β:Nat->Nat):Nat->Nat->Prop:=λb o=>M b o/\∀k,A.bx k≠Θ->β k≠b
def Wm(a M:BB)(A:Fr)(β:Nat->Nat):Nat->Nat->Prop:=λb o=>a b o\/(M b o/\∃k,A.bx k≠Θ/\β k=b)
def Kn{a M:BB}{β:Nat->Nat}:∀b o,(inM M A β b o\/Wm a M A β b o)->(M b o\/a b o):=by
  rintro b o (h|h|h)
  . exact .inl h.1
  . grind
  grind
def SimB.inner{n:SN}{g M:BB}{β:Nat->Nat}{a:Act}{w:World}(d:SimB n g β A st M a w):StoreOK st (Wm g M A β) (inM M A β) w:=
  { obj:=λb x i=>⟨(d.sto.obj b x i).1.mono Kn,λo=>⟨(d.sto.obj b x i).2 o,λk f=>d.sep k b f (.inl δ)⟩⟩
    tok:=λb j i=>by obtain⟨c,e,D,C,B,z,y⟩:=d.sto.tok b j i;exact⟨c,e,D,C,B,z,λo t=>⟨y o t,λk f=>d.sep k b f (.inr δ)⟩⟩
    mlt:=λb o l=>d.sto.mlt b o l.1
    olt:=λb o l=>by
      rcases l with h|h
      . exact d.sto.olt b o h
      . exact d.sto.mlt b o h.1
    dis:=λb o v p=>by
      rcases v with h|⟨h,k,f,u⟩
      . exact d.sto.dis b o h p.1
      . exact p.2 k f u}
def SimB.post{n:SN}{t M:BB}{β:Nat->Nat}{a:Act}{w:World}(f:SimB n t β A st M a w){R:Ja}:
    ∀v G,xg st R (Wm t M A β) (inM M A β) w v G->∃r p M',R r p/\VRel G (λb o=>M' b o\/t b o) r v/\SimB n t β A p M' a G/\Chg M w M' G:=by
  rintro v G ⟨r,p,E,V,T,g,d⟩
  let M':Nat->Nat->Prop:=λb o=>E b o\/(M b o/\∃k,A.bx k≠Θ/\β k=b)
  have z:∀b o,(M' b o\/t b o)->(E b o\/Wm t M A β b o):=by
    rintro b o ((h|h)|h)
    . grind
    . exact .inr (.inr h)
    . exact .inr (.inl h)
  have hblk:∀k,A.bx k≠Θ->G.heap[β k]?=w.heap[β k]?:=λk B=>by
    cases u:A.bx k with
    |none=>grind
    |some l=>exact d.blk _ (f.bx k l u).1.lt λo j=>j.2 k B rfl
  have Q:∀k b o,A.bx k≠Θ->E b o->β k≠b:=λk b o B j U=>by
    subst U;cases u:A.bx k with
    |none=>grind
    |some l=>exact(d.sub _ o j (f.bx k l u).1.lt).2 k B rfl
  refine⟨r,p,M',V,T.mono z,?_,?_⟩
  . exact
      { tsz:=f.tsz
        dfr:=f.dfr.step λD _ u I=>⟨d.blk D u λo j=>(I o).1 j.1,λo j=>by
          rcases j with j|j
          . exact(I o).1 (d.sub D o j u).1
          grind⟩
        tm:=λi=>((LRel.mono Kn (f.tm i)).keep d.keeps).mono z
        bx:=λk l u=>by have B:A.bx k≠Θ:=δ;exact⟨(((f.bx k l u).1.mono Kn).same d.keeps (hblk k B)).mono z,λo=>.inr ⟨(f.bx k l u).2 o,k,B,rfl⟩⟩
        inj:=f.inj
        sep:=λk b B y=>by
          rcases y with y|y
          . cases L:p.obj b with
            |none=>grind
            |some x=>exact Q k b 0 B ((g.obj b x L).2 0)
          . cases L:p.tok b with
            |none=>grind
            | some C=>
              obtain⟨c,e,fr,h1,I,h3,X⟩:=g.tok b C L;grind
        sto:=
          { obj:=λb x H=>⟨(g.obj b x H).1.mono z,λo=>.inl ((g.obj b x H).2 o)⟩
            tok:=λb C H=>by obtain⟨c,e,fr,h1,I,h3,X⟩:=g.tok b C H;grind
            mlt:=λb o j=>by
              rcases j with h|h
              . exact g.mlt b o h
              . exact Nat.lt_of_lt_of_le (f.sto.mlt b o h.1) d.size
            olt:=λb o j=>Nat.lt_of_lt_of_le (f.sto.olt b o j) d.size
            dis:=λb o S W=>by
              rcases W with h|h
              . exact g.dis b o (.inl S) h
              . exact f.sto.dis b o S h.1}}
  . exact
      { size:=d.size
        keep:=λb o y j=>d.keep b o y λh=>j h.1
        blk:=λb y j=>d.blk b y λo h=>j o h.1
        shp:=d.shp
        sub:=λb o j y=>by
          rcases j with h|h
          . exact(d.sub b o h y).1
          grind
        tape:=d.tape
        os:=d.os
        output:=d.output}
def SimB.call{n:SN}{d M:BB}{β:Nat->Nat}{a:Act}{w:World}(p:SimB n d β A st M a w){g:FuncId}{j:List AV}{t:Array Value}{R:Ja}
    (G:ACalls P g j st R) (z:Reads w (λb o=>M b o\/d b o) j t.toList):
    zil P (λv k=>∃r l M',R r l/\VRel k (λb o=>M' b o\/d b o) r v/\SimB n d β A l M' a k/\Chg M w M' k) ((callFunc g t).run P w):=by
  have key:=p.post (R:=R);have hout:=G.out _ _ w t p.inner ⟨z.1,λi x y C B=>(z.2 i x y C B).mono Kn⟩;generalize(callFunc g t).run P w=res at*;cases res with
  |halt h k=>trivial
  | ok nx k=>
    cases nx with
    |enter f as=>exact Calls.mono hout λe u ⟨v,E,D⟩=>⟨v,E,key v u D⟩
    |value v=>exact key v k hout
    |_=>trivial
def d9{o:Oper}(H:qf P c.I)(h:vcX P c o K A st):AOp P c.N o K A st:=by
  obtain⟨E,u,h⟩:=zv h;rintro j M a w ⟨β,sim⟩;obtain⟨hm1,hm2⟩:=Nz u;have D:Reads w (λb o=>M b o\/j b o) E (o.op.operands.map a.eval).toList:=ψs;have f:=h.out _ _ w a.eval H sim.inner ⟨D.1,λi x y hx hy=>(D.2 i x y hx hy).mono Kn⟩;have key:=sim.post (R:=λr e=>xz A c.n o.dst (.av r) λt=>K t e)
  have fin:∀v g,(∃r e k,(xz A c.n o.dst (.av r) λt=>K t e)/\VRel g (λb o=>k b o\/j b o) r v/\SimB c.N j β A e k a g/\Chg M w k g)->
      ∃t e k,K t e/\Sim c.N j t e k (a.put o.dst v) g/\Chg M w k g:=by
    rintro v g ⟨r,e,k,p,G,C,l⟩;cases B:o.dst with
    |none=>rw[B]at p;exact⟨A,e,k,p,⟨β,C⟩,l⟩
    | some d=>
      rw[B]at p;obtain⟨z,p⟩:=Bu p;exact⟨_,e,k,p,⟨β,C.put z G⟩,l⟩
  unfold Oper.wp;generalize(execOp a.eval o).run P w=res at*;cases res with
  |halt h g=>grind
  | ok nx g=>
    cases nx with
    |value v=>exact fin v g (key v g f)
    | skip=>
      obtain⟨B,f⟩:=f;have:=fin _ g (key _ g f);trivial
    |_=>grind
def zbw(w:World)(T:BB)(l:List Value):Reads w T (l.map AV.s) l:=⟨φ,λi x y a b=>by rw[Fau,b]at a;cases a;exact .s _⟩
def yp9{w:World}{T:BB}{x:LV}{g:FuncId}{d a:List AV}{v:Value}(h:bt x=Δ (g,d,a))(b:∀y,x=.av y->VRel w T y v):∃f c,v=.func (.func g) f c/\Reads w T d f.toList/\Reads w T a c.toList:=by
  unfold bt at h;split at h
  . cases h
    obtain⟨c,i,e⟩:=VRel.clos_inv (b _ rfl);exact⟨#[],c,i,Reads.nil,e⟩
  . cases h
    exact⟨_,_,VRel.eq_s (b _ rfl),zbw _ _ _,zbw _ _ _⟩
  . cases h
theorem yuw{o:Oper}{y:Call}{f:Operand}(ho:o.op=.call y)(η:y.callee=.value f)
    (h:match bt (A.ev f)with
      | some (g,fv,z)=>optK (y.args.toList.mapM λx=>(A.ev x).toAV) λD=>
        ACalls P g (fv++(D++z)) st λr i=>xz A c.n o.dst (.av r) λC=>K C i
      |_=>False):AOp P c.N o K A st:=by
  split at h
  . rename_i g fv z hf
    obtain⟨D,G,h⟩:=zv h;rintro k M a w ⟨β,sim⟩;obtain⟨u,j,ε,L,Q⟩:=yp9 hf λx hx=>qt sim.env hx;obtain⟨hm1,hm2⟩:=Nz G;have H:Reads w (λb o=>M b o\/k b o) D (y.args.map a.eval).toList:=ψs;have V:Reads w (λb o=>M b o\/k b o) (fv++(D++z)) (u++(y.args.map a.eval)++j).toList:=by rw[Fbc,Fbc,Faq];exact L.append (H.append Q)
    have hrun:(execOp a.eval o).run P w=(callFunc g (u++(y.args.map a.eval)++j)).run P w:=by grind[execOp,resolve,Deferred.ofValue,invoke]
    have T:=sim.call h V;unfold Oper.wp;rw[hrun]
    have fin:∀v l,(∃r i p,(xz A c.n o.dst (.av r) λC=>K C i)/\VRel l (λb o=>p b o\/k b o) r v/\SimB c.N k β A i p a l/\Chg M w p l)->
        ∃C i p,K C i/\Sim c.N k C i p (a.put o.dst v) l/\Chg M w p l:=by
      rintro v l ⟨r,i,p,B,U,R,t⟩;cases S:o.dst with
      |none=>rw[S]at B;exact⟨A,i,p,B,⟨β,R⟩,t⟩
      | some d=>
        rw[S]at B;obtain⟨I,B⟩:=Bu B;exact⟨_,i,p,B,⟨β,R.put I U⟩,t⟩
    generalize(callFunc g (u++(y.args.map a.eval)++j)).run P w=res at*;cases res with
    |halt h l=>trivial
    | ok nx l=>
      cases nx with
      | enter f as=>
        exact Calls.mono T λe E ⟨v,X,W⟩=>by subst X;exact fin v E W
      |value v=>exact fin v l T
      |_=>trivial
  grind
theorem yuu{o:Oper}{j:Call}{y:Operand}{m:String}(ho:o.op=.call j)(ε:j.callee=.invoke y m)(h:W5 P c o j m (A.ev y) K A st):AOp P c.N o K A st:=by
  unfold W5 at h;split at h
  . rename_i t v hf
    obtain⟨H,E,g,x,⟨u,V,hu⟩,h⟩:=zv h;rintro k M a w ⟨β,sim⟩;have X:a.eval y=.iface t v:=VRel.eq_s (qt sim.env hf);obtain⟨hm1,hm2⟩:=Nz E;have S:Reads w (λb o=>M b o\/k b o) H (j.args.map a.eval).toList:=ψs;have T:Reads w (λb o=>M b o\/k b o) (x::H) (#[u]++(j.args.map a.eval)).toList:=by grind[Reads.cons]
    have hrun:(execOp a.eval o).run P w=(callFunc g (#[u]++(j.args.map a.eval))).run P w:=by
      have e1:(#[Value.iface t v]++Array.map a.eval j.args).extract 1 (#[Value.iface t v]++Array.map a.eval j.args).size=Array.map a.eval j.args:=φ;have e2:execOp a.eval o=callMethod (.iface t v) m ((#[Value.iface t v]++Array.map a.eval j.args).extract 1 (#[Value.iface t v]++Array.map a.eval j.args).size):=by
        have e3:(#[Value.iface t v]++Array.map a.eval j.args)[0]?=Δ (Value.iface t v):=by simp_all[Fdk]
        simp_all[execOp,resolve,invoke]
      rw[e2,e1];simp[callMethod,V]
    have Q:=sim.call h T;unfold Oper.wp;rw[hrun]
    have fin:∀v l,(∃r i p,(xz A c.n o.dst (.av r) λC=>K C i)/\VRel l (λb o=>p b o\/k b o) r v/\SimB c.N k β A i p a l/\Chg M w p l)->
        ∃C i p,K C i/\Sim c.N k C i p (a.put o.dst v) l/\Chg M w p l:=by
      rintro v l ⟨r,i,p,B,R,I,z⟩;cases L:o.dst with
      |none=>rw[L]at B;exact⟨A,i,p,B,⟨β,I⟩,z⟩
      | some d=>
        rw[L]at B;obtain⟨G,B⟩:=Bu B;exact⟨_,i,p,B,⟨β,I.put G R⟩,z⟩
    generalize(callFunc g (#[u]++(j.args.map a.eval))).run P w=res at*;cases res with
    |halt h l=>trivial
    | ok nx l=>
      cases nx with
      | enter f as=>
        exact Calls.mono Q λe D ⟨v,W,U⟩=>by subst W;exact fin v D U
      |value v=>exact fin v l Q
      |_=>trivial
  grind
end
section
variable {P:Program} {c:Cfg} {K:Fr->Store->Prop} {A:Fr} {st:Store}
def Kt{α:Type}{k:Nat}:∀{rows:List (List α)} (_:∀row∈rows,Γ row=k) {i j:Nat} {row:List α} {x:α},rows[i]?=Δ row->row[j]?=Δ x->rows.flatten[i*k+j]?=Δ x:=by
  intro rows;induction rows with
  |nil=>simp
  | cons r rows ih=>
    intro hk i j row x h1 h2;cases i with
    | zero=>
      grind
    | succ i=>
      grind
theorem Fx{α:Type}{k:Nat}:∀{rows:List (List α)} (_:∀row∈rows,Γ row=k),Γ rows.flatten=Γ rows*k:=by
  intro rows;induction rows with
  |nil=>simp
  | cons r rows ih=>
    grind
theorem uq(r l xs:List AV)(o:Nat):zu (r++l) (Γ r+o) xs=r++zu l o xs:=by unfold zu;rw[List.take_append,List.drop_append];have a:List.take (Γ r+o) r=r:=Fbz Z;have b:List.drop (Γ r+o+Γ xs) r=[]:=Fcy Z;rw[a];have e:Γ r+o-Γ r=o:=Z;have d:Γ r+o+Γ xs-Γ r=o+Γ xs:=Z;grind
theorem yqg{k:Nat}{xs:List AV}(e:Γ xs=k):∀{rows:List (List AV)} (_:∀a∈rows,Γ a=k) {i:Nat},i<Γ rows->(rows.set i xs).flatten=zu rows.flatten (i*k) xs:=by
  intro rows;induction rows with
  |nil=>simp
  | cons r rows b=>
    intro d i f;cases i with
    | zero=>
      simp_all[zu]
    | succ i=>
      simp only[List.set_cons_succ,Fej];rw[b (λa h=>d a (by simp[h])) δ];rw[<-uq];grind
def ymy{k n:Nat}:∀(parts:List (Nat×LV)) (acc rows:List (List AV)),(∀row∈acc,Γ row=k)->Γ acc=n->Kj k n acc parts=Δ rows->
    Ku (λi=>Δ (i*k,k)) acc.flatten parts=Δ rows.flatten/\(∀row∈rows,Γ row=k)/\Γ rows=n:=by
  intro parts;induction parts with
  |nil=>intro acc rows h1 h2 h;simp[Kj]at h;subst h;trivial
  | cons p parts ih=>
    intro acc rows h1 h2 h;obtain⟨i,x⟩:=p;simp only[Kj]at h;cases x with
    | av x=>
      simp only at h;cases hc:cellsOf x with
      |none=>grind
      | some xs=>
        rw[hc]at h;simp only at h;cases hb:(Nat.beq (Γ xs) k&&Nat.blt i n)with
        |false=>grind
        | true=>
          rw[hb]at h;simp only[Fay]at hb;have hx:Γ xs=k:=(Ae _ _).1 hb.1;have hi:i<n:=Fbp hb.2;obtain⟨h3,h4,h5⟩:=ih (acc.set i xs) rows (λrow hr=>δ) δ h;have hfl:=Fx h1;have hle:(i+1)*k<=n*k:=Fa3 k hi;have hb2:(Nat.beq (Γ xs) k&&Nat.ble (i*k+k) (Γ acc.flatten))=true:=by simp_all[Fch]
          simp only[Ku,hc,hb2,cond_true];grind[yqg]
    |_=>simp at h
def ep{w:World}{M n z:BB}{rows:List (List AV)}{k:Nat}(hk:∀row∈rows,Γ row=k){f:Array Value}{e:TypeId}{a:Nat}
    (y:∀(i:Nat) (x:AV),rows.flatten[i]?=Δ x->∃v,f[i]?=Δ v/\VRel w (λb o=>M b o\/n b o) x v/\xq v=true) (l:Γ rows<=a) (d:Option Nat)
    (G:Keeps w (λb o=>M b o\/n b o) (w.alloc (.cells f e)) z) (D:∀o,o<Γ rows*k->¬z w.heap.size o)
    (g:∀t,d=Δ t->t=w.heap.size/\rows≠[]/\a*k<=f.size):
    VRel (w.alloc (.cells f e)) z (.lst k rows d) (.slice (Δ ⟨w.heap.size,0,Θ⟩) (Γ rows) a):=by
  have hlen:=Fx hk;have E:∀(i:Nat) (row:List AV) (j:Nat) (x:AV),rows[i]?=Δ row->row[j]?=Δ x->i*k+j<Γ rows*k:=by intro i row j x h1 h2;have:=(Fa1.1 (Kt hk h1 h2)).1;omega
  refine VRel.lst rows d w.heap.size 0 a k (λj=>f.getD j undef) l (λi row h=>hk row (Fa4 h)) (λt C=>?_) (λi row j x h1 h2=>?_) (λi row j x h1 h2=>?_) (λi row j x h1 h2=>?_)
  . obtain⟨h1,h2,H⟩:=g t C
    exact⟨h1,rfl,h2,f,e,(0,0),Ko w _,H⟩
  . obtain⟨v,u,_⟩:=y _ x (Kt hk h1 h2)
    simp_all
  . obtain⟨v,u,_,B⟩:=y _ x (Kt hk h1 h2)
    simp_all
  . obtain⟨v,u,p,_⟩:=y _ x (Kt hk h1 h2)
    have:f.getD (i*k+j) undef=v:=by simp[u]
    simp only[this];exact p.keep G
def zec(w:World)(o:Obj)(M a:BB)(d:Nat):Keeps w (λb o=>M b o\/a b o) (w.alloc o) (λb o=>ee M w.heap.size d b o\/a b o) where
  cell:=(Ig w o M a).cell
  out b g c f i e:=by
    rcases e with(h|h)|h
    . grind
    . have:=Oy f;omega
    grind
  shp:=(Ig w o M a).shp
theorem yif(z:Array Value)(n:Nat)(d:0<z.size):((Array.range (n*z.size)).map (λi=>z[i%z.size]!)).toList=(List.replicate n z.toList).flatten:=by
  induction n with
  |zero=>simp
  | succ n b=>
    rw[List.replicate_succ',Fd9,<-b];simp only[Fcx,Array.toList_range,Fch,Nat.one_mul,List.range_add,Fa8,List.map_map,Fej,List.flatten_nil,Fbq]
    congr 1
    apply Fcd;intro i;by_cases a:i<z.size
    . simp[a,Nat.mod_eq_of_lt a]
    grind
def zic{o:Oper}{t:TypeId}{n:Nat}{parts:Array (Nat×Operand)}(S:o.op=.buildSlice t n parts)(H:qf P c.I)
    (h:optK (c.I t) λi=>optK o.dst λd=>bif Nat.blt d c.n then(match i.ty with
      | .slice e=>optK (c.I e) λie=>optK (Kj ie.size n (List.replicate n (Co ie)) (parts.toList.map λp=>(p.1,A.ev p.2))) λrows=>
        bif rows.flatten.all AV.one then n*ie.size<=16777216/\(match rows with
          |[]=>K (A.put d (.av .emp)) st
          | _ ::_=>bif c.G.contains d then(bif c.G.contains (d+1000000)then∀b,Fresh st b->K (A.put d (.av (.s (.slice (Δ ⟨b,0,Θ⟩) (Γ rows) (Γ rows))))) (st.sO b (.cells rows.flatten))
              else∀b,Fresh st b->K (A.put d (.av (.lst ie.size rows (Δ b)))) (st.sT b (Δ (Γ rows*ie.size))))
            else K (A.put d (.av (.lst ie.size rows Θ))) st)else False
      |_=>False)else False):AOp P c.N o K A st:=by
  obtain⟨i,hi,h⟩:=zv h;obtain⟨d,hd,h⟩:=zv h;obtain⟨k,h⟩:=Bu h;split at h
  . rename_i e L
    obtain⟨ie,u,h⟩:=zv h;replace h:=zv h;obtain⟨rows,l,h⟩:=h;cases hone:rows.flatten.all AV.one with
    |false=>grind
    |true=>
    rw[hone]at h;simp only[cond_true]at h;obtain⟨R,B⟩:=h;rintro j M a w ⟨β,f⟩;obtain⟨z,ι,C⟩:=Nj (H _ _ u) w;have η:z.cells.size=ie.size:=by rw[<-(H _ _ u).zsz,<-C];simp
    obtain⟨X,y,W⟩:=ymy _ _ rows (λrow hr=>by grind[Co]) φ l
    let base:Array Value:=(Array.range (n*ie.size)).map (λi=>(if n*ie.size=0 then #[]else z.cells)[i%(if n*ie.size=0 then #[]else z.cells).size]!)
    have hbase:Reads w (λb o=>M b o\/j b o) (List.replicate n (Co ie)).flatten base.toList:=by
      by_cases hn:n=0
      . subst hn
        grind[Reads.nil]
      . by_cases Q:ie.size=0
        . have e1:base.toList=[]:=by simp[base,Q]
          simp_all[Co,Reads.nil]
        have T:¬n*ie.size=0:=by grind[Nat.mul_eq_zero]
        have:base.toList=(List.replicate n z.cells.toList).flatten:=by simp only[base,T,if_false];grind[yif]
        rw[this,C];have e:(List.replicate n (Co ie)).flatten=(List.replicate n ie.zero).flatten.map AV.s:=by simp_all[Co]
        rw[e];exact Reads.map_s _
    have hparts:((parts.toList.map λp=>(p.1,A.ev p.2))).length=(parts.map λ(p:Nat×Operand)=>(p.1,a.eval p.2)).toList.length∧
        ∀(i:Nat) (p:Nat×LV) (v:Nat×Value),(parts.toList.map λp=>(p.1,A.ev p.2))[i]?=Δ p->(parts.map λ(p:Nat×Operand)=>(p.1,a.eval p.2)).toList[i]?=Δ v->p.1=v.1/\LRel w (λb o=>M b o\/j b o) β p.2 v.2:=by
      refine⟨φ,λi p v hp D=>?_⟩;rw[Fcx,Fau]at D;rw[Fau]at hp;cases hq:parts.toList[i]? with
      |none=>grind
      | some q=>
        rw[hq]at hp D;simp at hp D;subst hp D;exact⟨rfl,f.ev _⟩
    obtain⟨ds,ε,g⟩:=ol (β:=β) (place:=λi=>Δ (i*ie.size,ie.size)) _ _ _ base rows.flatten hparts.1 hparts.2 hbase X;have hrun:(execOp a.eval o).run P w=.ok (.value (.slice (Δ ⟨w.heap.size,0,Θ⟩) n n)) (w.alloc (.cells ds e)):=by
      have h1:¬n*ie.size>2^24:=Z;simp only[execOp,S,Instr.buildSlice,Sem.run_bind,yy (jz (H _ _ hi) L),Result.andThen_ok,vx (H _ _ u),h1,if_false];by_cases τ:n*ie.size=0
      . have h2:Instr.fill (λi=>Δ (i*ie.size,ie.size)) (Array.map (λx=>(#[]:Array Value)[x%(#[]:Array Value).size]!) (Array.range (n*ie.size))) (Array.map (λ(x:Nat×Operand)=>(x.1,a.eval x.2)) parts).toList=Δ ds:=by grind
        simp_all[newRow]
      . have h2:Instr.fill (λi=>Δ (i*ie.size,ie.size)) (Array.map (λx=>z.cells[x%z.cells.size]!) (Array.range (n*ie.size))) (Array.map (λ(x:Nat×Operand)=>(x.1,a.eval x.2)) parts).toList=Δ ds:=by grind
        simp_all[newRow]
    unfold Oper.wp;rw[hrun,Oper.upon_value,hd];have hlen:=Fx y;have hdsz:ds.size=n*ie.size:=by have:=g.1;grind
    have hread:∀(i:Nat) (x:AV),rows.flatten[i]?=Δ x->∃v,ds[i]?=Δ v/\VRel w (λb o=>M b o\/j b o) x v/\xq v=true:=λi x hx=>by obtain⟨v,D,ν⟩:=g.getElem? hx;grind[Wo]
    have hnoT:∀o,¬(M w.heap.size o\/j w.heap.size o):=λo h=>by
      rcases h with h|h
      . have:=f.sto.mlt _ _ h;omega
      . have:=f.sto.olt _ _ h;omega
    subst W;cases rows with
    |nil=>exact⟨_,_,M,B,⟨β,(f.grow (Grow.alloc w _)).put k (x:=.av .emp) (VRel.emp _ (λx h=>δ))⟩,(Grow.alloc w _).chg M⟩
    | cons r rs=>
      cases V:c.G.contains d with
      | true=>
        cases E:c.G.contains (d+1000000)with
        | true=>
          simp only[V,E,cond_true]at B;refine⟨_,_,_,B w.heap.size (f.sto.fresh (Fai _)),⟨β,(f.newObj (.cells ds e) (.cells (r::rs).flatten) (Sd w e M j g)).put k (VRel.s _)⟩,Kw _ _ _⟩
        |false=>
        simp only[V,E,cond_true,cond_false]at B;refine⟨_,_,_,B w.heap.size (f.sto.fresh (Fai _)),⟨β,(f.newTok ds e ((r::rs).length*ie.size) Z).put k ?_⟩,zg6 _ _ _ _⟩;refine ep y hread (Fai _) _ (zec _ _ _ _ _) (λo S U=>?_) (λt ht=>?_)
        . rcases U with(h|h)|h
          . grind
          . omega
          grind
        grind
      | false=>
        simp only[V,cond_false]at B;refine⟨_,_,M,B,⟨β,(f.grow (Grow.alloc w _)).put k ?_⟩,(Grow.alloc w _).chg M⟩;exact ep y hread (Fai _) _ ((Grow.alloc w _).keeps _) (λo S U=>hnoT o U) (λt ht=>by cases ht)
  grind
end
section
variable {P:Program} {c:Cfg} {K:Fr->Store->Prop} {A:Fr} {st:Store}
theorem ygo(n:Nat)(w:World):(askRoom n).run P w=.ok () w:=φ
def ygn(a b e:Nat)(w:World):∃n,a<=n/\(a<=140737488355328->n<=9223372036854775807)/\(choose (.appendCap a b e)).run P w=.ok n w.drew:=by refine⟨a+w.tape w.drawn (.appendCap a b e)%(2^63-a),Nat.le_add_right _ _,λh=>?_,rfl⟩;have:=Nat.mod_lt (w.tape w.drawn (.appendCap a b e)) (show 0<2^63-a by omega);omega
structure AppArgs(P:Program)(c:Cfg)(argTypes:Array TypeId)(args:Array Value)(t e:TypeId)(ie:TI)(base:Option Addr)(sLen sCap:Nat)(xv:Value):Prop where
  ht:argTypes[0]?=Δ t
  ht1:∃t1 e1,argTypes[1]?=Δ t1/\P.underlying t1=Δ (.slice e1)
  hty:P.underlying t=Δ (.slice e)
  hie:TIok P e ie
  h0:args[0]?=Δ (.slice base sLen sCap)
  h1:args[1]?=Δ xv
def K5{f:Array TypeId}{j:Array Value}{t e:TypeId}{ie:TI}{i:Option Addr}{a d n:Nat}{D:Value}(ty:TypeId)(h:AppArgs P c f j t e ie i a d D){w:World}{old o:Array Value}
    (y:(Builtin.lenOf D).run P w=.ok n w) (v:(Builtin.firstCells ie.size n D).run P w.drew=.ok o w.drew) (u:(Builtin.firstCells ie.size a (.slice i a d)).run P w.drew=.ok old w.drew)
    (k:d<a+n) (g:room (a+n) ie.bytes):
    ∃ b rest,a+n<=b/\b<=9223372036854775807/\rest.size=(b-(a+n))*ie.size∧
      (Builtin.append_ f ty j).run P w=.ok (.slice (Δ ⟨w.heap.size,0,Θ⟩) (a+n) b) (w.drew.alloc (.cells (old++o++rest) e)):=by
  obtain⟨b,C,l,Q⟩:=ygn (P:=P) (a+n) d e w;obtain⟨z,I,H⟩:=Nj h.hie w.drew;obtain⟨t1,e1,p,L⟩:=h.ht1;obtain⟨E,B,W,U,_⟩:=h.hie.info;have G:z.cells.size=ie.size:=by rw[<-h.hie.zsz,<-H];simp
  refine⟨b,Builtin.zeroCells z.cells (b-(a+n)),C,l g.2,by simp[Builtin.zeroCells,G],?_⟩;obtain⟨ε,X⟩:=g;have T:¬(a+n<=d):=Z;have S:¬(((a+n:Nat):Int)>IntKind.i64.max):=by grind[IntKind.max,IntKind.bits]
  have R:¬(Builtin.nextslicecap (a+n) d*ie.bytes>2^48):=by have V:=nextslicecap_le k;have h2:Builtin.nextslicecap (a+n) d*ie.bytes<=2*(a+n)*ie.bytes:=Fa3 _ V;grind
  have M:∀w:World,(typeInfo e).run P w=.ok E w:=λw=>by simp[typeInfo,B]
  simp only[Builtin.append_,h.ht,h.h0,h.h1,Sem.run_bind,yy h.hty,Result.andThen_ok,vx h.hie,p,yy L,Sem.run_pure];simp only[Fan,if_false,y,Result.andThen_ok,T,S,false_and,Sem.run_bind,M,U,R,Q,ygo,u,v,Bool.not_false,if_true,I];rfl
def K4{b:Array TypeId}{i:Array Value}{t e:TypeId}{ie:TI}{d:Option Addr}{f g n:Nat}{l:Value}(ty:TypeId)(h:AppArgs P c b i t e ie d f g l){w w':World}{j:Array Value}
    (v:(Builtin.lenOf l).run P w=.ok n w) (u:(Builtin.firstCells ie.size n l).run P w=.ok j w)
    (p:f+n<=g) (y:∀a,d=Δ a->(storeCells (a.add (f*ie.size)) j.toList).run P w=.ok () w') (z:d=Θ->w'=w):
    (Builtin.append_ b ty i).run P w=.ok (.slice d (f+n) g) w':=by
  obtain⟨B,C,k,o⟩:=h.ht1;simp only[Builtin.append_,h.ht,h.h0,h.h1,Sem.run_bind,yy h.hty,Result.andThen_ok,vx h.hie,k,yy o,Sem.run_pure];cases d with
  |none=>simp_all
  |some a=>simp_all
def bv{α:Type}{k:Nat}:∀{rows:List (List α)} (_:∀row∈rows,Γ row=k) {p:Nat} {x:α},rows.flatten[p]?=Δ x->∃(i j:Nat) (row:List α),p=i*k+j/\rows[i]?=Δ row/\row[j]?=Δ x:=by
  intro rows;induction rows with
  |nil=>simp
  | cons r rows ih=>
    intro hk p x h;simp only[Fej]at h;by_cases hp:p<Γ r
    . rw[Far hp]at h
      exact⟨0,p,r,Z,rfl,h⟩
    . rw[Fa0 Z]at h
      obtain⟨i,j,row,h1,h2,h3⟩:=ih (λrow h=>hk row (by simp[h])) h;exact⟨i+1,j,row,δ,δ,h3⟩
theorem bg{w b:World}(h:b.heap=w.heap)(a:Addr):b.cell? a=w.cell? a:=by simp only[World.cell?,h]
def I8{w:World}{T:BB}{β:Nat->Nat}{k:Nat}{x:LV}{n:Value}{rows:List (List AV)}(t:LRel w T β x n)(h:vw k x=Δ rows):
    (Builtin.lenOf n).run P w=.ok (Γ rows) w/\(∀row∈rows,Γ row=k)∧
      ∃e:Array Value,Reads w T rows.flatten e.toList/\(∀v∈e.toList,xq v=true)/\e.size=Γ rows*k/\∀g,g.heap=w.heap->(Builtin.firstCells k (Γ rows) n).run P g=.ok e g:=by
  unfold vw at h;split at h
  . rename_i o rows' tok
    cases z:Nat.beq o k with
    |false=>grind
    | true=>
      rw[z]at h;simp only[cond_true,Fak]at h;subst h;obtain rfl:=(Ae _ _).1 z;rcases O6 t with⟨ad,u,hv,h2,_,rfl⟩|⟨b,off,u,hv,hcap,hk,f,E⟩
      . subst h2
        exact⟨ψe,φ,#[],Reads.nil,φ,φ,λg _=>by cases ad<;>simp[hv,Builtin.firstCells,loadCells,loadCellsFrom]⟩
      . have d:∀row∈rows',Γ row=o:=λrow D=>by grind[List.mem_iff_getElem?]
        refine⟨ψe,d,((List.range' 0 (Γ rows'*o)).map f).toArray,⟨?_,?_⟩,λv hv=>?_,φ,λg B=>?_⟩
        . rw[Fx d];simp
        . intro p x y hp C
          obtain⟨i,j,row,h1,h2,h3⟩:=bv d hp;grind
        . simp only[Fag]at hv
          obtain⟨p,hp,rfl⟩:=hv;have l:p<Γ rows'.flatten:=by rw[Fx d];grind
          obtain⟨i,j,row,h1,h2,h3⟩:=bv d (Fac l);grind
        . have:=Lo (P:=P) ⟨b,off,Θ⟩ g f (Γ rows'*o) 0 #[] (λp _ hp=>by
            rw[wu,bg B];have l:p<Γ rows'.flatten:=by rw[Fx d];omega
            obtain⟨i,j,row,h1,h2,h3⟩:=bv d (Fac l);grind)
          grind[Builtin.firstCells,loadCells]
  . simp at h
    subst h;have hv:n=.slice Θ 0 _:=VRel.eq_s t;exact⟨ψe,φ,#[],Reads.nil,φ,φ,λg _=>by simp[hv,Builtin.firstCells]⟩
  . simp at h
    subst h;have hv:∃a,n=.slice a 0 0:=by
      cases t with
      |emp a h=>simp
    obtain⟨a,hv⟩:=hv;refine⟨ψe,φ,#[],Reads.nil,φ,φ,λg _=>?_⟩;cases a with
    |none=>simp[hv,Builtin.firstCells]
    |some a=>simp[hv,Builtin.firstCells,loadCells,loadCellsFrom]
  . cases h
theorem Owned.nil(k:Nat)(st:Store):Owned k st .emp [] st:=.inl ⟨rfl,rfl,rfl⟩
def SimB.appendNew{n:SN}{f M:BB}{β:Nat->Nat}{a:Act}{w:World}(d:SimB n f β A st M a w){rows:List (List AV)}{k:Nat}(C:∀l∈rows,Γ l=k)(p:rows≠[])
    {cs:Array Value} {e:TypeId} {cap:Nat} (z:∀(i:Nat) (x:AV),rows.flatten[i]?=Δ x->∃v,cs[i]?=Δ v/\VRel w (λb o=>M b o\/f b o) x v/\xq v=true) (g:Γ rows<=cap) (y:cap*k<=cs.size):
    ∃ j M',Owned k st (.lst k rows (Δ w.heap.size)) rows j/\SimB n f β A j M' a (w.drew.alloc (.cells cs e))/\Chg M w M' (w.drew.alloc (.cells cs e))∧
      VRel (w.drew.alloc (.cells cs e)) (λb o=>M' b o\/f b o) (.lst k rows (Δ w.heap.size)) (.slice (Δ ⟨w.heap.size,0,Θ⟩) (Γ rows) cap):=by
  have B:Γ rows*k<=cap*k:=Fa3 k g;refine⟨_,_,.inr ⟨p,w.heap.size,d.sto.fresh (Fai _),rfl,rfl⟩,(d.grow (Grow.drew w)).newTok cs e (Γ rows*k) Z,((Grow.drew w).chg M).trans (zg6 w.drew _ M _),?_⟩;refine ep C (λi x u=>?_) g _ (zec w.drew _ _ _ _) (λo L D=>?_) (λt I=>?_)
  . obtain⟨v,H,G,E⟩:=z i x u
    exact⟨v,H,G.keep ((Grow.drew w).keeps _),E⟩
  . rcases D with(h|h)|h
    . have:=d.sto.mlt _ _ h;simp_all
    . omega
    . have:=d.sto.olt _ _ h;simp_all
  simp_all
def getElem?_append3{b d a:Array Value}{i:Nat}{v:Value}(h:(b.toList++d.toList)[i]?=Δ v):(b++d++a)[i]?=Δ v:=δ
def zjq{w:World}{T:BB}{k:Nat}{rows:List (List AV)}{b:Nat}{l:Option Addr}{g d:Nat}(h:VRel w T (.lst k rows (Δ b)) (.slice l g d)):
    l=Δ ⟨b,0,Θ⟩/\g=Γ rows/\Γ rows<=d/\rows≠[]/\(∀a∈rows,Γ a=k)/\(∃c e p,w.heap[b]?=Δ (.cells c e p)/\d*k<=c.size)/\∃f:Nat->Value,
      (∀(i:Nat) (a:List AV) (j:Nat) (x:AV),rows[i]?=Δ a->a[j]?=Δ x->w.cell? ⟨b,i*k+j,Θ⟩=Δ (f (i*k+j))/\¬T b (i*k+j)/\VRel w T x (f (i*k+j))/\xq (f (i*k+j))=true):=by
  cases h with
  | lst _ _ E off t _ f hcap y htok z D u=>
    obtain⟨rfl,rfl,o,n⟩:=htok b rfl;refine⟨rfl,rfl,hcap,o,λa v=>?_,n,f,λi a j x C B=>?_⟩
    . grind[List.mem_iff_getElem?]
    grind
def rd{n:SN}{u M:BB}{β:Nat->Nat}{a:Act}{w:World}(g:SimB n u β A st M a w){z:Array TypeId}{ο:Array Value}{t e:TypeId}{ie:TI}{X:Option Addr}{η B:Nat}{xv:Value}(ty:TypeId)
    (h:AppArgs P c z ο t e ie X η B xv) {x:LV} (hx:LRel w (λb o=>M b o\/u b o) β x xv) {d:List (List AV)} (hs:vw ie.size x=Δ d):
    ((η=0/\B=0/\∀x,X=Δ x->x.spot=Θ)->room (Γ d) ie.bytes->∃v C r G M',(Builtin.append_ z ty ο).run P w=.ok v C/\Owned ie.size st r d G/\SimB n u β A G M' a C/\Chg M w M' C/\VRel C (λb o=>M' b o\/u b o) r v)∧
    (∀rows b,0<ie.size->VRel w (λb o=>M b o\/u b o) (.lst ie.size rows (Δ b)) (.slice X η B)->st.tok b=Δ (Γ rows*ie.size)->room (rows++d).length ie.bytes->
      ∃v C r G M',(Builtin.append_ z ty ο).run P w=.ok v C/\Owned ie.size (st.sT b Θ) r (rows++d) G/\SimB n u β A G M' a C/\Chg M w M' C/\VRel C (λb o=>M' b o\/u b o) r v):=by
  obtain⟨U,hk',ε,υ,ν,hns,T⟩:=I8 (P:=P) hx hs;constructor
  . rintro⟨rfl,rfl,hspot⟩ L
    by_cases hn:d=[]
    . subst hn
      refine⟨_,w,.emp,st,M,K4 ty h (w':=w) U (T w rfl) φ (λa ha=>?_) (λ_=>rfl),Owned.nil _ _,g,Chg.refl M w,VRel.emp _ hspot⟩;simp_all[storeCells]
    . have hpos:0<Γ d:=List.length_pos_iff.2 hn
      obtain⟨E,ι,h1,_,h2,h3⟩:=K5 ty h (old:=#[]) U (T w.drew rfl) (by cases X<;>simp[Builtin.firstCells,loadCells,loadCellsFrom]) Z (by simpa using L);simp only[Fbd]at h1 h2 h3;obtain⟨G,M',ho,S,V,I⟩:=g.appendNew (cs:=#[]++ε++ι) (e:=e) (cap:=E) hk' hn (λi x hx=>by obtain⟨v,I,π⟩:=υ.getElem? hx;grind) h1 (by grind[Nat.sub_mul]);grind
  . intro rows b hpos hsv htb L
    obtain⟨rfl,rfl,hcap,hne,hk,⟨c0,e0,fr0,W,hcsz⟩,f,hf⟩:=zjq hsv;have hkk:∀row∈rows++d,Γ row=ie.size:=λrow hr=>δ;obtain⟨c1,e1,fr1,hb1,hunf,htop,τ⟩:=g.sto.tok b _ htb;rw[W]at hb1;cases hb1
    -- the first cell
    have hfirst:¬M b 0:=by
      cases rows with
      |nil=>grind
      | cons r rs=>
        have hr:Γ r=ie.size:=hk r φ;cases r with
        |nil=>grind
        | cons y ys=>
          have:=(hf 0 (y::ys) 0 y rfl rfl).2.1;grind
    have hold:∀p,p<Γ rows*ie.size->w.cell? ⟨b,p,Θ⟩=Δ (f p)/\¬(M b p\/u b p)/\xq (f p)=true/\∀x,rows.flatten[p]?=Δ x->VRel w (λb o=>M b o\/u b o) x (f p):=λp hp=>by
      have ς:p<Γ rows.flatten:=by rw[Fx hk];omega
      obtain⟨i,j,row,h1,h2,h3⟩:=bv hk (Fac ς);grind
    have holdR:Reads w (λb o=>M b o\/u b o) rows.flatten ((List.range' 0 (Γ rows*ie.size)).map f):=by refine⟨by rw[Fx hk];simp,λp x y hp hy=>?_⟩;grind
    by_cases hstay:Γ rows+Γ d<=B
    . have hle:(Γ rows+Γ d)*ie.size<=B*ie.size:=Fa3 _ hstay
      have hdist:(Γ rows+Γ d)*ie.size=Γ rows*ie.size+Γ d*ie.size:=Fch _ _ _;have h9:Γ ε.toList=Γ d*ie.size:=Z;have h10:Γ rows*ie.size+0+Γ ε.toList<=c0.size:=Z;obtain⟨C,hrun,hw⟩:=Kb (P:=P) w b (Γ rows*ie.size) ε.toList 0 w c0 e0 fr0 W hunf h10 ν;simp only[Nat.add_zero]at hw;have happ:=K4 (P:=P) ty h (w':=C) U (T w rfl) hstay (λa ha=>by cases ha;rw[wu];grind) (λQ=>by cases Q)
      let M':Nat->Nat->Prop:=λb' o=>M b' o/\¬(b'=b/\o<(Γ rows+Γ d)*ie.size)
      obtain⟨c',R,hl',hs'⟩:=hw.blk _ _ _ W;have hcellb:∀o,o<Γ rows*ie.size->C.cell? ⟨b,o,Θ⟩=w.cell? ⟨b,o,Θ⟩:=λo ho=>by simp only[World.cell?,R,W];rw[<-Fdg,hl',Faq,Far δ,Fed];simp[ho]
      have hcelln:∀j v,ε[j]?=Δ v->C.cell? ⟨b,Γ rows*ie.size+j,Θ⟩=Δ v:=λj v I=>by have hj:=(Fbt.1 I).1;simp only[World.cell?,R];have H:min (Γ rows*ie.size) c0.size=Γ rows*ie.size:=Z;have:c'.toList[Γ rows*ie.size+j]?=Δ v:=δ;grind
      have hkeep:Keeps w (λb o=>M b o\/u b o) C (λb o=>M' b o\/u b o):=
        { cell:=λb' o' v I hT=>by
            by_cases he:b'=b
            . grind
            . rw[Gz (hw.other b' he)]
              exact I
          out:=λb' o' v I hT hT'=>hT (hT'.imp (λh=>h.1) id)
          shp:=λb' c e fr hc=>by
            by_cases he:b'=b
            . grind
            . exact⟨c,fr,by rw[hw.other b' he];exact hc,rfl⟩}
      have hobjb:st.obj b=Θ:=by
        cases ho:st.obj b with
        |none=>rfl
        |some x=>exact absurd ((g.sto.obj b x ho).2 0) hfirst
      have hbxb:∀k l,A.bx k=Δ l->β k≠b:=λk l hl=>g.sep k b δ (.inr δ)
      have S:SimB n u β A ((st.sT b Θ).sT b (Δ ((rows++d).length*ie.size))) M' a C:=
        { tsz:=g.tsz
          dfr:=g.dfr.step λD _ _ h2=>⟨hw.other D λe=>(h2 _).1 (e▸τ _ (Fai _)),λo H=>(h2 o).1 H.1⟩
          tm:=λi=>(g.tm i).keep hkeep
          bx:=λk l hl=>⟨(g.bx k l hl).1.same hkeep (hw.other _ (hbxb k l hl)),λo=>⟨(g.bx k l hl).2 o,λQ=>hbxb k l hl Q.1⟩⟩
          inj:=g.inj
          sep:=λk b' hk hb=>by
            refine g.sep k b' hk ?_;by_cases he:b'=b
            . grind
            simp_all[Store.sT,qp]
          sto:=
            { obj:=λb' x hx=>by
                have hx':st.obj b'=Δ x:=hx;have he:b'≠b:=λe=>δ;exact⟨ObjRel.same (g.sto.obj b' x hx').1 hkeep (hw.other b' he),λo=>⟨(g.sto.obj b' x hx').2 o,λQ=>he Q.1⟩⟩
              tok:=λb' top ht=>by
                by_cases he:b'=b
                . subst he
                  simp only[Store.sT,Fbu,cond_true,Fak]at ht;grind
                . simp only[Store.sT,qp he,cond_false]at ht
                  obtain⟨c,e,fr,h1,h2,h3,h4⟩:=g.sto.tok b' top ht;exact⟨c,e,fr,ψd,h2,h3,λo ho=>⟨h4 o ho,λQ=>he Q.1⟩⟩
              mlt:=λb' o H=>by rw[hw.size];exact g.sto.mlt b' o H.1
              olt:=λb' o H=>by rw[hw.size];exact g.sto.olt b' o H
              dis:=λb' o hO hM=>g.sto.dis b' o hO hM.1}}
      have V:Chg M w M' C:=
        { size:=by rw[hw.size];simp
          keep:=λb' o hb H=>by
            by_cases he:b'=b
            . grind
            . exact Gz (hw.other b' he) o
          blk:=λb' hb H=>hw.other b' λe=>H (Γ rows*ie.size) δ
          shp:=hkeep.shp
          sub:=λb' o H _=>H.1
          tape:=hw.tape
          os:=hw.os
          output:=hw.output}
      refine⟨_,C,.lst ie.size (rows++d) (Δ b),_,M',happ,.inr ⟨by simp[hne],b,⟨hobjb,by simp[Store.sT]⟩,rfl,rfl⟩,S,V,?_⟩;rw[<-Fad];have hget:∀p x,(rows++d).flatten[p]?=Δ x->∃v,C.cell? ⟨b,p,Θ⟩=Δ v/\¬(M' b p\/u b p)/\xq v=true/\VRel C (λb o=>M' b o\/u b o) x v:=λp x hp=>by
        rw[Fd9]at hp;by_cases ς:p<Γ rows*ie.size
        . rw[Far (by rw[Fx hk];exact ς)]at hp
          obtain⟨h1,h2,h4,h3⟩:=hold p ς;exact⟨f p,δ,λQ=>h2 (Q.imp (λh=>h.1) id),h4,(h3 x hp).keep hkeep⟩
        . rw[Fa0 (by rw[Fx hk];omega),Fx hk]at hp
          obtain⟨v,I,π⟩:=υ.getElem? hp;have hpl:=(Fa1.1 hp).1;rw[Fx hk']at hpl;have:=hcelln _ v (by simpa using I);have e:Γ rows*ie.size+(p-Γ rows*ie.size)=p:=Z;rw[e]at this;refine⟨v,this,λQ=>?_,ν v (Fa4 I),π.keep hkeep⟩;rcases Q with Q|Q
          . exact Q.2 ⟨rfl,Z⟩
          . exact g.sto.dis b p Q (τ p Z)
      have hlt2:∀(i:Nat) (row:List AV) (j:Nat) (x:AV),(rows++d)[i]?=Δ row->row[j]?=Δ x->(rows++d).flatten[i*ie.size+j]?=Δ x:=λi row j x h1 h2=>Kt hkk h1 h2;refine VRel.lst _ _ b 0 B ie.size (λj=>(C.cell? ⟨b,j,Θ⟩).getD undef) (by rw[Fad];exact hstay) (λi row hr=>hkk row (Fa4 hr)) (λt ht=>?_) (λi row j x h1 h2=>?_) (λi row j x h1 h2=>?_) (λi row j x h1 h2=>?_)
      . cases ht;exact⟨rfl,rfl,by simp[hne],c',e0,fr0,R,by rw[hs'];exact hcsz⟩
      . obtain⟨v,h3,h4,h6,h5⟩:=hget _ x (hlt2 i row j x h1 h2)
        simp only[Fbd,h3,Option.getD_some];exact⟨O,h4⟩
      . obtain⟨v,h3,h4,h6,h5⟩:=hget _ x (hlt2 i row j x h1 h2)
        simp only[h3,Option.getD_some];exact h6
      grind
    . have hold2:(Builtin.firstCells ie.size (Γ rows) (.slice (Δ ⟨b,0,Θ⟩) (Γ rows) B)).run P w.drew=.ok (((List.range' 0 (Γ rows*ie.size)).map f).toArray) w.drew:=by
        have:=Lo (P:=P) ⟨b,0,Θ⟩ w.drew f (Γ rows*ie.size) 0 #[] (λp _ hp=>by rw[wu,Fbd];exact(hold p Z).1);simp only[Builtin.firstCells,loadCells];simpa using this
      obtain⟨E,ι,h1,_,h2,h3⟩:=K5 ty h U (T w.drew rfl) hold2 Z (by simpa using L)
      have htokless:SimB n u β A (st.sT b Θ) M a w:=
        { g with
          sep:=λk b' hk hb=>g.sep k b' hk (hb.imp id λh=>by
            by_cases he:b'=b
            . subst he;rw[htb];simp
            . simpa [Store.sT,qp he]using h)
          sto:=g.sto.weaken ⟨λ_ _ h=>h,λb' x hx=>by
            by_cases he:b'=b
            . subst he;simp[Store.sT]at hx
            . simpa [Store.sT,qp he]using hx⟩}
      obtain⟨G,M',ho,S,V,I⟩:=htokless.appendNew (cs:=((List.range' 0 (Γ rows*ie.size)).map f).toArray++ε++ι) (e:=e) (cap:=E) hkk (by simp[hne]) (λi x hx=>by
        rw[Fd9]at hx;obtain⟨v,I,π⟩:=(holdR.append υ).getElem? hx;refine⟨v,getElem?_append3 (by simpa using I),π,?_⟩;rcases Faw.1 (Fa4 I)with H|H
        . simp only[Fag]at H
          obtain⟨p,hp,rfl⟩:=H;exact(hold p (by simpa using hp)).2.2.1
        . exact ν v H) (by rw[Fad];exact h1) (by simp only[Array.size_append,hns,h2,List.size_toArray,Fas,List.length_range'];rw[Nat.sub_mul,<-Fch];omega)
      rw[Fad]at I;exact⟨_,_,_,G,M',h3,ho,S,V,I⟩
end
section
variable {P:Program} {c:Cfg} {K:Fr->Store->Prop} {A:Fr} {st:Store} {Oth M:BB}
theorem Im{w:World}{b:Nat}{a:Array Value}{e:TypeId}{g:Nat×Nat}(h:w.heap[b]?=Δ (.cells a e g))(k:F9 g a.size):
    ∃d,F9 d a.size/\(w.freeze ⟨b,a.size,Θ⟩ 1).heap[b]?=Δ (.cells a e d)/\∀i,i≠b->(w.freeze ⟨b,a.size,Θ⟩ 1).heap[i]?=w.heap[i]?:=by
  obtain⟨j,f⟩:=g;refine⟨if j==f then(a.size,a.size+1)else(min j a.size,max f (a.size+1)),?_,?_,λi f=>?_⟩
  . grind[F9]
  . simp_all[World.freeze,Fc4]
  simp_all[World.freeze,Fc4,Ne.symm]
theorem zfc{w:World}{b:Nat}{a:Array Value}{e:TypeId}{d:Nat×Nat}(h:w.heap[b]?=Δ (.cells a e d))(g:F9 d a.size)(f o:Nat):
    (w.freeze ⟨b,a.size,Θ⟩ 1).cell? ⟨f,o,Θ⟩=w.cell? ⟨f,o,Θ⟩:=by grind[Im,World.cell?]
theorem n8(w:World)(a:Addr)(n:Nat):(w.freeze a n).heap.size=w.heap.size:=by grind[World.freeze]
def Oi{w:World}{b:Nat}{a:Array Value}{e:TypeId}{f:Nat×Nat}(h:w.heap[b]?=Δ (.cells a e f))(d:F9 f a.size)(T:BB):
    Keeps w T (w.freeze ⟨b,a.size,Θ⟩ 1) T where
  cell k o x g _:=by rw[zfc h d];exact g
  out _ _ _ _ i:=i
  shp k v u t l:=by obtain⟨j,_,p,n⟩:=Im h d;grind
def zfb{w:World}{b:Nat}{a:Array Value}{e:TypeId}{g:Nat×Nat}(h:w.heap[b]?=Δ (.cells a e g))(f:F9 g a.size){T:BB}{l:List AV}{d:Nat}(C:d≠b)(n:CellsRel w T l d):
    CellsRel (w.freeze ⟨b,a.size,Θ⟩ 1) T l d:=by
  obtain⟨u,H,G,E⟩:=Im h f;obtain⟨B,z,v,D,t,p,o⟩:=n;exact⟨B,z,v,δ,t,p,λi x y k j=>(o i x y k j).keep (Oi h f T)⟩
theorem SimB.freeze{n:SN}{β:Nat->Nat}{a:Act}{w:World}(s:SimB n Oth β A st M a w){b:Nat}{I:Array Value}{e:TypeId}{S:Nat×Nat}(h:w.heap[b]?=Δ (.cells I e S))(f:F9 S I.size)(j:∃o,¬M b o):
    SimB n Oth β A st M a (w.freeze ⟨b,I.size,Θ⟩ 1) where
  tsz:=s.tsz
  dfr:=s.dfr.step λD hD _ t=>by grind[Im]
  tm i:=(s.tm i).keep (Oi h f _)
  bx k l G:=⟨zfb h f (λe=>by obtain⟨o,C⟩:=j;exact C (e▸(s.bx k l G).2 o)) (s.bx k l G).1,(s.bx k l G).2⟩
  inj:=s.inj
  sep:=s.sep
  sto:=
    { obj:=λd x g=>by
        refine⟨?_,(s.sto.obj d x g).2⟩;have z:=(s.sto.obj d x g).1;cases x with
        |cells l=>exact zfb h f (λe=>by obtain⟨o,C⟩:=j;exact C (e▸(s.sto.obj d _ g).2 o)) z
        | ghost o gh=>
          obtain⟨⟨u,Q⟩,t⟩:=z;have hb:d≠b:=λW=>by subst W;rw[h]at u;cases u;cases Q
          obtain⟨v,_,_,R⟩:=Im h f;exact⟨⟨δ,Q⟩,λp V=>(t p V).keep (Oi h f _)⟩
        | iter m since seen last=>
          have u:w.heap[d]?=_:=z;obtain⟨v,_,_,R⟩:=Im h f;show _=_;grind
        | map es bs clock=>
          obtain⟨T,u,t,H,X⟩:=z;obtain⟨v,_,_,R⟩:=Im h f;exact⟨T,δ,t,λi x y g L=>⟨(H i x y g L).1.keep (Oi h f _),(H i x y g L).2.keep (Oi h f _)⟩,X⟩
      tok:=λd B U=>by obtain⟨c',e',f',u,t,H⟩:=s.sto.tok d B U;grind[Im]
      mlt:=λd o E=>by rw[n8];exact s.sto.mlt d o E
      olt:=λd o E=>by rw[n8];exact s.sto.olt d o E
      dis:=s.sto.dis}
def ytl{w:World}{b:Nat}{d:Array Value}{e:TypeId}{g:Nat×Nat}(h:w.heap[b]?=Δ (.cells d e g))(f:F9 g d.size)(p:∃o,M b o):Chg M w M (w.freeze ⟨b,d.size,Θ⟩ 1) where
  size:=by rw[n8];simp
  keep a o _ _:=zfc h f a o
  blk a _ j:=by grind[Im]
  shp a n l k i:=(Oi h f (λ_ _=>False)).shp a n l k i
  sub _ _ h _:=h
  tape:=ξ
  os:=ξ
  output:=ξ
theorem yuv{o:Oper}{s t:TypeId}{x:Operand}(ho:o.op=.convert s t x)(C:qf P c.I)(h:cw P c o s t x K A st):AOp P c.N o K A st:=by
  unfold cw at h;split at h
  . rename_i k rows b hx
    cases W:Nat.beq s t with
    |false=>grind
    |true=>
    rw[W]at h;obtain rfl:=(Ae _ _).1 W;obtain⟨i,hi,h⟩:=zv h;split at h
    . rename_i e H
      obtain⟨T,R,h⟩:=zv h;cases l:(m8 T.ty&&Nat.beq k 1)with
      |false=>grind
      |true=>
      rw[l]at h;obtain⟨g,u,h⟩:=zv h;obtain⟨l,B⟩:=Fbg.1 l;have B:=(Ae _ _).1 B;have hiety:T.ty=.int .u8:=by grind[m8]
      rintro Oth M a w ⟨β,j⟩;obtain⟨D,e',fr,S,X,h3,h4⟩:=j.sto.tok b g u;have G:∃n p,a.eval x=.slice (Δ ⟨b,0,Θ⟩) n p/\∃o,¬M b o:=by
        have U:=qt j.env hx;generalize a.eval x=v at U;cases U with
        | lst _ _ b' off p _ f hcap hk htok hc h0 ε=>
          obtain⟨rfl,rfl,ι,_⟩:=htok b rfl;refine⟨_,_,rfl,?_⟩;cases rows with
          |nil=>grind
          | cons r rs=>
            have η:=hk 0 r rfl;cases r with
            |nil=>grind
            |cons y ys=>exact⟨_,λhm=>(hc 0 _ 0 y rfl rfl).2 (.inl hm)⟩
      obtain⟨n,p,G,z⟩:=G;have L:w.shape? b=Δ (e',D.size):=by simp[World.shape?,S]
      have hrun:(execOp a.eval o).run P w=.ok (.value (a.eval x)) (w.freeze ⟨b,D.size,Θ⟩ 1):=by simp[execOp,ho,G,convert,yy (jz (C _ _ hi) H),yy (Mw (C _ _ R) hiety),markStringish,L]
      have sim':=j.freeze S X z;unfold Oper.wp;rw[hrun,Oper.upon_value];have E:LRel (w.freeze ⟨b,D.size,Θ⟩ 1) (λb o=>M b o\/Oth b o) β (.av (.lst k rows (Δ b))) (a.eval x):=by have:=sim'.ev x;grind
      have hchg:Chg M w M (w.freeze ⟨b,D.size,Θ⟩ 1):=ytl S X ⟨g,h4 g (Fai _)⟩;cases V:o.dst with
      |none=>rw[V]at h;exact⟨A,st,M,h,⟨β,sim'⟩,hchg⟩
      | some d=>
        rw[V]at h;obtain⟨Q,h⟩:=Bu h;exact⟨_,st,M,h,⟨β,sim'.put Q E⟩,hchg⟩
    grind
  . exact d9 C h
  . exact d9 C h
  grind[Sl]
end
section
variable {P:Program} {c:Cfg} {K:Fr->Store->Prop} {A:Fr} {st:Store}
theorem yuz{o:Oper}{C:Call}(ho:o.op=.call C)(hcl:C.callee=.builtin .append)(S:qf P c.I)
    (h:optK C.argTypes[0]? λt=>optK (c.I t) λi=>optK C.args[0]? λs=>optK C.args[1]? λx=>match i.ty with
      |.slice e=>bif (C.argTypes[1]?.bind c.I).any Pk then
          appendK P c st e (A.ev s) (A.ev x) λr f=>xz A c.n o.dst (.av r) λA'=>K A' f else vcX P c o K A st
      |_=>False):AOp P c.N o K A st:=by
  obtain⟨t,ht,h⟩:=zv h;obtain⟨i,hi,h⟩:=zv h;obtain⟨s,hs,h⟩:=zv h;obtain⟨x,hx,h⟩:=zv h;split at h
  . rename_i e U
    cases X:(C.argTypes[1]?.bind c.I).any Pk with
    |false=>rw[X]at h;exact d9 S h
    |true=>
    rw[X]at h;simp only[cond_true]at h;replace h:=h.out;rintro η M a w ⟨β,g⟩;have V:∃t1 e1,C.argTypes[1]?=Δ t1/\P.underlying t1=Δ (.slice e1):=by
      cases h1:C.argTypes[1]? with
      |none=>grind
      | some t1=>
        rw[h1]at X;simp only[Option.bind_some]at X;cases h2:c.I t1 with
        |none=>grind
        | some j=>
          rw[h2]at X;simp only[Option.any_some]at X;unfold Pk at X;split at X
          . rename_i e1 h3;exact⟨t1,e1,rfl,jz (S _ _ h2) h3⟩
          grind
    have hrun:(execOp a.eval o).run P w=((Builtin.append_ C.argTypes o.type (C.args.map a.eval)).run P w).andThen λv y=>.ok (.value v) y:=by simp_all[execOp,resolve,invoke,builtin]
    have fin:∀v y,(∃r f D,(xz A c.n o.dst (.av r) λA'=>K A' f)/\VRel y (λb o=>D b o\/η b o) r v/\SimB c.N η β A f D a y/\Chg M w D y)->
        ∃A' f D,K A' f/\Sim c.N η A' f D (a.put o.dst v) y/\Chg M w D y:=by
      rintro v y ⟨r,f,D,hk,hv,hs,l⟩;unfold xz at hk;cases hd:o.dst with
      |none=>rw[hd]at hk;exact⟨A,f,D,hk,⟨β,hs⟩,l⟩
      | some d=>
        rw[hd]at hk;obtain⟨π,hk⟩:=Bu hk;exact⟨_,f,D,hk,⟨β,hs.put π hv⟩,l⟩
    have h1:(C.args.map a.eval)[1]?=Δ (a.eval x):=δ;unfold Oper.wp;rw[hrun];rcases h with h|⟨s',x',υ,ς,h⟩;rotate_left
    . have ο:=qt g.env υ
      have τ:=qt g.env ς;have h0:(C.args.map a.eval)[0]?=Δ (a.eval s):=δ;obtain⟨ie,E⟩:=h.has;obtain⟨v,y,hr,hp⟩:=h.out ie E _ _ w _ _ _ o.type _ t g.inner (ο.mono Kn) (τ.mono Kn) ht V (jz (S _ _ hi) U) (S _ _ E) h0 h1;rw[hr];exact fin v y (g.post v y hp)
    unfold du at h;obtain⟨ie,E,h⟩:=zv h;split at h
    . rename_i Q
      obtain⟨rows,p,u,h⟩:=zv h;have L:a.eval s=.slice Θ 0 0:=VRel.eq_s (qt g.env Q);have h0:(C.args.map a.eval)[0]?=Δ (.slice Θ 0 0):=δ;obtain⟨v,y,r,f,D,hr,B,z,l,hv⟩:=(rd (c:=c) g o.type ⟨ht,V,jz (S _ _ hi) U,S _ _ E,h0,h1⟩ (g.ev x) p).1 ⟨rfl,rfl,λx h=>ω⟩ u;rw[hr];exact fin v y ⟨r,f,D,h r f B,hv,z,l⟩
    . rename_i Q
      obtain⟨rows,p,u,h⟩:=zv h;have L:∃ad,a.eval s=.slice ad 0 0/\∀x,ad=Δ x->x.spot=Θ:=by
        have:=qt g.env Q;generalize a.eval s=v at this;cases this with
        |emp ad h=>grind
      obtain⟨ad,L,ε⟩:=L;have h0:(C.args.map a.eval)[0]?=Δ (.slice ad 0 0):=δ;obtain⟨v,y,r,f,D,hr,B,z,l,hv⟩:=(rd (c:=c) g o.type ⟨ht,V,jz (S _ _ hi) U,S _ _ E,h0,h1⟩ (g.ev x) p).1 ⟨rfl,rfl,ε⟩ u;rw[hr];exact fin v y ⟨r,f,D,h r f B,hv,z,l⟩
    . rename_i k rows b Q
      cases W:(Nat.beq k ie.size&&Nat.blt 0 ie.size)with
      |false=>grind
      |true=>
      rw[W]at h;simp only[cond_true]at h;rw[Fay]at W;have hpos:0<ie.size:=Fbp W.2;obtain rfl:=(Ae _ _).1 W.1;obtain⟨ν,p,ι,u,h⟩:=zv h;have T:=qt g.env Q;obtain⟨R,G,H,L⟩:∃R G H,a.eval s=.slice R G H:=by generalize a.eval s=v at T;cases T<;>simp
      rw[L]at T;have h0:(C.args.map a.eval)[0]?=Δ (.slice R G H):=δ;obtain⟨v,y,r,f,D,hr,B,z,l,hv⟩:=(rd (c:=c) g o.type ⟨ht,V,jz (S _ _ hi) U,S _ _ E,h0,h1⟩ (g.ev x) p).2 rows b hpos T ι u;rw[hr];exact fin v y ⟨r,f,D,h r f B,hv,z,l⟩
    grind
  grind
def zcb{o:Oper}{x:LV}{v:Value}{a:Act}{w:World}{e M:BB}{β:Nat->Nat}(g:SimB c.N e β A st M a w)(l:LRel w (λb o=>M b o\/e b o) β x v)
    (h:xz A c.n o.dst x λi=>K i st):∃i f M',K i f/\Sim c.N e i f M' (a.put o.dst v) w/\Chg M w M' w:=by
  unfold xz at h;cases k:o.dst with
  |none=>rw[k]at h;exact⟨A,st,M,h,⟨β,g⟩,Chg.refl _ _⟩
  | some d=>
    rw[k]at h;obtain⟨j,h⟩:=Bu h;exact⟨_,st,M,h,⟨β,g.put j l⟩,Chg.refl _ _⟩
set_option maxHeartbeats 1000000 in
theorem ygj(w:World){t e:TypeId}(f:P.underlying t=Δ (.slice e))(b:Option Addr)(n a d:Nat):(Op.equalIn (d+1) t (.slice b n a) (.slice Θ 0 0)).run P w=.ok b.isNone w:=by cases b<;>simp[Op.equalIn,yy f]
theorem za1(w:World){t e:TypeId}(d:P.underlying t=Δ (.slice e))(b:Option Addr)(n a:Nat):
    (binOp .eql t (.slice b n a) (.slice Θ 0 0)).run P w=.ok (.bool b.isNone) w/\(binOp .neq t (.slice b n a) (.slice Θ 0 0)).run P w=.ok (.bool !b.isNone) w:=by grind[ygj,binOp,Op.equal,Op.maxDepth,Sem.run_bind,Result.andThen_ok,Sem.run_pure]
theorem yuy{o:Oper}{u:BinOp}{t v:TypeId}{x y:Operand}(Q:o.op=.binOp u t x y v)(G:qf P c.I)
    (h:dl c o u t x y v K A st):AOp P c.N o K A st:=by
  unfold dl at h;split at h
  . rename_i k rows tok C B
    obtain⟨i,E,h⟩:=zv h;rintro H M a w ⟨β,d⟩;have z:a.eval y=.slice Θ 0 0:=VRel.eq_s (qt d.env B);have l:∃j n f,a.eval x=.slice j n f/\(j.isNone=true->rows=[]):=by
      rcases O6 (qt d.env C)with⟨_,f,D,R,_⟩|⟨b,off,f,D,_⟩
      . grind
      grind
    obtain⟨j,n,f,l,g⟩:=l;cases p:i.ty with
    | slice e=>
      rw[p]at h;have L:=jz (G _ _ E) p;cases u with
      | eql=>
        have hrun:(execOp a.eval o).run P w=.ok (.value (.bool j.isNone)) w:=by simp_all[execOp,eqGuard,za1]
        unfold Oper.wp;rw[hrun,Oper.upon_value];exact zcb d (x:=k8 j.isNone) (VRel.s _) (h _ g)
      | neq=>
        have hrun:(execOp a.eval o).run P w=.ok (.value (.bool !j.isNone)) w:=by simp_all[execOp,eqGuard,za1]
        unfold Oper.wp;rw[hrun,Oper.upon_value];exact zcb d (x:=k8 !j.isNone) (VRel.s _) (h _ g)
      |_=>grind
    |_=>grind
  grind[Sl]
def zib(b:qf P c.I){o:Oper}(h:Ff P c o K A st):AOp P c.N o K A st:=by
  unfold Ff at h;cases e:isX o.op with
  |true=>rw[e]at h;exact d9 b h
  |false=>
  rw[e]at h;replace h:G9 P c o K A st:=h;unfold G9 at h;cases a:o.op with
  |alloc t=>grind[Hr,yu0]
  |box t x=>grind[yux]
  |buildSlice t n ps=>simp only[a]at h;exact zic a b h
  | store t p x=>
    simp only[a]at h;cases f:o.dst with
    |some d=>grind
    |none=>rw[f]at h;exact yus a f b h
  |binOp op t x y yt=>grind[yuy]
  |convert s t x=>grind[yuv]
  | call cl=>
    simp only[a]at h;grind[yuw,yuu,yuz,Sl]
  |_=>grind[Sl]
def Cfg.noDepth(c:Cfg):c.F.depth.isSome=true->1<=0:=λh=>ω
def zhe{c:Cfg}{f:FuncId}{a:Array Value}{w:World}{R:Ending->World->Prop}(h:Calls P f a w R):CallsIn c.F 0 P f a w R:=
  (callsIn_wide (n:=0)).2 h
def yg8{c:Cfg}{b:String}{a:Array Value}{w:World}{R:Value->World->Prop}(h:Rows P b a w R):RowsIn c.F 0 P b a w R:=
  λx e _=>let⟨v,d,r,s⟩:=h x e;⟨v,d,r,stepsIn_wide.2 s⟩
def Oper.wpIn_F{o:Oper}(d:∀e,o.op≠.defer e){a:Act}{w:World}{K:Act->World->Prop}{Q:Exit->Act->World->Prop}(h:o.wp P a w K Q):o.wpIn c.F 0 P a w K Q:=by
  refine⟨λ_ _=>O,?_⟩;rw[Oper.semAt_eq _ _ _ d];unfold Oper.wp at h;generalize(execOp a.eval o).run P w=r at*;cases r with
  | ok x b=>
    cases x<;>simp only[Oper.upon,Oper.uponIn]at h⊢<;>
      first
        |exact h
        |exact⟨c.noDepth,zhe h⟩
        |exact⟨c.noDepth,yg8 h⟩
        |exact h.elim
  |halt x b=>cases x<;>trivial<;>exact h
def ylj{o:Oper}(h:Ff P c o K A st)(a:Call):o.op≠.defer a:=by intro e;unfold Ff at h;rw[e]at h;have h:G9 P c o K A st:=h;unfold G9 at h;simp only[e]at h;obtain⟨d,_,h⟩:=zv h;obtain⟨_,h⟩:=Bu h;exact h.elim
def ziq{o:Oper}{l:Nat}(h:ei A o.op=Δ l):∃d f b a,o.op=.call d/\d.callee=.value f/\A.ev f=.av (.s (.func (.yield l) b a))/\b=#[]/\a=#[]:=by
  unfold ei at h;split at h
  . rename_i d e
    split at h
    . rename_i f i
      split at h
      . rename_i j b a g
        cases k:(Nat.beq b.size 0&&Nat.beq a.size 0)with
        |false=>grind
        | true=>
          simp_all
      . cases h
    . cases h
  . cases h
def yha{l:Nat}{f:FuncId}{b:Array Value}{a d:Code}{w:World}{R:Ending->World->Prop}(h:RoundIn Fence.wide 0 P l f b a d w R):RoundIn c.F 0 P l f b a d w R:=h
def yu1(hI:qf P c.I){o:Oper}(h:Mv P c o K A st):yvr P c o K A st:=by
  unfold Mv at h;split at h;rotate_left
  . exact λB M a w g=>Oper.wpIn_F (ylj h) (zib hI h B M a w g)
  . rename_i l hl
    obtain⟨D,f,fv,ν,ho,ι,hf,rfl,rfl⟩:=ziq hl;rintro B M a w ⟨β,g⟩;obtain⟨vs,t,h⟩:=zv h;unfold rl at t;rw[ho]at t;have η:a.eval f=.func (.yield l) #[] #[]:=VRel.eq_s (qt g.env hf);obtain⟨Q,L⟩:=Nz t;have C:Reads w (λb o=>M b o\/B b o) vs (D.args.map a.eval).toList:=by refine⟨by simp[Q],λi x y H p=>?_⟩;obtain⟨z,hz,G⟩:=L i x H;have ε:D.args[i]?=Δ z:=δ;rw[Fcx,Fau,hz]at p;simp at p;subst p;exact qt g.env (Pc G)
    have hrun:(execOp a.eval o).run P w=(Instr.yield l (D.args.map a.eval)).run P w:=by grind[execOp,resolve,Deferred.ofValue,invoke]
    obtain⟨fn,T,E,W,p,j⟩:=h.out _ _ w (D.args.map a.eval) g.inner ⟨C.1,λi x y H p=>(C.2 i x y H p).mono Kn⟩;refine⟨λ_ _=>O,?_⟩;rw[Oper.semAt_eq _ _ _ δ,hrun,p,Oper.uponIn_round];refine⟨c.noDepth,yha (j.mono ?_)⟩;rintro e X ⟨v,rfl,hp⟩;obtain⟨r,n,S,u,hv,U,k⟩:=g.post v X hp;show∃A' n S,_;unfold xz at u;cases V:o.dst with
    |none=>rw[V]at u;exact⟨A,n,S,u,⟨β,U⟩,k⟩
    | some d=>
      rw[V]at u;obtain⟨R,u⟩:=Bu u;exact⟨_,n,S,u,⟨β,U.put R hv⟩,k⟩
end
def Pm(c:Cfg)(o:Oper)(A:Fr)(K:Fr->Prop):Prop:=xz A c.n o.dst .und K
def Cq(P:Program)(c:Cfg)(a:Array Oper)(K:Fr->Store->Prop):List Oper->Fr->Store->Prop
  |[],A,d=>K A d
  | o::rest,A,d=>
    match o.guard with
    |none=>Mv P c o (Cq P c a K rest) A d
    | some (j,want)=>optK ((a[j]?).bind (·.dst)) λt=>
      match A.t t with
      |.av (.s (.bool b))=>Ds b
          (bif want then Mv P c o (Cq P c a K rest) (A.put t (k8 true)) d else Pm c o (A.put t (k8 true)) λe=>Cq P c a K rest e d)
          (bif want then Pm c o (A.put t (k8 false)) λe=>Cq P c a K rest e d else Mv P c o (Cq P c a K rest) (A.put t (k8 false)) d)
      |.und=>Pm c o A λe=>Cq P c a K rest e d
      |_=>False
structure AWp(P:Program)(c:Cfg)(code:Code)(Q:Exit->Fr->Store->Prop)(A:Fr)(st:Store):Prop where
  out:∀Oth M a w,Sim c.N Oth A st M a w->code.wpIn c.F 0 P (λe a' w'=>∃A' st' M',Q e A' st'/\Sim c.N Oth A' st' M' a' w'/\Chg M w M' w') a w
structure ADraw(P:Program)(c:Cfg)(ops:Array Oper)(K:Fr->Store->Prop)(A:Fr)(st:Store):Prop where
  out:∀id,AWp P c (.region id ops true) (λe A' st'=>match e with|.normal=>K A' st'|_=>False) A st
def Vj(next:Fr->Store->Prop)(Q:Exit->Fr->Store->Prop):Exit->Fr->Store->Prop
  |.normal=>next
  |e=>Q e
def W9(id:Nat)(Q:Exit->Fr->Store->Prop):Exit->Fr->Store->Prop
  |.exit id'=>bif Nat.beq id' id then Q .normal else Q (.exit id')
  |e=>Q e
def ylk(Q:Exit->Fr->Store->Prop):Exit->Fr->Store->Prop
  |.goto _=>λ_ _=>False
  |e=>Q e
def vc(P:Program)(c:Cfg):Code->(Exit->Fr->Store->Prop)->Fr->Store->Prop
  |.skip,Q,A,d=>Q .normal A d
  | .region _ e draw,Q,A,d=>match draw with
    |false=>Cq P c e (Q .normal) e.toList A d
    |true=>ADraw P c e (Q .normal) A d
  |.seq a b,Q,A,d=>vc P c a (Vj (vc P c b Q) Q) A d
  | .cond x a b,Q,A,d=>match A.ev x with
    |.av (.s (.bool t))=>Ds t (vc P c a Q A d) (vc P c b Q A d)
    |_=>False
  |.block id b,Q,A,d=>vc P c b (W9 id Q) A d
  |.loop b,Q,A,d=>AWp P c (.loop b) Q A d
  |.exit id,Q,A,d=>Q (.exit id) A d
  |.scope b,Q,A,d=>vc P c b (ylk Q) A d
  |.label _,Q,A,d=>Q .normal A d
  |.ret,Q,A,d=>Q .ret A d
  |_,_,_,_=>False
section
variable {P:Program} {c:Cfg}
theorem Fr.put_self{A:Fr}{d:Nat}{x:LV}(h:A.t d=x):A.put d x=A:=by
  unfold Fr.put
  congr
  grind[qp]
theorem ze0{d:Array Oper}{a:Array Value}{j t:Nat}{b:Bool}(e:(d[j]?).bind (·.dst)=Δ t)(h:a.getD t undef=.bool b):yielded d a j=Δ b:=by unfold yielded;rw[e];simp only[Option.bind_some];rw[Fbf]at h;grind[undef]
theorem zez{b:Array Oper}{a:Array Value}{j t:Nat}(e:(b[j]?).bind (·.dst)=Δ t)(h:a.getD t undef=undef):yielded b a j=Θ:=by
  unfold yielded;rw[e];simp only[Option.bind_some];rw[Fbf]at h;cases d:a[t]? with
  |none=>rfl
  |some v=>rw[d]at h;simp at h;subst h;rfl
theorem Ss{o:Oper}{a:Act}{w:World}{K j:Act->World->Prop}{Q t:Exit->Act->World->Prop}(d:∀a w,K a w->j a w)(n:∀e a w,e≠.normal->¬Q e a w)(h:o.wpIn c.F 0 P a w K Q):o.wpIn c.F 0 P a w j t:=by
  refine⟨h.1,?_⟩;have h:=h.2;generalize(o.semAt c.F.round a.eval).run P w=r at*;have nq:∀(e:Exit) (a:Act) (w:World) {p:Prop},e≠.normal->Q e a w->p:=λe a w p g h=>(n e a w g h).elim;cases r with
  | ok x l=>
    cases x<;>simp only[Oper.uponIn]at h⊢<;>
      first
        |exact d _ _ h
        |exact⟨h.1,CallsIn.mono h.2 (λe f b=>by
            cases e with
            |returned v=>exact d _ _ b
            |panicked ch=>exact nq _ _ _ φ b
            |outgrown=>obtain⟨a2,k,i⟩:=b;exact nq _ _ _ φ i)⟩
        |exact⟨h.1,RowsIn.mono h.2 (λ_ _ b=>d _ _ b)⟩
        |exact⟨h.1,RoundIn.mono h.2 (λe f b=>by
            cases e with
            |returned v=>exact d _ _ b
            |panicked ch=>exact nq _ _ _ φ b
            |outgrown=>obtain⟨a2,k,i⟩:=b;exact nq _ _ _ φ i)⟩
        |exact h
  |halt x l=>cases x<;>simp only[Oper.uponIn]at h⊢<;>grind
def sk(hI:qf P c.I)(g:Array Oper)(K:Fr->Store->Prop):∀(l:List Oper) (A:Fr) (C:Store),Cq P c g K l A C->
    ∀i M a w,Sim c.N i A C M a w->wpListIn c.F 0 P g (λe v n=>e=.normal/\∃k f M',K k f/\Sim c.N i k f M' v n/\Chg M w M' n) l a w:=by
  intro l;induction l with
  |nil=>intro A C h i M a w u;exact⟨rfl,A,C,M,h,u,Chg.refl M w⟩
  | cons o rest ih=>
    intro A C h i M a w u
    have mono:∀(M':BB) (n:World) (v:Act) (k:Fr) (f:Store),Cq P c g K rest k f->Sim c.N i k f M' v n->Chg M w M' n->
        wpListIn c.F 0 P g (λe v n=>e=.normal/\∃k f M',K k f/\Sim c.N i k f M' v n/\Chg M w M' n) rest v n:=by
      intro M' n v k f z h2 V;have:=ih k f z i M' v n h2;clear h z
      -- weaken the post
      have wm:∀(l:List Oper) (a L) (Q R:Exit->Act->World->Prop),(∀e a w,Q e a w->R e a w)->(∀e a w,e≠.normal->¬Q e a w)->wpListIn c.F 0 P g Q l a L->wpListIn c.F 0 P g R l a L:=by
        intro l;induction l with
        |nil=>intro a L Q R X _ h;exact X _ _ _ h
        | cons o l ihl=>
          intro a L Q R X hn h;unfold wpListIn at h⊢;split
          . rename_i E
            rw[if_pos E]at h;grind[Ss]
          grind
      refine wm rest v n _ _ ?_ ?_ this
      . rintro e a w ⟨he,k,f,W,U,T,h6⟩
        exact⟨he,k,f,W,U,T,V.trans h6⟩
      grind
    -- an operation that is carried out
    have go:∀D,Mv P c o (Cq P c g K rest) D C->Sim c.N i D C M a w->Region.wanted o (yielded g a.tmps)=true->
        wpListIn c.F 0 P g (λe v n=>e=.normal/\∃k f M',K k f/\Sim c.N i k f M' v n/\Chg M w M' n) (o::rest) a w:=by
      intro D z p E;unfold wpListIn;rw[if_pos E];exact Ss (λv n ⟨k,f,M',V,U,T⟩=>mono M' n v k f V U T) (λ_ _ _ _ h=>h) (yu1 hI z i M a w p)
    have skip:∀D,(Pm c o D λk=>Cq P c g K rest k C)->Sim c.N i D C M a w->Region.wanted o (yielded g a.tmps)=false->
        wpListIn c.F 0 P g (λe v n=>e=.normal/\∃k f M',K k f/\Sim c.N i k f M' v n/\Chg M w M' n) (o::rest) a w:=by
      intro D z p E;unfold wpListIn;rw[if_neg δ];refine⟨λ_ _=>O,?_⟩;obtain⟨β,p⟩:=p;unfold Pm xz at z;cases hd:o.dst with
      |none=>rw[hd]at z;exact mono M w _ D C z ⟨β,p⟩ (Chg.refl _ _)
      | some d=>
        rw[hd]at z;obtain⟨S,z⟩:=Bu z;exact mono M w _ _ C z ⟨β,p.put S (x:=.und) rfl⟩ (Chg.refl _ _)
    unfold Cq at h;cases hg:o.guard with
    | none=>
      grind[Region.wanted]
    | some jw=>
      obtain⟨j,B⟩:=jw;rw[hg]at h;obtain⟨t,ht,h⟩:=zv h;have hwant:∀y,yielded g a.tmps j=y->Region.wanted o (yielded g a.tmps)=(y==Δ B):=λy hy=>by simp[Region.wanted,hg,hy]
      split at h
      . rename_i b H
        have G:a.tmps.getD t undef=.bool b:=by obtain⟨β,s⟩:=u;have:=s.tm t;rw[H]at this;exact VRel.eq_s this
        have E:=hwant _ (ze0 ht G);cases b with
        | true=>
          rw[Fr.put_self (A:=A) (x:=k8 true) H]at h;cases B with
          |true=>exact go A h u δ
          |false=>exact skip A h u δ
        | false=>
          rw[Fr.put_self (A:=A) (x:=k8 false) H]at h;cases B with
          |true=>exact skip A h u δ
          |false=>exact go A h u δ
      . rename_i H
        have G:a.tmps.getD t undef=undef:=by obtain⟨β,s⟩:=u;have:=s.tm t;rw[H]at this;exact this
        grind[zez]
      grind
end
section
variable {P:Program} {c:Cfg}
def Code.wpF_mono{F:Fence}{b:Code}{Q d:Exit->Act->World->Prop}{a:Act}{w:World}(f:∀e a w,Q e a w->d e a w)(h:b.wpIn F 0 P Q a w):b.wpIn F 0 P d a w:=wpIn_mono h f
def zi0{F:Fence}{n:Nat}{d:Code}{Q:Exit->Act->World->Prop}{a:Act}{w:World}(h:d.wpIn F n P (Exit.noGoto Q) a w):(Code.scope d).wpIn F n P Q a w:=by
  intro b k p u z y;have j:step P (lone (b.atR a (.code (.scope d)::k)) p w)=.next (lone (b.atR a (.code d::.inScope d::k)) p w):=step_lone_go ξ;have o:(lone (b.atR a (.code (.scope d)::k)) p w).fenced P F:=fenced_calm z y rfl;obtain⟨e,g,f,t,i⟩:=h b (.inScope d::k) p u z y;cases e with
  | normal=>
    have A:step P (lone (b.atR g (.inScope d::k)) p f)=.next (lone (b.atR g k) p f):=step_lone_go ξ;exact⟨.normal,g,f,t,.head o j (StepsIn.trans i (.one (fenced_calm z y rfl) A))⟩
  | exit id=>
    have G:exitTo id (.inScope d::k)=exitTo id k:=ξ;exact⟨.exit id,g,f,t,λB C=>.head o j (i.1 B δ),λv C=>let⟨k₁,E,D⟩:=i.2 v δ;⟨k₁,E,.head o j D⟩⟩
  |goto l=>trivial
  |ret=>exact⟨_,g,f,t,.of_steps (.one o j) i⟩
  |panic ch=>exact⟨_,g,f,t,.of_steps (.one o j) i⟩
  |outgrown=>exact⟨_,g,f,t,.of_steps (.one o j) i⟩
def AWp.mono{b:Code}{Q j:Exit->Fr->Store->Prop}{A:Fr}{d:Store}(h:AWp P c b Q A d)(k:∀e A d,Q e A d->j e A d):AWp P c b j A d:=
  ⟨λi M a w g=>Code.wpF_mono (λe u t ⟨p,f,M',o,n,l⟩=>⟨p,f,M',k _ _ _ o,n,l⟩) (h.out i M a w g)⟩
def zix{F:Fence}{b:Array Oper}{id:Nat}{Q:Exit->Act->World->Prop}{R:Act->World->Prop}{a:Act}{w:World}(h:wpListIn F 0 P b (λe f d=>e=.normal/\R f d) b.toList a w)(i:∀a w,R a w->Q .normal a w):(Code.region id b false).wpIn F 0 P Q a w:=
  Code.wpF_mono (λe f d ⟨j,g⟩=>δ) (wpIn_region_list h)
def ew(S:qf P c.I):∀(j:Code) (Q:Exit->Fr->Store->Prop) (A:Fr) (g:Store),vc P c j Q A g->AWp P c j Q A g:=by
  intro j;induction j with
  |skip=>intro Q A g h;exact⟨λd M a w sim=>wpIn_skip ⟨A,g,M,h,sim,Chg.refl _ _⟩⟩
  | region id B draw=>
    intro Q A g h;cases draw with
    |false=>exact⟨λd M a w sim=>zix (sk S B (Q .normal) B.toList A g h d M a w sim) λ_ _ h=>h⟩
    |true=>exact(ADraw.out h id).mono λe n i X=>δ
  | seq x y ihx ihy=>
    intro Q A g h;refine⟨λd M a w sim=>wpIn_seq ?_⟩;refine Code.wpF_mono ?_ ((ihx _ A g h).out d M a w sim);rintro e E D ⟨n,i,v,k,u,o⟩;cases e with
    | normal=>
      refine Code.wpF_mono ?_ ((ihy _ n i k).out d v E D u);rintro e W L ⟨H,z,G,V,U,T⟩;exact⟨H,z,G,V,U,o.trans T⟩
    |_=>exact⟨n,i,v,k,u,o⟩
  | cond x p q ihp ihq=>
    intro Q A g h;simp only[vc]at h;split at h
    . rename_i t ht
      refine⟨λd M a w sim=>?_⟩;have R:a.eval x=.bool t:=ψt;refine wpIn_cond R ?_;cases t with
      |true=>exact(ihp Q A g h).out d M a w sim
      |false=>exact(ihq Q A g h).out d M a w sim
    grind
  | block id b C=>
    intro Q A g h;refine⟨λd M a w sim=>wpIn_block ?_⟩;refine Code.wpF_mono ?_ ((C _ A g h).out d M a w sim);rintro e E D ⟨n,i,v,k,u,o⟩;cases e with
    | exit id'=>
      simp only[W9]at k;simp only[Exit.inBlock];by_cases K:id'=id
      . subst K
        simp only[Fbu,cond_true]at k;grind
      . simp only[qp K,cond_false]at k
        grind
    |_=>exact⟨n,i,v,k,u,o⟩
  |loop b C=>intro Q A g h;exact h
  |rangeFunc f ps x y ihx ihy=>intro Q A g h;exact h.elim
  |exit id=>intro Q A g h;exact⟨λd M a w sim=>wpIn_exit ⟨A,g,M,h,sim,Chg.refl _ _⟩⟩
  | scope b C=>
    intro Q A g h;refine⟨λd M a w sim=>zi0 ?_⟩;refine Code.wpF_mono ?_ ((C _ A g h).out d M a w sim);rintro e E D ⟨n,i,v,k,u,o⟩;cases e with
    |goto l=>trivial
    |_=>exact⟨n,i,v,k,u,o⟩
  |label l=>intro Q A g h;exact⟨λd M a w sim=>wpIn_label ⟨A,g,M,h,sim,Chg.refl _ _⟩⟩
  |goto l=>intro Q A g h;exact h.elim
  |ret=>intro Q A g h;exact⟨λd M a w sim=>wpIn_ret ⟨A,g,M,h,sim,Chg.refl _ _⟩⟩
  |refuse s=>intro Q A g h;exact h.elim
def Px(c:Cfg)(A:Fr)(a:Store):List ResultVar->(List AV->Prop)->Prop
  |[],K=>K []
  | .tmp t::rest,K=>match A.t t with
    |.av x=>Px c A a rest λl=>K (x::l)
    |_=>False
  |.cell p t::rest,K=>optK (c.I t) λi=>Sf A.bx a (A.t p) λl=>optK (Fk i l) λx=>Px c A a rest λl=>K (x::l)
def zbr:List AV->AV
  |[x]=>x
  |l=>.tup l
def V6(c:Cfg)(d:List ResultVar)(R:Ja)(A:Fr)(b:Store):Prop:=
  Px c A b d λl=>∃r a,AV.le (zbr l) r/\b.Has a/\R r a
def ip(c:Cfg)(a:List ResultVar)(R:Ja):Exit->Fr->Store->Prop
  |.normal=>V6 c a R
  |.ret=>V6 c a R
  |_=>λ_ _=>False
def dt(a:List AV)(i:Nat):LV:=
  match a,i with
  |[],_=>.und
  |x::_,0=>.av x
  |_::l,i+1=>dt l i
def Cj(a:List AV):Fr:=⟨dt a,λ_=>Θ⟩
theorem rc(a:List AV)(i:Nat):dt a i=match a[i]? with|some x=>.av x|none=>.und:=by
  induction a generalizing i with
  |nil=>rfl
  | cons x l b=>
    cases i with
    |zero=>rfl
    |succ i=>simp[dt,b]
def zbs(G:qf P c.I){w:World}{T:BB}{β:Nat->Nat}{A:Fr}{y:Store}{a:Act}(k:Env w T β A.ev A.bx y a.eval):∀(f:List ResultVar) (K:List AV->Prop),Px c A y f K->
    ∃l e,K l/\(f.mapM (m:=Sem) λ|.tmp t=>pure (a.tmps.getD t undef)|.cell p t=>do loadVar t (<-asAddr (a.tmps.getD p undef))).run P w=.ok e w/\Reads w T l e:=by
  intro f;induction f with
  |nil=>intro K h;exact⟨[],[],h,φ,Reads.nil⟩
  | cons r f z=>
    intro K h;cases r with
    | tmp t=>
      simp only[Px]at h;split at h
      . rename_i x g
        obtain⟨l,e,u,H,o⟩:=z _ h;refine⟨x::l,a.tmps.getD t undef::e,u,θh,Reads.cons ?_ o⟩;have:=k.ev (.tmp t);simp only[Fr.ev,g]at this;exact this
      grind
    | cell p t=>
      obtain⟨i,E,h⟩:=zv h;obtain⟨M,d,_,D⟩:=zha h;obtain⟨x,g,d⟩:=zv d;obtain⟨b,off,C,n⟩:=D w T β a.eval k _ (k.ev (.tmp p));obtain⟨v,L,j⟩:=zd4 (G _ _ E) n g;obtain⟨l,e,u,H,o⟩:=z _ d;have B:a.tmps.getD p undef=.pointer (Δ ⟨b,off,Θ⟩):=C;refine⟨x::l,v::e,u,?_,Reads.cons j o⟩;grind[asAddr,Sem.run_bind,Sem.run_pure,Result.andThen_ok]
def yiu{w:World}{T:BB}{l:List AV}{a:List Value}(h:Reads w T l a):VRel w T (zbr l) (if h:a.toArray.size=1 then a.toArray[0]else .tuple a.toArray):=by
  obtain⟨d,b⟩:=h
  match l,a,d with
  |[x],[v],_=>exact b 0 x v rfl rfl
  |[],[],_=>exact Ah ⟨rfl,b⟩
  | x::y::l,u::v::a,d=>
    exact Ah ⟨Z,Z⟩
def Ia(w:World)(b:Nat)(o:Obj):World:={w with heap:=w.heap.setIfInBounds b o}
def yke{w:World}{b:Nat}{o:Obj}(h:b<w.heap.size):(Ia w b o).heap[b]?=Δ o:=by simp[Ia,h]
theorem lb{w:World}{b k:Nat}{o:Obj}(h:k≠b):(Ia w b o).heap[k]?=w.heap[k]?:=by simp_all[Ia,Ne.symm]
def ykd{w:World}{b:Nat}{o:Obj}:(Ia w b o).heap.size=w.heap.size:=by simp[Ia]
def ygi{w:World}{b:Nat}(h:w.heap[b]?=Δ (.deferred (Δ []))):(Instr.takeDeferred b).run P w=.ok [] (Ia w b (.deferred Θ)):=by simp_all[Instr.takeDeferred,getObj,setObj,Sem.run,Ia]
structure Shut(Oth M:BB)(w w':World):Prop where
  size:w'.heap.size=w.heap.size
  blk:∀b,w'.heap[b]?=w.heap[b]?\/(w.heap[b]?=Δ (.deferred (Δ []))/\w'.heap[b]?=Δ (.deferred Θ)/\∀o,¬M b o/\¬Oth b o)
  tape:w'.tape=w.tape
  os:w'.os=w.os
  output:w'.output=w.output
def Shut.keeps{Oth M:BB}{w a:World}(h:Shut Oth M w a)(T:BB):Keeps w T a T where
  cell b o c d _:=by
    rcases h.blk b with e|⟨e,_,_⟩
    . rw[Gz e];exact d
    . simp[World.cell?,e]at d
  out _ _ _ _ f:=f
  shp b c e fr i:=by
    rcases h.blk b with g|⟨g,_,_⟩
    . grind
    grind
def Shut.sto{a M:BB}{w g:World}{i:Store}(h:Shut a M w g)(s:StoreOK i a M w):StoreOK i a M g where
  obj b x j:=by
    have f:=s.obj b x j;refine⟨ObjRel.same f.1 (h.keeps _) ?_,f.2⟩;rcases h.blk b with e|⟨_,_,e⟩
    . exact e
    simp_all
  tok b top k:=by
    obtain⟨c,e,u,f,t,p,n⟩:=s.tok b top k;rcases h.blk b with l|⟨l,_,_⟩
    . grind
    grind
  mlt b o d:=by rw[h.size];exact s.mlt b o d
  olt b o d:=by rw[h.size];exact s.olt b o d
  dis:=s.dis
def ym3{Oth M:BB}{fn:Func}{tmps:Array Value}{R:Ending->World->Prop}:∀(ds:List Deferred) (w:World),Marks Oth M w ds->
    (∀w',Shut Oth M w w'->∃v,(results fn tmps).run P w'=.ok v w'/\R (.returned v) w')->LeavesInM Fence.wide 0 P fn tmps R ds .returning w:=by
  intro ds;induction ds with
  |nil=>intro w _ h;exact h w ⟨rfl,λ_=>.inl rfl,rfl,rfl,rfl⟩
  | cons d ds ih=>
    intro w hm h;obtain⟨D,rfl,h1,h2⟩:=hm.all d (Fbn);have hnd:=Fc1.1 hm.nd;refine⟨φ,.inl ⟨D,Ia w D (.deferred Θ),rfl,ygi h1,ih _ ⟨hnd.2,λd' hd'=>?_⟩ λw' hs=>h w' ?_⟩⟩
    . obtain⟨D',e,h3,h4⟩:=hm.all d' (Fba _ hd')
      grind[lb]
    . refine⟨hs.size.trans ykd,λb=>?_,hs.tape,hs.os,hs.output⟩
      by_cases hb:b=D
      . subst hb
        refine .inr ⟨h1,?_,h2⟩;rcases hs.blk b with e|⟨e,_,_⟩
        . rw[e];exact yke (Ho h1)
        omega
      . rcases hs.blk b with e|⟨e,e2,e3⟩
        . exact .inl (e.trans (lb hb))
        grind[lb]
def Hh(a M:BB)(w:World):Nat->Nat->Prop:=λb o=>a b o\/(b<w.heap.size/\¬M b o/\∀c e d,w.heap[b]?=Δ (.cells c e d)->c.size<=o)
def zcp{a M:BB}(w:World):Keeps w (λb o=>M b o\/a b o) w (λb o=>M b o\/Hh a M w b o) where
  cell _ _ _ h _:=h
  out b o v d f:=by
    rintro(h|h|⟨_,_,h⟩)
    . grind
    . grind
    grind[World.cell?]
  shp b c e fr h:=⟨c,fr,h,rfl⟩
def ykx{a M:BB}{w:World}{d:Store}(s:StoreOK d a M w):StoreOK d (Hh a M w) M w where
  obj b x e:=⟨ObjRel.same (s.obj b x e).1 (zcp w) rfl,(s.obj b x e).2⟩
  tok:=s.tok
  mlt:=s.mlt
  olt b o h:=h.elim (s.olt b o) λh=>h.1
  dis b o h:=h.elim (s.dis b o) λh=>h.2.1
def yky{a M:BB}{w:World}{u:Store}{R:Ja}{r:AV}{v:Value}{i:Store}{M':BB}{n g:World}(s:StoreOK u a M w)(D:R r i)(C:VRel g (λb o=>M' b o\/Hh a M w b o) r v)
    (sto:StoreOK i (Hh a M w) M' n) (f:Chg M w M' n) (d:Shut (Hh a M w) M' n g):xg u R a M w v g:=by
  have y:∀b o,(M' b o\/a b o)->(M' b o\/Hh a M w b o):=λb o h=>h.imp id .inl;have sto':=d.sto sto;refine⟨r,i,M',D,C.mono y,⟨λb x p=>⟨(sto'.obj b x p).1.mono y,(sto'.obj b x p).2⟩,sto'.tok,sto'.mlt,λb o h=>sto'.olt b o (.inl h),λb o h=>sto'.dis b o (.inl h)⟩,?_⟩;refine{size:=by rw[d.size];exact f.size,keep:=λb o k j=>?_,blk:=λb k j=>?_,shp:=λb c e z B=>?_,sub:=f.sub,tape:=d.tape.trans f.tape,os:=d.os.trans f.os,output:=d.output.trans f.output}
  . rw[<-f.keep b o k j]
    rcases d.blk b with e|⟨e,E,_⟩
    . exact Gz e o
    . simp[World.cell?,e,E]
  . rcases d.blk b with e|⟨_,_,e⟩
    . exact e.trans (f.blk b k j)
    . exfalso
      cases p:w.heap[b]? with
      | none=>
        grind
      | some x=>
        cases x with
        |cells c I z=>exact(e c.size).2 (.inr ⟨k,j _,λA t l h=>δ⟩)
        |_=>exact(e 0).2 (.inr ⟨k,j _,λA t l h=>δ⟩)
  . obtain⟨A,l,H,G⟩:=f.shp b c e z B
    rcases d.blk b with t|⟨t,_,_⟩
    . grind
    grind
def ACalls.of_awp (hI : qf P c.I) {g : FuncId} {fn : Func} {u : Code} {d : List AV} {G : Store} {R : Ja} (W : P.funcs[g]? = Δ fn) (hb : fn.body = Δ u) (H : (fn.name == "runtime.NumGoroutine") = false)
    (hn:fn.ntmps=c.n) (C:Nat.ble (Γ d) c.n=true) (h:AWp P c u (ip c fn.results.toList R) (Cj d) G) (p:c.round=Θ:=by rfl) (S:c.D0=[]:=by rfl):ACalls P g d G R:=by
  refine⟨λOth M w j sto L=>?_⟩;have hrun:(callFunc g j).run P w=.ok (.enter g j) w:=θ5;rw[hrun];have hF:c.F=Fence.wide:=by unfold Cfg.F;rw[p];rfl
  refine(callsIn_wide (n:=0)).1 (callsIn_of_wp_marks W hb trivial ?_);have V:Γ d<=c.n:=Fbp C;have U:j.size=Γ d:=by simpa using L.1.symm
  let a:Act:={tmps:=j++Array.replicate (fn.ntmps-j.size) undef,defers:=[]}
  have sim:SimB c.N (Hh Oth M w) (λ_=>0) (Cj d) G M a w:=
    { tsz:=by show Array.size _=c.n;grind
      dfr:=MarksD.nil S
      tm:=λi=>by
        simp only[Cj,rc,a];rw[Fbf];by_cases Q:i<j.size
        . rw[Fdk Q,Fac Z]
          exact(L.2 i _ _ (Fac Z) (by simp[Q])).keep (zcp w)
        grind[LRel]
      bx:=λk l D=>by trivial
      inj:=λk k' D=>by trivial
      sep:=λk b D=>by trivial
      sto:=ykx sto}
  have h2:=h.out (Hh Oth M w) M a w ⟨_,sim⟩;rw[hF]at h2;refine Code.wpF_mono ?_ h2
  have fin:∀t w' z f y,V6 c fn.results.toList R z f->Sim c.N (Hh Oth M w) z f y t w'->Chg M w y w'->
      LeavesInM Fence.wide 0 P fn t.tmps (λe w'=>∃v,e=.returned v/\xg G R Oth M w v w') t.defers .returning w':=by
    rintro t w' z f y B ⟨β,s⟩ E;refine ym3 t.defers w' (s.dfr.out S) λA hs=>?_;have hblk:∀b o,y b o->A.heap[b]?=w'.heap[b]?:=λb o hm=>by
      rcases hs.blk b with e|⟨_,_,e⟩
      . exact e
      grind
    have X:Env A (λb o=>y b o\/Hh Oth M w b o) β z.ev z.bx f t.eval:=
      ⟨λx=>(s.ev x).keep (hs.keeps _),λk l D=>(s.bx k l D).1.same (hs.keeps _) (hblk _ 0 ((s.bx k l D).2 0)),λb x T=>((hs.sto s.sto).obj b x T).1⟩
    obtain⟨l,j,⟨r,K,h1,h2,h3⟩,h4,h5⟩:=zbs hI X _ _ B;refine⟨_,?_,_,rfl,yky sto h3 (h1 _ _ _ (yiu h5)) (s.sto.weaken h2) E hs⟩;unfold results;rw[Sem.run_bind,Feh,Sem.run_map];exact congrArg (λr=>(Result.andThen (Result.andThen r λl w=>.ok l.toArray w) λ(j:Array Value) w'=>.ok (if h:j.size=1 then j[0]else .tuple j) w')) h4
  rintro e t w' ⟨z,f,y,h1,h2,h3⟩;cases e with
  |normal=>exact fin t w' z f y h1 h2 h3
  |ret=>exact fin t w' z f y h1 h2 h3
  |_=>trivial
def Qb (p : qf P c.I) {g : FuncId} {i : Func} {d : Code} {a : List AV} {j : Store} {R : Ja} (l : P.funcs[g]? = Δ i) (h : AWp P c d (ip c i.results.toList R) (Cj a) j) (o : i.body = Δ d := by rfl) (e : (i.name == "runtime.NumGoroutine") = false := by rfl) (k : i.ntmps = c.n := by rfl) (f : Nat.ble (Γ a) c.n = true := by rfl) (b : c.round = Θ := by rfl) (t : c.D0 = [] := by rfl): ACalls P g a j R := ACalls.of_awp p l o e k f h b t
def ACalls.of_body (k : qf P c.I) {g : FuncId} {i : Func} {a : Code} {b : List AV} {j : Store} {R : Ja} (o : P.funcs[g]? = Δ i) (p : i.body = Δ a) (e : (i.name == "runtime.NumGoroutine") = false)
    (l:i.ntmps=c.n) (f:Nat.ble (Γ b) c.n=true) (h:vc P c a (ip c i.results.toList R) (Cj b) j) (d:c.round=Θ:=by rfl) (t:c.D0=[]:=by rfl):ACalls P g b j R:=
  ACalls.of_awp k o p e l f (ew k a _ _ j h) d t
def Qa (p : qf P c.I) {g : FuncId} {i : Func} {d : Code} {a : List AV} {j : Store} {R : Ja} (l : P.funcs[g]? = Δ i) (h : vc P c d (ip c i.results.toList R) (Cj a) j) (o : i.body = Δ d := by rfl) (e : (i.name == "runtime.NumGoroutine") = false := by rfl) (k : i.ntmps = c.n := by rfl) (f : Nat.ble (Γ a) c.n = true := by rfl) (b : c.round = Θ := by rfl) (t : c.D0 = [] := by rfl): ACalls P g a j R := ACalls.of_body p l o e k f h b t
def Gm(l:List (Nat×LV))(i:Nat):LV:=
  match l with
  |[]=>.any
  |(j,x)::l=>bif Nat.beq i j then x else Gm l i
def L9(l:List (Nat×List AV))(i:Nat):Option (List AV):=
  match l with
  |[]=>Θ
  |(j,x)::l=>bif Nat.beq i j then Δ x else L9 l i
def Ib(l:List (Nat×LV))(b:List (Nat×List AV)):Fr:=⟨Gm l,L9 b⟩
def Ol(A:Fr):List (Nat×LV)->Prop
  |[]=>True
  |(j,x)::l=>LV.le (A.t j) x/\Ol A l
def Om(A:Fr):List (Nat×List AV)->Prop
  |[]=>True
  |(j,x)::l=>A.bx j=Δ x/\Om A l
def yqj{A:Fr}:∀{l:List (Nat×LV)},Ol A l->∀i,LV.le (A.t i) (Gm l i):=by
  intro l;induction l with
  |nil=>intro _ i;exact LV.le_any _
  | cons p l b=>
    obtain⟨j,x⟩:=p;intro h i;simp only[Gm];by_cases a:i=j
    . subst a;simp only[Fbu,cond_true];exact h.1
    . simp only[qp a,cond_false];exact b h.2 i
def yqk{A:Fr}:∀{l:List (Nat×List AV)},Om A l->∀i x,L9 l i=Δ x->A.bx i=Δ x:=by
  intro l;induction l with
  |nil=>intro _ i x h;trivial
  | cons p l ih=>
    obtain⟨j,y⟩:=p;intro h i x hx;simp only[L9]at hx;by_cases hi:i=j
    . subst hi;simp only[Fbu,cond_true]at hx;rw[<-hx];exact h.1
    . simp only[qp hi,cond_false]at hx;exact ih h.2 i x hx
theorem Sim.fits{n:SN}{g M:BB}{A:Fr}{u d:Store}{a:Act}{w:World}(h:Sim n g A u M a w){l:List (Nat×LV)}{b:List (Nat×List AV)}(y:Ol A l)(f:Om A b)(o:u.Has d):Sim n g (Ib l b) d M a w:=by
  obtain⟨β,s⟩:=h;have t:∀k x,L9 b k=Δ x->A.bx k=Δ x:=yqk f;have e:∀k,L9 b k≠Θ->A.bx k≠Θ:=λk j=>by
    cases C:L9 b k with
    |none=>grind
    |some x=>grind
  exact⟨β,
    { tsz:=s.tsz
      dfr:=s.dfr
      tm:=λi=>yqj y i _ _ _ _ (s.tm i)
      bx:=λk x j=>s.bx k x (t k x j)
      inj:=λk v B z=>s.inj k v (e k B) (e v z)
      sep:=λk b j f=>s.sep k b (e k j) (by
        rcases f with f|f
        . cases p:d.obj b with
          |none=>grind
          |some x=>exact .inl (by rw[o.obj b x p];simp)
        . cases p:d.tok b with
          |none=>grind
          |some x=>exact .inr (by rw[o.tok b x p];simp))
      sto:=s.sto.weaken o}⟩
def AWp.weaken{d:Code}{Q:Exit->Fr->Store->Prop}{A:Fr}{i e:Store}{l:List (Nat×LV)}{b:List (Nat×List AV)}(h:AWp P c d Q (Ib l b) e)(j:Ol A l)(n:Om A b)(k:i.Has e):AWp P c d Q A i:=
  ⟨λg M a w f=>h.out g M a w (f.fits j n k)⟩
structure LoopHead(σ:Type) where
  t:σ->List (Nat×LV)
  bx:σ->List (Nat×List AV)
  inv:σ->Store->Prop
  μ:σ->Nat
def LoopHead.at{σ:Type}(H:LoopHead σ)(A:Fr)(a:Store)(p:σ->Prop):Prop:=
  ∃s,p s/\H.inv s a/\Ol A (H.t s)/\Om A (H.bx s)
def zbh{σ:Type}(H:LoopHead σ)(s:σ)(Q:Exit->Fr->Store->Prop):Exit->Fr->Store->Prop
  |.normal=>λA a=>H.at A a λb=>H.μ b<H.μ s
  |e=>Q e
def AWp.loop{σ:Type}(H:LoopHead σ){b:Code}{Q:Exit->Fr->Store->Prop}{A:Fr}{h:Store}(X:qf P c.I)(h0:H.at A h λ_=>True)
    (i:∀s h,H.inv s h->vc P c b (zbh H s Q) (Ib (H.t s) (H.bx s)) h):AWp P c (.loop b) Q A h:=by
  obtain⟨L,_,B,v,D⟩:=h0;refine⟨λk M a w u=>?_⟩
  refine wpIn_loop_ghost (λn G o=>∃s f p,H.μ s=n/\H.inv s f/\Sim c.N k (Ib (H.t s) (H.bx s)) f p G o/\Chg M w p o) (H.μ L)
    ⟨L,h,M,rfl,B,u.fits v D (Store.Has.refl h),Chg.refl M w⟩ ?_
  rintro n G o ⟨s,f,p,rfl,W,j,g⟩;refine Code.wpF_mono ?_ ((ew X b _ _ f (i s f W)).out k p G o j);rintro e ε V ⟨K,d,l,U,T,S⟩;cases e with
  | normal=>
    obtain⟨R,z,C,y,E⟩:=U;exact⟨H.μ R,z,R,d,l,rfl,C,T.fits y E (Store.Has.refl d),g.trans S⟩
  |_=>exact⟨K,d,l,U,T,g.trans S⟩
end
section
variable {P:Program} {c:Cfg}
def AWp.of_vc(d:qf P c.I){a:Code}{Q:Exit->Fr->Store->Prop}{A:Fr}{b:Store}(h:vc P c a Q A b):AWp P c a Q A b:=ew d a Q A b h
def AWp.seq{x y:Code}{Q:Exit->Fr->Store->Prop}{A:Fr}{k:Store}(h:AWp P c x (Vj (AWp P c y Q) Q) A k):AWp P c (.seq x y) Q A k:=by
  refine⟨λd M a w g=>wpIn_seq ?_⟩;refine Code.wpF_mono ?_ (h.out d M a w g);rintro e D u ⟨E,f,p,o,n,l⟩;cases e with
  | normal=>
    refine Code.wpF_mono ?_ ((AWp.out o) d p D u n);rintro e C t ⟨j,b,i,B,z,v⟩;exact⟨j,b,i,B,z,l.trans v⟩
  |_=>exact⟨E,f,p,o,n,l⟩
theorem AWp.block{id:Nat}{b:Code}{Q:Exit->Fr->Store->Prop}{A:Fr}{j:Store}(h:AWp P c b (W9 id Q) A j):AWp P c (.block id b) Q A j:=by
  refine⟨λi M a w g=>wpIn_block ?_⟩;refine Code.wpF_mono ?_ (h.out i M a w g);rintro e u t ⟨p,f,o,d,n,l⟩;cases e with
  | exit id'=>
    simp only[W9]at d;simp only[Exit.inBlock];by_cases k:id'=id
    . subst k
      simp only[Fbu,cond_true]at d;grind
    . simp only[qp k,cond_false]at d
      grind
  |_=>exact⟨p,f,o,d,n,l⟩
structure Meet(σ:Type) where
  t:σ->List (Nat×LV)
  bx:σ->List (Nat×List AV)
  inv:σ->Store->Prop
def Meet.at{σ:Type}(H:Meet σ)(A:Fr)(a:Store):Prop:=∃s,H.inv s a/\Ol A (H.t s)/\Om A (H.bx s)
def AWp.meet{σ:Type}(H:Meet σ)(g:qf P c.I){x y:Code}{Q:Exit->Fr->Store->Prop}{A:Fr}{b:Store}(f:vc P c x (Vj H.at Q) A b)
    (d:∀s a,H.inv s a->AWp P c y Q (Ib (H.t s) (H.bx s)) a):AWp P c (.seq x y) Q A b:=by
  refine AWp.seq ((AWp.of_vc g f).mono λe l a h=>?_);cases e with
  | normal=>
    obtain⟨s,k,j,i⟩:=h;exact AWp.weaken (d s a k) j i (Store.Has.refl a)
  |_=>exact h
end
section
variable {P:Program}
def ot(P:Program)(t:TypeId):Bool:=
  !P.stoodInHeld t && !P.eqGuardType P.depth t && (match P.underlying t with | some (.struct fs) => fs.toList.all fun f => f.name != "_" | _ => true)
def eh(z:Value)(d:Ty):Bool:=match z with|.agg _=>Dn d|_=> !Dn d
def infoOf(P:Program)(t:TypeId)(a:Bool):Option TI:=
  match P.info? t,P.underlying t with
  | some inf,Δ d=>match inf.zero with
    |some z=>bif Nat.beq (Γ z.cells.toList) inf.size&&(!a||ot P t)&&eh z (Da d)then Δ {ty:=Da d,size:=inf.size,bytes:=inf.bytes,zero:=z.cells.toList,eq:=a}else Θ
    |none=>Θ
  |_,_=>Θ
def yns{t:TypeId}{j:Bool}{i:TI}(h:infoOf P t j=Δ i):TIok P t i:=by
  unfold infoOf at h;split at h
  . rename_i inf d hinf k
    split at h
    . rename_i z f
      cases c:(Nat.beq (Γ z.cells.toList) inf.size&&(!j||ot P t)&&eh z (Da d))with
      |false=>grind
      | true=>
        rw[c]at h;simp only[cond_true,Fak]at h;subst h;simp only[Fay]at c;obtain⟨⟨n,l⟩,g⟩:=c;refine⟨⟨inf,hinf,rfl,rfl,z,f,rfl⟩,⟨d,k,rfl⟩,(Ae _ _).1 n,λe p b a=>?_,λu=>?_⟩
        . rw[hinf]at b
          cases b;rw[f]at a;cases a;cases z with
          |agg o=>exact .inl ⟨g,o,rfl⟩
          |_=>exact .inr ⟨by simpa [eh]using g,rfl⟩
        simp only[Bool.not_true,Fd7,ot,Fay,Fce]at l;grind
    . cases h
  . cases h
inductive Tr where
  |nil
  |node (k:Nat) (l:Tr) (x:TI) (r:Tr)
def Tr.get:Tr->Nat->Option TI
  |.nil,_=>Θ
  |.node k l x r,t=>bif Nat.beq t k then Δ x else bif Nat.blt t k then l.get t else r.get t
def Tr.all(P:Program):Tr->Prop
  |.nil=>True
  |.node k l x r=>infoOf P k x.eq=Δ x/\l.all P/\r.all P
theorem Tr.ok:∀(a:Tr),a.all P->qf P a.get:=by
  intro a;induction a with
  |nil=>intro _ t i h;cases h
  | node k l x r ihl ihr=>
    rintro⟨f,e,d⟩ t i h;simp only[Tr.get]at h;by_cases b:t=k
    . subst b
      simp only[Fbu,cond_true,Fak]at h;subst h;exact yns f
    . simp only[qp b,cond_false]at h
      cases c:Nat.blt t k with
      |true=>rw[c]at h;exact ihl e t i h
      |false=>rw[c]at h;exact ihr d t i h
inductive Tr2 where
  |nil
  |node (l:Tr2) (x:Option TI) (r:Tr2)
def Tr.look(P:Program):Tr->Tr2
  |.nil=>.nil
  |.node k l x r=>.node (l.look P) (infoOf P k x.eq) (r.look P)
def Tr.vals:Tr->Tr2
  |.nil=>.nil
  |.node _ l x r=>.node l.vals (Δ x) r.vals
def Tr.of_look:∀(t:Tr),t.look P=t.vals->t.all P
  |.nil,_=>True.intro
  | .node k l x r,h=>by simp only[Tr.look,Tr.vals,Tr2.node.injEq]at h;exact⟨h.2.1,Tr.of_look l h.1,Tr.of_look r h.2.2⟩
end
section
variable {st st':Store} {k:Nat} {v:AV}
def App(k:Nat)(st:Store)(v:AV)(rows:List (List AV))(st':Store):Prop:=
  (v=.s (.slice Θ 0 0)/\rows=[]/\st'=st)\/Owned k st v rows st'
def App.start(k:Nat)(st:Store):App k st (.s (.slice Θ 0 0)) [] st:=.inl ⟨rfl,rfl,rfl⟩
theorem yaz{b:Nat}{x:Option Nat}(h:st.tok b=Θ):(st.sT b x).sT b Θ=st:=by
  unfold Store.sT
  congr
  grind[qp]
theorem App.has{rows:List (List AV)}(h:App k st v rows st'):st'.Has st:=by
  rcases h with⟨_,_,rfl⟩|⟨_,_,rfl⟩|⟨_,b,a,_,rfl⟩
  . exact Store.Has.refl _
  . exact Store.Has.refl _
  . refine⟨λ_ _ h=>h,λi x h=>?_⟩
    have:i≠b:=λe=>by rw[e,a.2]at h;cases h
    simpa [Store.sT,qp this]using h
def App.le{rows:List (List AV)}(h:App k st v rows st'):AV.le v (.lst k rows Θ):=by
  rcases h with⟨rfl,rfl,_⟩|⟨rfl,rfl,_⟩|⟨_,b,d,rfl,_⟩
  . exact AV.le_nil k
  . intro w T v h
    cases h with
    | emp a h=>
      cases a with
      |none=>exact .nil k Θ
      | some a=>
        obtain⟨b,off,c⟩:=a;simp_all[VRel.empty]
  . exact AV.le_tok _ _ _
def Af{c:Cfg}{e:TypeId}{ie:TI}{x:LV}{K:Ja}{rows rows':List (List AV)}(h:App ie.size st v rows st')(hie:c.I e=Δ ie)(hx:vw ie.size x=Δ rows')
    (hroom:room (Γ rows+Γ rows') ie.bytes) (hK:∀v2 st2,App ie.size st v2 (rows++rows') st2->K v2 st2) {P:Program} (hp:Nat.blt 0 ie.size=true:=by rfl):appendK P c st' e (.av v) x K:=by
  refine⟨.inl (J ie hie ?_)⟩;rcases h with⟨rfl,rfl,rfl⟩|⟨rfl,rfl,rfl⟩|⟨hne,b,hb,rfl,rfl⟩
  . exact J rows' hx ⟨δ,λv st2 ho=>hK v st2 (.inr δ)⟩
  . exact J rows' hx ⟨δ,λv st2 ho=>hK v st2 (.inr δ)⟩
  . show(bif Nat.beq ie.size ie.size&&Nat.blt 0 ie.size then _ else False)
    rw[Fbu,hp,Fdr];refine J rows' hx ⟨by simp[Store.sT],δ,λv st2 ho=>hK v st2 (.inr ?_)⟩
    rwa [yaz hb.2]at ho
end
section
variable {P:Program} {c:Cfg}
theorem Wy{ev ev':Operand->LV}{l:List Operand}(h:∀x∈l,ev' x=ev x):
    (l.mapM λx=>(ev' x).toAV)=(l.mapM λx=>(ev x).toAV):=by
  induction l with
  |nil=>rfl
  | cons a l b=>
    grind
theorem yk3{ev a:Operand->LV}{x:Option Operand}(h:∀y∈x.toArray,a y=ev y):Hi a x=Hi ev x:=by
  cases x with
  |none=>rfl
  |some y=>simp only[Hi];grind
def si{ev:Operand->LV}{e:Nat->Option (List AV)}{b:Store}{d:Nat}{a:Op}{K f:LV->Prop}(i:qf P c.I)(k:∀x,K x->f x)(h:vcV c ev e b d a K):vcV c ev e b d a f:=by obtain⟨x,j,g,_⟩:=fa i a h;grind
def sj{ev g:Operand->LV}{C:Nat->Option (List AV)}{A:Store}{d:Nat}{o:Op}{K:LV->Prop}(h:∀x∈o.operands,g x=ev x)(j:vcV c ev C A d o K):vcV c g C A d o K:=by
  cases o<;>simp only[Op.operands]at h<;>first|exact j|skip
  case move x=>simp_all[vcV]
  case assign x=>simp_all[vcV]
  case pick a b e=>simp_all[vcV]
  case load t x=>simp_all[vcV]
  case nilCheck x=>simp_all[vcV]
  case binOp o t x y yt=>simp_all[vcV]
  case unOp o t x=>simp_all[vcV]
  case convert s t x=>simp_all[vcV]
  case fieldAddr s x f=>simp_all[vcV]
  case field s x f=>simp_all[vcV]
  case indexAddr t x i=>simp_all[vcV]
  case index t x i=>simp_all[vcV]
  case extract x i=>simp_all[vcV]
  case slice t x lo v mx=>
    simp_all[vcV,yk3]
  case build t ps=>
    simp only[vcV]at j⊢;have e:(ps.toList.map λp=>(p.1,g p.2))=(ps.toList.map λp=>(p.1,ev p.2)):=Fbw λp E=>δ
    rwa [e]
  case makeFunc f first cap=>
    cases f<;>simp only[vcV]at j⊢<;>try exact j
    have e:first.toList.mapM (λx=>(g x).toV)=first.toList.mapM λx=>(ev x).toV:=by
      have:∀l:List Operand,(∀x∈l,g x=ev x)->l.mapM (λx=>(g x).toV)=l.mapM λx=>(ev x).toV:=λl=>by
        induction l with
        |nil=>intro _;rfl
        |cons a l D=>intro B;rw[List.mapM_cons,List.mapM_cons,B a φ,D λx hx=>B x (by simp[hx])]
      exact this _ λx hx=>h x (by simp;exact .inl θp)
    rwa [Wy (ev:=ev) (ev':=g) λx hx=>h x (by simp;exact .inr θp),e]
  case call cl=>
    obtain⟨n,k,u⟩:=cl;simp only[vcV,Lf]at j⊢;cases n with
    |value f=>exact j
    |invoke r m=>exact j
    | builtin b=>
      have w:∀x∈k,g x=ev x:=λx hx=>h x (by simp[Call.operands,hx]);cases b<;>simp only at j⊢<;>try exact j
      case len=>
        obtain⟨t,z,j⟩:=zv j;obtain⟨i,v,j⟩:=zv j;obtain⟨x,hx,j⟩:=zv j;refine J t z (J i v (J x hx ?_))
        rwa [w x (Fd4 hx)]
      case cap=>
        obtain⟨t,z,j⟩:=zv j;obtain⟨i,v,j⟩:=zv j;obtain⟨x,hx,j⟩:=zv j;refine J t z (J i v (J x hx ?_))
        rwa [w x (Fd4 hx)]
      case min=>rwa [show k.toList.map g=k.toList.map ev from Fbw λx hx=>w x θp]
      case max=>rwa [show k.toList.map g=k.toList.map ev from Fbw λx hx=>w x θp]
def Nv:Op->Bool
  |.load ..=>false
  |.call cl=>match cl.callee with|.builtin .min=>true|.builtin .max=>true|_=>false
  |_=>true
def sh{ev:Operand->LV}{bx bx':Nat->Option (List AV)}{l i:Store}{d:Nat}{g:Op}{K:LV->Prop}(j:Nv g=true)(h:vcV c ev bx l d g K):vcV c ev bx' i d g K:=by
  cases g<;>first|exact h|skip
  case load t x=>simp[Nv]at j
  case call cl=>
    obtain⟨a,k,e⟩:=cl;cases a with
    |value f=>exact h
    |invoke r m=>exact h
    |builtin b=>cases b<;>simp[Nv]at j<;>exact h
def bsK(c:Cfg)(ev:Operand->LV)(t:TypeId)(n:Nat)(a:Array (Nat×Operand))(K:LV->Prop):Prop:=
  optK (c.I t) λi=>match i.ty with
    | .slice e=>optK (c.I e) λie=>optK (Kj ie.size n (List.replicate n (Co ie)) (a.toList.map λp=>(p.1,ev p.2))) λrows=>
      bif rows.flatten.all AV.one then n*ie.size<=16777216/\(match rows with
        |[]=>K (.av .emp)
        |_::_=>K (.av (.lst ie.size rows Θ)))else False
    |_=>False
def vcW(c:Cfg)(ev:Operand->LV)(e:Nat->Option (List AV))(b:Store)(d:Nat)(a:Op)(K:LV->Prop):Prop:=
  match a with
  |.buildSlice t n parts=>bsK c ev t n parts K
  |a=>vcV c ev e b d a K
def zhl{ev:Operand->LV}{t:TypeId}{n:Nat}{a:Array (Nat×Operand)}{K:LV->Prop}(h:bsK c ev t n a K):
    ∃ (i ie:TI) (e:TypeId) (rows:List (List AV)) (x:LV),c.I t=Δ i/\i.ty=.slice e/\c.I e=Δ ie/\Kj ie.size n (List.replicate n (Co ie)) (a.toList.map λp=>(p.1,ev p.2))=Δ rows/\rows.flatten.all AV.one=true∧
      n*ie.size<=16777216/\x=(match rows with|[]=>.av .emp|_::_=>.av (.lst ie.size rows Θ))/\K x/\∀j:LV->Prop,j x->bsK c ev t n a j:=by
  obtain⟨i,k,h⟩:=zv h;split at h
  . rename_i e f
    obtain⟨ie,g,h⟩:=zv h;obtain⟨rows,b,h⟩:=zv h;cases hone:rows.flatten.all AV.one with
    |false=>rw[hone]at h;exact h.elim
    | true=>
      rw[hone]at h;obtain⟨d,h⟩:=h;refine⟨i,ie,e,rows,_,k,f,g,b,hone,d,rfl,by cases rows<;>exact h,λj l=>?_⟩;refine J i k ?_;simp only[f];refine J ie g (J rows b ?_);rw[hone];exact⟨d,by cases rows<;>exact l⟩
  . exact h.elim
def ez{ev a:Operand->LV}{i:Nat->Option (List AV)}{f:Store}{d:Nat}{b:Op}{K:LV->Prop}(h:∀x∈b.operands,a x=ev x)(g:vcW c ev i f d b K):vcW c a i f d b K:=by
  cases b<;>first|exact sj h (show vcV c ev i f d _ K from g)|skip
  case buildSlice t n parts=>
    have e:(parts.toList.map λp=>(p.1,a p.2))=(parts.toList.map λp=>(p.1,ev p.2)):=Fbw λp j=>by rw[h p.2 (by simp[Op.operands];exact⟨p.1,by simpa using j⟩)]
    simp only[vcW]at g⊢;unfold bsK at g⊢
    rwa [e]
theorem zjt{ev:Operand->LV}{e a:Nat->Option (List AV)}{h f:Store}{d:Nat}{b:Op}{K:LV->Prop}(i:Nv b=true)(g:vcW c ev e h d b K):vcW c ev a f d b K:=by
  cases b<;>first|exact sh i (show vcV c ev e h d _ K from g)|exact g|skip
  case call cl=>exact sh (bx:=e) (bx':=a) (d:=d) i g
end
inductive Sched where
  |done
  |v (i:Nat) (r:Sched)
  |e (i:Nat) (chk:List Nat) (r alt:Sched)
  |stop
def sv:List Nat->Sched->Sched
  |[],s=>s
  |i::l,s=>.v i (sv l s)
def isV(c:Cfg)(o:Oper):Bool:=
  match o.op with
  |.alloc _=>false
  |.box _ _=>false
  |.store _ _ _=>false
  |.assign _=>false
  |.convert s t _=> !Nat.beq s t
  |.buildSlice _ _ _=>match o.dst with|some d=> !c.G.contains d|none=>false
  | .call cl=>match cl.callee with
    |.builtin .len=>true
    |.builtin .cap=>true
    |.builtin .min=>true
    |.builtin .max=>true
    |_=>false
  |.mapUpdate ..|.insert ..|.mapEntry ..|.entryStore ..|.makeMap ..|.makeSlice ..|.lookup ..|.range ..|.next ..|.entry ..|.makeInterface ..|.typeAssert ..|.select ..|.go ..|.defer ..|.panic ..|.send ..|.recv ..|.ready ..|.waits ..|.makeChan ..=>false
  |_=>true
def j8(a:Array Oper)(i:Nat):List Nat:=
  match a[i]? with
  |some o=>o.after.toList.filterMap λe=>bif Region.binds .any e then Δ e.on else Θ
  |none=>[]
def mem(i:Nat):List Nat->Bool
  |[]=>false
  |j::l=>bif Nat.beq i j then true else mem i l
theorem mem_iff(i:Nat):∀(l:List Nat),mem i l=true↔i∈l:=by
  intro l;induction l with
  |nil=>simp[mem]
  | cons j l a=>
    simp_all[mem]
def sub(l m:List Nat):Bool:=l.all λi=>mem i m
def Sm:Sched->List Nat
  |.e i _ _ alt=>i::Sm alt
  |_=>[]
def Py(b:Array Oper)(i:Nat):List Nat:=
  (List.range i).reverse.foldl (λa j=>bif mem j a then j8 b j++a else a) (j8 b i)
def R9(c:Cfg)(a:Array Oper)(i:Nat)(b L:List Nat):Bool:=
  !mem i L&&Nat.blt i a.size&&sub (j8 a i) L&&(match a[i]? with|some o=> !isV c o|none=>false)&&
  L.all λj=>mem j (Py a i)||mem j b||(match a[j]?,a[i]? with
    |some o,Δ d=> !isV c o||(Nv o.op&&(match d.op with|.alloc _=>false|.box _ _=>false|_=>true))
    |_,_=>false)
def Bm(c:Cfg)(a:Array Oper):Sched->List Nat->Bool->Bool
  |.done,L,first=>first&&(List.range a.size).all λi=>mem i L
  |.v i r,L,first=>first&&(!mem i L&&Nat.blt i a.size&&(match a[i]? with|some o=>isV c o|none=>false)&&sub (j8 a i) L&&Bm c a r (i::L) true)
  |.e i chk r alt,L,first=>R9 c a i chk L&&Bm c a r (i::L) true&&Bm c a alt L false&&
      (!first||(List.range a.size).all λj=>mem j L|| !sub (j8 a j) L||mem j (i::Sm alt))
  |.stop,_,first=> !first
def Fl(c:Cfg)(a:Array Oper):Bool:=
  (List.range a.size).all λi=>match a[i]? with
    |none=>false
    | some o=>(j8 a i).all (λj=>Nat.blt j i)&&(match o.op with|.select ..=>false|.defer ..=>false|_=>true)&&(match o.dst with
      |none=> !isV c o
      | some t=>Nat.blt t c.n&& !mem t (o.looksAt a)&&
        (List.range a.size).all λk=>Nat.beq k i||(match a[k]? with
          |none=>false
          |some b=>(match b.dst with|some d=> !Nat.beq t d|none=>true)&&(!mem t (b.looksAt a)||mem i (j8 a k)||(!isV c o&&mem k (j8 a i)))))
def Kq(c:Array Oper)(o:Oper)(A:Fr)(d a:Fr->Prop):Prop:=
  match o.guard with
  |none=>d A
  | some (j,want)=>optK ((c[j]?).bind (·.dst)) λt=>
    match A.t t with
    |.av (.s (.bool b))=>Ds b (bif want then d (A.put t (k8 true))else a (A.put t (k8 true))) (bif want then a (A.put t (k8 false))else d (A.put t (k8 false)))
    |.und=>a A
    |_=>False
def stands(c:Cfg)(a:Array Oper)(A:Fr)(b:Store)(i:Nat):Prop:=
  optK a[i]? λo=>optK o.dst λd=>Kq a o A (λA=>vcW c A.ev A.bx b d o.op λx=>x=A.t d) (λA=>A.t d=.und)
def Ll(c:Cfg)(a:Array Oper)(A:Fr)(b:Store):List Nat->Prop
  |[]=>True
  |i::l=>stands c a A b i/\Ll c a A b l
def Aw(P:Program)(c:Cfg)(a:Array Oper)(K:Fr->Store->Prop):Sched->Fr->Store->Prop
  |.done,A,b=>K A b
  |.v i r,A,b=>optK a[i]? λo=>optK o.dst λd=>
      Kq a o A (λA=>vcW c A.ev A.bx b d o.op λx=>Aw P c a K r (A.put d x) b) (λA=>Aw P c a K r (A.put d .und) b)
  |.e i chk r alt,A,b=>(optK a[i]? λo=>
      Kq a o A (λA=>Ff P c o (λg f=>Ll c a g f chk/\Aw P c a K r g f) A b)
        (λA=>xz A c.n o.dst .und λg=>Ll c a g b chk/\Aw P c a K r g b))/\Aw P c a K alt A b
  |.stop,_,_=>True
end Go.V
