/- Ground of laws of thronglaw25: contracts and plain lemmas; no condition beyond the row's own. -/
import Derived.Laws.Append
import Derived.Tactics
import Derived.Test.YtdfpifbbcigelaaGreatKA
set_option linter.unusedSimpArgs false
set_option linter.unusedVariables false
namespace Go.V
section
variable {P:Program} {st:Store} {w:World} {A:Fr}
theorem Rq{c:Cfg}{ev:Operand->LV}{bx:Nat->Option (List AV)}{d:Nat}{K:LV->Prop}(hI:yp P c.I)(op:Op)(h:vcV c ev bx st d op K):wd P c ev bx st d op K:=by
  cases op with
  |move x=>exact ybq x h
  |assign x=>exact yb2 x h
  |pick a b e=>exact ybo a b e h
  |nilCheck x=>exact ybp x h
  |binOp op t x y yt=>exact yb1 hI op t x y yt h
  |unOp op t x=>exact ybl op t x h
  |convert s t x=>exact yby hI s t x h
  |load t a=>exact ybs hI t a h
  |fieldAddr s x f=>exact ybv hI s x f h
  |field s x f=>exact ybw hI s x f h
  |indexAddr t x i=>exact ybt hI t x i h
  |index t x i=>exact ybu hI t x i h
  |slice t x lo hi mx=>exact ybm hI t x lo hi mx h
  |extract x i=>exact ybx x i h
  |build t ps=>exact yb0 hI t ps h
  |makeFunc f a b=>exact ybr f a b h
  |call cl=>exact ybz hI cl h
  |_=>exact h.elim
def qn(st:Store)(R:Ja)(Oth M:Nat->Nat->Prop)(w:World)(v:Value)(w':World):Prop:=
  ∃r st' M',R r st'/\VRel w' (λb o=>M' b o\/Oth b o) r v/\StoreOK st' Oth M' w'/\Chg M w M' w'
def Ms(P:Program)(R:Value->World->Prop):Result Next->Prop
  |.ok (.enter f args) w=>Calls P f args w λe w'=>∃v,e=.returned v/\R v w'
  |.ok (.value v) w=>R v w
  |_=>False
structure ACalls(P:Program)(f:FuncId)(args:List AV)(st:Store)(R:Ja):Prop where
  out:∀(Oth M:Nat->Nat->Prop) (w:World) (vs:Array Value),StoreOK st Oth M w->Reads w (λb o=>M b o\/Oth b o) args vs.toList->
    Ms P (qn st R Oth M w) ((callFunc f vs).run P w)
def Fresh(st:Store)(b:Nat):Prop:=st.obj b=none/\st.tok b=none
def Owned(k:Nat)(st:Store)(v:AV)(rows:List (List AV))(st':Store):Prop:=
  (v=.emp/\rows=[]/\st'=st)\/(rows≠[]/\∃b,Fresh st b/\v=.lst k rows (some b)/\st'=st.sT b (some (rows.length*k)))
def vi(k:Nat)(x:LV):Option (List (List AV)):=
  match x with
  |.av (.lst k' rows _)=>bif Nat.beq k' k then some rows else none
  |.av (.s (.slice none 0 _))=>some []
  |.av .emp=>some []
  |_=>none
def room(n bytes:Nat):Prop:=n*bytes<=140737488355328/\n<=140737488355328
def bz(c:Cfg)(st:Store)(e:TypeId)(s x:LV)(K:Ja):Prop:=
  optK (c.I e) λie=>
    match s with
    |.av (.s (.slice none 0 0))=>optK (vi ie.size x) λrows=>room rows.length ie.bytes/\∀v st',Owned ie.size st v rows st'->K v st'
    |.av .emp=>optK (vi ie.size x) λrows=>room rows.length ie.bytes/\∀v st',Owned ie.size st v rows st'->K v st'
    | .av (.lst k rows (some b))=>bif Nat.beq k ie.size&&Nat.blt 0 ie.size then optK (vi ie.size x) λrows'=>st.tok b=some (rows.length*k)/\room (rows++rows').length ie.bytes∧
        ∀v st',Owned ie.size (st.sT b none) v (rows++rows') st'->K v st'
      else False
    |_=>False
structure AppX(P:Program)(c:Cfg)(st:Store)(e:TypeId)(s x:AV)(K:Ja):Prop where
  has:∃ie,c.I e=some ie
  out:∀ie,c.I e=some ie->∀(Oth M:Nat->Nat->Prop) (w:World) (sv xv:Value) (argTypes:Array TypeId) (ty:TypeId) (args:Array Value) (t:TypeId),StoreOK st Oth M w->
    VRel w (λb o=>M b o\/Oth b o) s sv->VRel w (λb o=>M b o\/Oth b o) x xv->argTypes[0]?=some t->(∃t1 e1,argTypes[1]?=some t1/\P.underlying t1=some (.slice e1))->
    P.underlying t=some (.slice e)->TIok P e ie->args[0]?=some sv->args[1]?=some xv->∃v w',(Builtin.append_ argTypes ty args).run P w=.ok v w'/\qn st K Oth M w v w'
structure appendK(P:Program)(c:Cfg)(st:Store)(e:TypeId)(s x:LV)(K:Ja):Prop where
  out:bz c st e s x K\/∃s' x',s=.av s'/\x=.av x'/\AppX P c st e s' x' K
structure AEff(P:Program)(c:Cfg)(o:Oper)(args:List AV)(st:Store)(R:Ja):Prop where
  out:∀(Oth M:Nat->Nat->Prop) (w:World) (ρ:Operand->Value),yp P c.I->StoreOK st Oth M w->Reads w (λb o=>M b o\/Oth b o) args (o.op.operands.map ρ).toList->
    match(execOp ρ o).run P w with
    |.ok (.value v) w'=>qn st R Oth M w v w'
    |.ok .skip w'=>o.dst=none/\qn st R Oth M w (.tuple #[]) w'
    |_=>False
def K8(j:TI):Bool:=match j.ty with|.slice _=>true|_=>false
def isX:Op->Bool
  |.lookup ..=>true
  |.mapUpdate ..=>true
  |.insert ..=>true
  |.makeMap ..=>true
  |.makeSlice ..=>true
  |.range ..=>true
  |.next ..=>true
  |.entry ..=>true
  |.makeInterface ..=>true
  |.slice _ _ _ _ mx=>mx.isSome
  | .call cl=>match cl.callee with
    |.builtin .delete=>true
    |.builtin .copy=>true
    |.builtin .clear=>true
    |_=>false
  |_=>false
def ql(A:Fr)(n:Nat)(d:Option Tmp)(x:LV)(K:Fr->Prop):Prop:=
  match d with
  |none=>K A
  |some d=>bif Nat.blt d n then K (A.put d x)else False
def AV.one:AV->Bool
  |.s v=>qo v
  |.agg _=>false
  |.tup _=>false
  |.any=>false
  |_=>true
theorem Vf{T:Nat->Nat->Prop}{x:AV}{v:Value}(h:VRel w T x v)(h1:x.one=true):qo v=true:=by
  cases h<;>simp_all [AV.one,qo]
def D3(i:TI)(A:Fr)(st:Store)(p:LV)(x:AV)(K:Fr->Store->Prop):Prop:=
  optK (cellsOf x) λxs=>bif Nat.beq xs.length i.size&&xs.all AV.one then
    match p with
    |.bx k o=>optK (A.bx k) λl=>bif Nat.ble (o+xs.length) l.length then Du (zu l o xs) λl'=>K (A.setBx k l') st else False
    | .av (.s (.pointer (some ⟨b,o,none⟩)))=>optK (st.obj b) λy=>match y with
      |.cells l=>o+xs.length<=l.length/\Du (zu l o xs) λl'=>K A (st.sO b (.cells l'))
      |_=>False
    |_=>False
  else False
def we(i:TI):List AV:=i.zero.map AV.s
def Ge(k n:Nat)(acc:List (List AV)):List (Nat×LV)->Option (List (List AV))
  |[]=>some acc
  | (i,x)::rest=>match x with
    | .av x=>match cellsOf x with
      |some xs=>bif Nat.beq xs.length k&&Nat.blt i n then Ge k n (acc.set i xs) rest else none
      |none=>none
    |_=>none
def P5(c:Cfg)(o:Oper)(op:BinOp)(t:TypeId)(x y:Operand)(yt:TypeId)(K:Fr->Store->Prop)(A:Fr)(st:Store):Prop:=
  match A.ev x,A.ev y with
  | .av (.lst _ rows _),.av (.s (.slice none 0 0))=>optK (c.I t) λi=>match i.ty with
    | .slice _=>match op with
      |.eql=>∀b:Bool,(b=true->rows=[])->ql A c.n o.dst (xr b) λA'=>K A' st
      |.neq=>∀b:Bool,(b=true->rows=[])->ql A c.n o.dst (xr (!b)) λA'=>K A' st
      |_=>False
    |_=>False
  |_,_=>optK o.dst λd=>bif Nat.blt d c.n then vcV c A.ev A.bx st d (.binOp op t x y yt) (λx=>K (A.put d x) st)else False
def V3:Ty->Bool
  |.int .u8=>true
  |_=>false
def vcX(P:Program)(c:Cfg)(o:Oper)(K:Fr->Store->Prop)(A:Fr)(st:Store):Prop:=
  optK (o.op.operands.toList.mapM λx=>(A.ev x).toAV) λvs=>AEff P c o vs st λr st'=>ql A c.n o.dst (.av r) λA'=>K A' st'
def Pv(P:Program)(c:Cfg)(o:Oper)(s t:TypeId)(x:Operand)(K:Fr->Store->Prop)(A:Fr)(st:Store):Prop:=
  match A.ev x with
  | .av (.lst k rows (some b))=>bif Nat.beq s t then optK (c.I t) λi=>match i.ty with
    |.slice e=>optK (c.I e) λie=>bif V3 ie.ty&&Nat.beq k 1 then optK (st.tok b) λ_=>ql A c.n o.dst (.av (.lst k rows (some b))) λA'=>K A' st else False
    |_=>False
    else False
  |.av (.s (.slice _ _ _))=>vcX P c o K A st
  |.av (.s (.pointer _))=>vcX P c o K A st
  |_=>optK o.dst λd=>bif Nat.blt d c.n then vcV c A.ev A.bx st d (.convert s t x) (λx=>K (A.put d x) st)else False
structure Meets(P:Program)(t:TypeId)(v:Value)(m:String)(g:FuncId)(x:AV):Prop where
  out:∃u,(∀w:World,(method (P.types.size+Made.depth) t v m).run P w=.ok (g,u) w)/\∀(w:World) (T:Nat->Nat->Prop),VRel w T x u
def O0(P:Program)(c:Cfg)(o:Oper)(cl:Call)(m:String)(y:LV)(K:Fr->Store->Prop)(A:Fr)(st:Store):Prop:=
  match y with
  |.av (.s (.iface t v))=>optK (cl.args.toList.mapM λx=>(A.ev x).toAV) λvs=>∃g x,Meets P t v m g x∧
      ACalls P g (x::vs) st λr st'=>ql A c.n o.dst (.av r) λA'=>K A' st'
  |_=>False
def Pj(x:LV):Option (FuncId×List AV×List AV):=
  match x with
  |.av (.clos g cap)=>some (g,[],cap)
  |.av (.s (.func (.func g) fv cv))=>some (g,fv.toList.map AV.s,cv.toList.map AV.s)
  |_=>none
def De(P:Program)(c:Cfg)(o:Oper)(K:Fr->Store->Prop)(A:Fr)(st:Store):Prop:=
  match o.op with
  |.alloc t=>optK (c.I t) λi=>optK o.dst λd=>bif Nat.blt d c.n then
      Du (we i) λl=>(bif c.G.contains d then∀b,Fresh st b->K (A.put d (.av (.s (.pointer (some ⟨b,0,none⟩))))) (st.sO b (.cells l))
        else K (A.newBx d l) st)else False
  |.box _ x=>optK o.dst λd=>bif Nat.blt d c.n then(match A.ev x with
      | .av x=>optK (cellsOf x) λl=>
        bif c.G.contains d then∀b,Fresh st b->K (A.put d (.av (.s (.pointer (some ⟨b,0,none⟩))))) (st.sO b (.cells l))
        else K (A.newBx d l) st
      |_=>False)else False
  |.buildSlice t n parts=>optK (c.I t) λi=>optK o.dst λd=>bif Nat.blt d c.n then(match i.ty with
      | .slice e=>optK (c.I e) λie=>optK (Ge ie.size n (List.replicate n (we ie)) (parts.toList.map λp=>(p.1,A.ev p.2))) λrows=>
        bif rows.flatten.all AV.one then n*ie.size<=16777216/\(match rows with
          |[]=>K (A.put d (.av .emp)) st
          | _ ::_=>bif c.G.contains d then(bif c.G.contains (d+1000000)then∀b,Fresh st b->K (A.put d (.av (.s (.slice (some ⟨b,0,none⟩) rows.length rows.length)))) (st.sO b (.cells rows.flatten))
              else∀b,Fresh st b->K (A.put d (.av (.lst ie.size rows (some b)))) (st.sT b (some (rows.length*ie.size))))
            else K (A.put d (.av (.lst ie.size rows none))) st)else False
      |_=>False)else False
  |.store t a x=>bif o.dst.isNone then optK (c.I t) λi=>match A.ev x with
      |.av x=>D3 i A st (A.ev a) x K
      |_=>False
      else False
  |.binOp op t x y yt=>P5 c o op t x y yt K A st
  |.convert s t x=>Pv P c o s t x K A st
  | .call cl=>match cl.callee with
    | .value f=>match Pj (A.ev f)with
      | some (g,fv,cap)=>optK (cl.args.toList.mapM λx=>(A.ev x).toAV) λvs=>
        ACalls P g (fv++(vs++cap)) st λr st'=>ql A c.n o.dst (.av r) λA'=>K A' st'
      |_=>False
    |.invoke y m=>O0 P c o cl m (A.ev y) K A st
    | .builtin .append=>optK cl.argTypes[0]? λt=>optK (c.I t) λi=>optK cl.args[0]? λs=>optK cl.args[1]? λx=>match i.ty with
      |.slice e=>bif (cl.argTypes[1]?.bind c.I).any K8 then
          appendK P c st e (A.ev s) (A.ev x) λr st'=>ql A c.n o.dst (.av r) λA'=>K A' st' else vcX P c o K A st
      |_=>False
    |_=>optK o.dst λd=>bif Nat.blt d c.n then vcV c A.ev A.bx st d o.op (λx=>K (A.put d x) st)else False
  |op=>optK o.dst λd=>bif Nat.blt d c.n then vcV c A.ev A.bx st d op (λx=>K (A.put d x) st)else False
structure AYield(P:Program)(l:Nat)(args:List AV)(st:Store)(R:Ja):Prop where
  out:∀(Oth M:Nat->Nat->Prop) (w:World) (vs:Array Value),StoreOK st Oth M w->Reads w (λb o=>M b o\/Oth b o) args vs.toList->
    ∃fn tmps assign body,(Instr.yield l vs).run P w=.ok (.round l fn tmps assign body) w/\RoundIn Fence.wide 0 P l fn tmps assign body w λe w'=>∃v,e=.returned v/\qn st R Oth M w v w'
def Rj(A:Fr)(op:Op):Option Nat:=
  match op with
  | .call cl=>match cl.callee with
    | .value f=>match A.ev f with
      |.av (.s (.func (.yield l) x y))=>bif Nat.beq x.size 0&&Nat.beq y.size 0 then some l else none
      |_=>none
    |_=>none
  |_=>none
def ci(A:Fr)(op:Op):Option (List AV):=
  match op with
  |.call cl=>cl.args.toList.mapM λx=>(A.ev x).toAV
  |_=>none
def Bp(P:Program)(c:Cfg)(o:Oper)(K:Fr->Store->Prop)(A:Fr)(st:Store):Prop:=
  bif isX o.op then vcX P c o K A st else De P c o K A st
def Ib(P:Program)(c:Cfg)(o:Oper)(K:Fr->Store->Prop)(A:Fr)(st:Store):Prop:=
  match Rj A o.op with
  |some l=>optK (ci A o.op) λvs=>AYield P l vs st λr st'=>ql A c.n o.dst (.av r) λA'=>K A' st'
  |none=>Bp P c o K A st
def Cfg.N(c:Cfg):SN:=⟨c.n,c.D0,c.nm⟩
def AOp(P:Program)(n:SN)(o:Oper)(K:Fr->Store->Prop)(A:Fr)(st:Store):Prop:=
  ∀Oth M a w,Sim n Oth A st M a w->o.wp P a w (λa' w'=>∃A' st' M',K A' st'/\Sim n Oth A' st' M' a' w'/\Chg M w M' w') (λ_ _ _=>False)
def yhl(P:Program)(c:Cfg)(o:Oper)(K:Fr->Store->Prop)(A:Fr)(st:Store):Prop:=
  ∀Oth M a w,Sim c.N Oth A st M a w->o.wpIn c.F 0 P a w (λa' w'=>∃A' st' M',K A' st'/\Sim c.N Oth A' st' M' a' w'/\Chg M w M' w') (λ_ _ _=>False)
theorem SimB.env{n:SN}{Oth M:Nat->Nat->Prop}{β:Nat->Nat}{a:Act}(h:SimB n Oth β A st M a w):
    Env w (λb o=>M b o\/Oth b o) β A.ev A.bx st a.eval:=
  ⟨h.ev,λk l hk=>(h.bx k l hk).1,λb x hx=>(h.sto.obj b x hx).1⟩
theorem Mo{c:Cfg}{o:Oper}{K:Fr->Store->Prop}(hI:yp P c.I)
    (h:optK o.dst λd=>bif Nat.blt d c.n then vcV c A.ev A.bx st d o.op (λx=>K (A.put d x) st)else False):AOp P c.N o K A st:=by
  obtain⟨d,hd,h⟩:=zl h
  cases hb:Nat.blt d c.n with
  |false=>rw[hb]at h;exact h.elim
  | true=>
    rw[hb]at h
    simp only[cond_true]at h
    have hlt:d<c.n:=Fbg hb
    obtain⟨x,hx,_,hs⟩:=Rq hI o.op h
    rintro Oth M a w ⟨β,sim⟩
    obtain⟨v,hr,hv⟩:=hs w _ β a.eval o rfl sim.env
    unfold Oper.wp
    rw[hr,Oper.upon_value,hd]
    exact⟨_,st,M,hx,⟨β,sim.put hlt hv⟩,Chg.refl M w⟩
end
section
variable {P:Program} {c:Cfg} {w:World} {Oth M:Nat->Nat->Prop} {st:Store}
def jm(M:Nat->Nat->Prop)(B:Nat):Nat->Nat->Prop:=λb o=>M b o\/b=B
theorem Gi(w:World)(o:Obj):(w.alloc o).heap[w.heap.size]?=some o:=by
  show(w.heap.push o)[_]?=_
  simp
theorem Ff(w:World)(o:Obj)(M Oth:Nat->Nat->Prop):Keeps w (λb o=>M b o\/Oth b o) (w.alloc o) (λb o=>jm M w.heap.size b o\/Oth b o) where
  cell b o' c hc _:=by rw[Ch (Cb w o b (Kr hc))];exact hc
  out b o' c hc hT hT':=by
    rcases hT' with(h|h)|h
    · exact hT (.inl h)
    · have:=Kr hc;omega
    · exact hT (.inr h)
  shp b c e fr hw:=⟨c,fr,by rw[Cb w o b (j4 hw)];exact hw,rfl⟩
theorem StoreOK.alloc(h:StoreOK st Oth M w)(o:Obj):StoreOK st Oth (jm M w.heap.size) (w.alloc o) where
  obj b x hx:=⟨ObjRel.same (h.obj b x hx).1 (Ff w o M Oth) (Cb w o b (h.obj b x hx).1.lt),λo=>.inl ((h.obj b x hx).2 o)⟩
  tok b top ht:=by
    obtain⟨c,e,fr,h1,h2,h3,h4⟩:=h.tok b top ht
    exact⟨c,e,fr,by rw[Cb w o b (j4 h1)];exact h1,h2,h3,λo ho=>.inl (h4 o ho)⟩
  mlt b o' hm:=by
    rcases hm with h'|h'
    · have:=h.mlt b o' h';simp;omega
    · simp;omega
  olt b o' hm:=by have:=h.olt b o' hm;simp;omega
  dis b o' hO hM:=by
    rcases hM with h'|h'
    · exact h.dis b o' hO h'
    · have:=h.olt b o' hO;omega
theorem Gp(w:World)(o:Obj)(M:Nat->Nat->Prop):Chg M w (jm M w.heap.size) (w.alloc o) where
  size:=by simp
  keep b o' hb _:=Ch (Cb w o b hb) o'
  blk b hb _:=Cb w o b hb
  shp b c e fr hw:=⟨c,fr,by rw[Cb w o b (j4 hw)];exact hw,rfl⟩
  sub b o' hm hb:=by
    rcases hm with h|h
    · exact h
    · omega
  tape:=rfl
  os:=rfl
  output:=rfl
theorem StoreOK.fresh(h:StoreOK st Oth M w){b:Nat}(hb:w.heap.size<=b):Fresh st b:=by
  constructor
  · cases ho:st.obj b with
    |none=>rfl
    |some x=>have:=(h.obj b x ho).1.lt;omega
  · cases ho:st.tok b with
    |none=>rfl
    | some x=>
      obtain⟨c,e,fr,h1,_⟩:=h.tok b x ho
      have:=j4 h1
      omega
theorem Mj{l:List AV}{cs:Array Value}(w:World)(e:TypeId)(M Oth:Nat->Nat->Prop)(h:Reads w (λb o=>M b o\/Oth b o) l cs.toList):
    CellsRel (w.alloc (.cells cs e)) (λb o=>jm M w.heap.size b o\/Oth b o) l w.heap.size:=
  ⟨cs,e,(0,0),Gi w _,rfl,by simpa using h.1,λi x y hx hy=>(h.2 i x y hx (by simpa using hy)).keep (Ff w _ M Oth)⟩
theorem Marks.alloc{Oth M:Nat->Nat->Prop}{w:World}{ds:List Deferred}(h:Marks Oth M w ds)(hm:∀b o,M b o->b<w.heap.size)(x:Obj):Marks Oth (jm M w.heap.size) (w.alloc x) ds:=
  h.step λD _ hl h2=>⟨Cb w x D hl,λo hm=>hm.elim (h2 o).1 λe=>by omega⟩
theorem MarksD.alloc{Oth M:Nat->Nat->Prop}{w:World}{n:SN}{ds:List Deferred}(h:MarksD Oth M w n ds)(hm:∀b o,M b o->b<w.heap.size)(x:Obj):MarksD Oth (jm M w.heap.size) (w.alloc x) n ds:=by
  obtain⟨ms,e,h0,h⟩:=h.ex
  exact⟨ms,e,h0,h.alloc hm x⟩
theorem SimB.newBx{n:SN}{β:Nat->Nat}{A:Fr}{a:Act}(h:SimB n Oth β A st M a w){d:Nat}(hd:d<n.sz){l:List AV}{cs:Array Value}(e:TypeId)
    (hr:Reads w (λb o=>M b o\/Oth b o) l cs.toList):
    SimB n Oth (λk=>if k=d then w.heap.size else β k) (A.newBx d l) st (jm M w.heap.size) (a.put (some d) (.pointer (some ⟨w.heap.size,0,none⟩))) (w.alloc (.cells cs e)) where
  tsz:=by simp[Act.put,h.tsz]
  dfr:=h.dfr.alloc h.sto.mlt _
  tm i:=by
    simp only[Fr.newBx,Act.put,Fav]
    by_cases hi:i=d
    · subst hi
      have:i<a.tmps.size:=by rw[h.tsz];exact hd
      simp only[Fbs,cond_true]
      rw[Fdi this]
      simp[LRel]
    · have hb:Nat.beq i d=false:=by
        cases hb:Nat.beq i d with
        |false=>rfl
        |true=>exact absurd ((xe _ _).1 hb) hi
      simp only[hb,cond_false]
      rw[Fco (Ne.symm hi)]
      have h1:=h.tm i
      rw[Fav]at h1
      cases hx:A.t i with
      |any=>trivial
      |und=>rw[hx]at h1;exact h1
      |av x=>rw[hx]at h1;exact VRel.keep (Ff w _ M Oth) h1
      | bx k o=>
        simp only[LV.kill]
        cases hk:Nat.beq k d with
        |true=>trivial
        | false=>
          have hne:k≠d:=λe=>by rw[e,Fbs]at hk;cases hk
          rw[hx]at h1
          simp only[LRel,cond_false]at h1⊢
          rw[if_neg hne]
          exact h1
  bx k l' hk:=by
    simp only[Fr.newBx]at hk
    by_cases hkd:k=d
    · subst hkd
      simp only[Fbs,cond_true,Fah]at hk
      subst hk
      simp only[if_true]
      exact⟨Mj w e M Oth hr,λo=>.inr rfl⟩
    · have hb:Nat.beq k d=false:=by
        cases hb:Nat.beq k d with
        |false=>rfl
        |true=>exact absurd ((xe _ _).1 hb) hkd
      simp only[hb,cond_false]at hk
      simp only[hkd,if_false]
      exact⟨(h.bx k l' hk).1.same (Ff w _ M Oth) (Cb w _ _ (h.bx k l' hk).1.lt),λo=>.inl ((h.bx k l' hk).2 o)⟩
  inj k k' hk hk' he:=by
    simp only[Fr.newBx]at hk hk'
    have hlt:∀k,A.bx k≠none->β k<w.heap.size:=λk hk=>by
      cases hl:A.bx k with
      |none=>exact absurd hl hk
      |some l=>exact(h.bx k l hl).1.lt
    by_cases h1:k=d<;>by_cases h2:k'=d
    · rw[h1,h2]
    · have hb:Nat.beq k' d=false:=by
        cases hb:Nat.beq k' d with
        |false=>rfl
        |true=>exact absurd ((xe _ _).1 hb) h2
      simp only[hb,cond_false]at hk'
      simp only[h1,h2,if_true,if_false]at he
      have:=hlt k' hk'
      omega
    · have hb:Nat.beq k d=false:=by
        cases hb:Nat.beq k d with
        |false=>rfl
        |true=>exact absurd ((xe _ _).1 hb) h1
      simp only[hb,cond_false]at hk
      simp only[h1,h2,if_true,if_false]at he
      have:=hlt k hk
      omega
    · have hb:Nat.beq k d=false:=by
        cases hb:Nat.beq k d with
        |false=>rfl
        |true=>exact absurd ((xe _ _).1 hb) h1
      have hb':Nat.beq k' d=false:=by
        cases hb:Nat.beq k' d with
        |false=>rfl
        |true=>exact absurd ((xe _ _).1 hb) h2
      simp only[hb,hb',cond_false]at hk hk'
      simp only[h1,h2,if_false]at he
      exact h.inj k k' hk hk' he
  sep k b hk hb he:=by
    have hlt:b<w.heap.size:=by
      rcases hb with hb|hb
      · cases ho:st.obj b with
        |none=>exact absurd ho hb
        |some x=>exact(h.sto.obj b x ho).1.lt
      · cases ho:st.tok b with
        |none=>exact absurd ho hb
        | some x=>
          obtain⟨c,e,fr,h1,_⟩:=h.sto.tok b x ho
          exact j4 h1
    simp only[Fr.newBx]at hk
    by_cases h1:k=d
    · simp only[h1,if_true]at he;omega
    · have hb':Nat.beq k d=false:=by
        cases hb:Nat.beq k d with
        |false=>rfl
        |true=>exact absurd ((xe _ _).1 hb) h1
      simp only[hb',cond_false]at hk
      simp only[h1,if_false]at he
      exact h.sep k b hk hb he
  sto:=h.sto.alloc _
theorem SimB.grow1{n:SN}{β:Nat->Nat}{A:Fr}{a:Act}(h:SimB n Oth β A st M a w)(o:Obj):SimB n Oth β A st (jm M w.heap.size) a (w.alloc o) where
  tsz:=h.tsz
  dfr:=h.dfr.alloc h.sto.mlt _
  tm i:=(h.tm i).keep (Ff w _ M Oth)
  bx k l hk:=⟨(h.bx k l hk).1.same (Ff w _ M Oth) (Cb w _ _ (h.bx k l hk).1.lt),λo=>.inl ((h.bx k l hk).2 o)⟩
  inj:=h.inj
  sep:=h.sep
  sto:=h.sto.alloc _
theorem yv{i j:Nat}(h:i≠j):Nat.beq i j=false:=by
  cases hb:Nat.beq i j with
  |false=>rfl
  |true=>exact absurd ((xe _ _).1 hb) h
theorem SimB.newObj{n:SN}{β:Nat->Nat}{A:Fr}{a:Act}(h:SimB n Oth β A st M a w)(o:Obj)(x:AObj)
    (hr:ObjRel (w.alloc o) (λb o=>jm M w.heap.size b o\/Oth b o) x w.heap.size):
    SimB n Oth β A (st.sO w.heap.size x) (jm M w.heap.size) a (w.alloc o) where
  tsz:=h.tsz
  dfr:=h.dfr.alloc h.sto.mlt _
  tm:=(h.grow1 o).tm
  bx:=(h.grow1 o).bx
  inj:=h.inj
  sep k b hk hb he:=by
    by_cases hbs:b=w.heap.size
    · cases hl:A.bx k with
      |none=>exact hk hl
      |some l=>have:=(h.bx k l hl).1.lt;omega
    · refine h.sep k b hk ?_ he
      simpa [Store.sO,yv hbs]using hb
  sto:=by
    have h':=h.sto.alloc o
    refine⟨λb y hy=>?_,h'.tok,h'.mlt,h'.olt,h'.dis⟩
    by_cases hbs:b=w.heap.size
    · subst hbs
      simp only[Store.sO,Fbs,cond_true,Fah]at hy
      subst hy
      exact⟨hr,λo=>.inr rfl⟩
    · simp only[Store.sO,yv hbs,cond_false]at hy
      exact h'.obj b y hy
end
section
variable {P:Program} {c:Cfg} {w:World} {Oth M:Nat->Nat->Prop} {st:Store}
theorem CellsRel.mono{T T':Nat->Nat->Prop}(hs:∀b o,T' b o->T b o){l:List AV}{b:Nat}(h:CellsRel w T l b):CellsRel w T' l b:=by
  obtain⟨c,e,fr,h1,h2,h3,h4⟩:=h
  exact⟨c,e,fr,h1,h2,h3,λi x y hx hy=>(h4 i x y hx hy).mono hs⟩
theorem ObjRel.mono{T T':Nat->Nat->Prop}(hs:∀b o,T' b o->T b o){x:AObj}{b:Nat}(h:ObjRel w T x b):ObjRel w T' x b:=by
  cases x with
  |cells l=>exact CellsRel.mono hs h
  | map es bs clock=>
    obtain⟨ms,h1,h2,h3,h4⟩:=h
    exact⟨ms,h1,h2,λi x y hx hy=>⟨(h3 i x y hx hy).1.mono hs,(h3 i x y hx hy).2.mono hs⟩,h4⟩
  |iter m since seen last=>exact h
  |ghost o gh=>exact⟨h.1,λp hp=>(h.2 p hp).mono hs⟩
theorem LRel.mono{T T':Nat->Nat->Prop}(hs:∀b o,T' b o->T b o){β:Nat->Nat}{x:LV}{v:Value}(h:LRel w T β x v):LRel w T' β x v:=by
  cases x with
  |any=>trivial
  |und=>exact h
  |av x=>exact VRel.mono hs h
  |bx k off=>exact h
theorem SimB.shrink{n:SN}{β:Nat->Nat}{A:Fr}{a:Act}(h:SimB n Oth β A st M a w){M':Nat->Nat->Prop}(hs:∀b o,M' b o->M b o)
    (hb:∀k l,A.bx k=some l->∀o,M' (β k) o) (ho:∀b x,st.obj b=some x->∀o,M' b o) (ht:∀b top,st.tok b=some top->∀o,top<=o->M' b o):SimB n Oth β A st M' a w where
  tsz:=h.tsz
  dfr:=h.dfr.sub hs
  tm i:=(h.tm i).mono λb o hm=>hm.imp (hs b o) id
  bx k l hk:=⟨(h.bx k l hk).1.mono λb o hm=>hm.imp (hs b o) id,hb k l hk⟩
  inj:=h.inj
  sep:=h.sep
  sto:=
    { obj:=λb x hx=>⟨(h.sto.obj b x hx).1.mono λb o hm=>hm.imp (hs b o) id,ho b x hx⟩
      tok:=λb top hx=>by
        obtain⟨c,e,fr,h1,h2,h3,h4⟩:=h.sto.tok b top hx
        exact⟨c,e,fr,h1,h2,h3,ht b top hx⟩
      mlt:=λb o hm=>h.sto.mlt b o (hs b o hm)
      olt:=h.sto.olt
      dis:=λb o hO hM=>h.sto.dis b o hO (hs b o hM)}
def Rg(M:Nat->Nat->Prop)(B top:Nat):Nat->Nat->Prop:=λb o=>M b o\/(b=B/\top<=o)
theorem s8(w:World)(o:Obj)(M:Nat->Nat->Prop)(top:Nat):Chg M w (Rg M w.heap.size top) (w.alloc o):=
  { Gp w o M with
    sub:=λb o' hm hb=>by
      rcases hm with h|h
      · exact h
      · omega}
theorem SimB.newTok{n:SN}{β:Nat->Nat}{A:Fr}{a:Act}(h:SimB n Oth β A st M a w)(cs:Array Value)(e:TypeId)(top:Nat)(htop:top<=cs.size):
    SimB n Oth β A (st.sT w.heap.size (some top)) (Rg M w.heap.size top) a (w.alloc (.cells cs e)):=by
  have hlt:∀b,(st.obj b≠none\/st.tok b≠none)->b<w.heap.size:=λb hb=>by
    rcases hb with hb|hb
    · cases ho:st.obj b with
      |none=>exact absurd ho hb
      |some x=>exact(h.sto.obj b x ho).1.lt
    · cases ho:st.tok b with
      |none=>exact absurd ho hb
      | some x=>
        obtain⟨c,e,fr,h1,_⟩:=h.sto.tok b x ho
        exact j4 h1
  have h1:=(h.grow1 (.cells cs e)).shrink (M':=Rg M w.heap.size top) (λb o hm=>hm.imp id λh=>h.1)
    (λk l hk o=>.inl ((h.bx k l hk).2 o)) (λb x hx o=>.inl ((h.sto.obj b x hx).2 o))
    (λb t hx o ho=>by
      obtain⟨c,e,fr,h1,h2,h3,h4⟩:=h.sto.tok b t hx
      exact .inl (h4 o ho))
  refine{h1 with sep:=λk b hk hb he=>?_,sto:={h1.sto with tok:=λb t ht=>?_}}
  · by_cases hbs:b=w.heap.size
    · cases hl:A.bx k with
      |none=>exact hk hl
      |some l=>have:=(h.bx k l hl).1.lt;omega
    · refine h.sep k b hk ?_ he
      simpa [Store.sT,yv hbs]using hb
  · by_cases hbs:b=w.heap.size
    · subst hbs
      simp only[Store.sT,Fbs,cond_true,Fah]at ht
      subst ht
      exact⟨cs,e,(0,0),Gi w _,.inl rfl,htop,λo ho=>.inr ⟨rfl,ho⟩⟩
    · simp only[Store.sT,yv hbs,cond_false]at ht
      exact h1.sto.tok b t ht
structure Wrote(w:World)(b o:Nat)(vs:List Value)(w':World):Prop where
  size:w'.heap.size=w.heap.size
  other:∀b',b'≠b->w'.heap[b']?=w.heap[b']?
  blk:∀c e fr,w.heap[b]?=some (.cells c e fr)->∃c',w'.heap[b]?=some (.cells c' e fr)/\c'.toList=c.toList.take o++vs++c.toList.drop (o+vs.length)/\c'.size=c.size
  tape:w'.tape=w.tape
  os:w'.os=w.os
  output:w'.output=w.output
theorem Pb(w:World)(b o:Nat)(v:Value)(b':Nat):(w.setCell ⟨b,o,none⟩ v).heap[b']?=if b'=b then(w.heap[b']?).map (λ|.cells c e fr=>.cells (c.setIfInBounds o v) e fr|x=>x)else w.heap[b']?:=by
  simp only[World.setCell,Fct]
  by_cases h:b=b'
  · subst h
    simp
    rfl
  · simp[h,Ne.symm h]
theorem Hd(w:World)(b o:Nat):∀(vs:List Value) (i:Nat) (w:World) (c:Array Value) (e:TypeId) (fr:Nat×Nat),w.heap[b]?=some (.cells c e fr)->Ck fr c.size->o+i+vs.length<=c.size->
    (∀v∈vs,qo v=true)->∃w',(storeCells ⟨b,o,none⟩ vs i).run P w=.ok () w'/\Wrote w b (o+i) vs w':=by
  intro vs
  induction vs with
  | nil=>
    intro i w c e fr hw _ _ _
    exact⟨w,by simp[storeCells],rfl,λ_ _=>rfl,λc e fr h=>⟨c,h,by simp,rfl⟩,rfl,rfl,rfl⟩
  | cons v vs ih=>
    intro i w c e fr hw hf hlen hone
    simp only[Fbi]at hlen
    have hlt:o+i<c.size:=by omega
    have hcell:w.cell? ⟨b,o+i,none⟩=some c[o+i]:=by simp[World.cell?,hw,hlt]
    have hfz:w.frozen? ⟨b,o+i,none⟩=false:=by
      simp only[World.frozen?,hw]
      unfold Ck at hf
      simp
      intro h
      omega
    have hst:(store (Addr.add ⟨b,o,none⟩ i) v).run P w=.ok () (w.setCell ⟨b,o+i,none⟩ v):=by
      rw[ve]
      have h1:=hone v (by simp)
      cases v<;>simp[qo]at h1<;>simp[store,Sem.run,hcell,hfz]
    have hw1:(w.setCell ⟨b,o+i,none⟩ v).heap[b]?=some (.cells (c.setIfInBounds (o+i) v) e fr):=by
      rw[Pb,if_pos rfl,hw]
      rfl
    obtain⟨w',hr,hwr⟩:=ih (i+1) _ _ e fr hw1 (by simpa using hf) (by simp;omega) (λv hv=>hone v (by simp[hv]))
    refine⟨w',by simp only[storeCells,Sem.run_bind,hst,Result.andThen_ok,hr],by rw[hwr.size];simp,λb' hb=>by rw[hwr.other b' hb,Pb,if_neg hb],λc₁ e₁ fr₁ hc₁=>?_,by rw[hwr.tape];rfl,by rw[hwr.os];rfl,by rw[hwr.output];rfl⟩
    rw[hw]at hc₁
    cases hc₁
    obtain⟨c',hc',hl,hs⟩:=hwr.blk _ _ _ hw1
    refine⟨c',hc',?_,by simpa using hs⟩
    rw[hl,Fek]
    have hlt':o+i<c.toList.length:=by simpa using hlt
    apply Fb9
    intro j
    simp only[List.getElem?_append,Fde,Fcj,Fdl,Fag,Fao,Fa8,Fbi,Fb4]
    have hsz:o+i+(vs.length+1)<=c.size:=hlen
    rcases Fep j (o+i)with hi|hi|hi
    · have h1:j<o+(i+1):=by omega
      have h2:j<min (o+(i+1)) c.size:=by omega
      have h3:j<min (o+i) c.size:=by omega
      have h4:j<min (o+i) c.size+(vs.length+1):=by omega
      have h5:j<min (o+(i+1)) c.size+vs.length:=by omega
      have h6:¬o+i=j:=by omega
      simp[h1,h2,h3,h4,h5,h6,hi]
    · subst hi
      have h1:o+i<min (o+(i+1)) c.size:=by omega
      have h2:¬o+i<min (o+i) c.size:=by omega
      have h3:o+i-min (o+i) c.size=0:=by omega
      have h4:o+i<min (o+i) c.size+(vs.length+1):=by omega
      have h5:o+i<min (o+(i+1)) c.size+vs.length:=by omega
      have h6:o+i<o+(i+1):=by omega
      simp[h1,h2,h3,h4,h5,h6,hlt]
    · have h2:¬j<min (o+(i+1)) c.size:=by omega
      have h3:¬j<min (o+i) c.size:=by omega
      have e1:j-min (o+i) c.size=(j-min (o+(i+1)) c.size)+1:=by omega
      have e2:(j<min (o+i) c.size+(vs.length+1))↔(j<min (o+(i+1)) c.size+vs.length):=by omega
      have e3:o+(i+1)+vs.length+(j-(min (o+(i+1)) c.size+vs.length))=o+i+(vs.length+1)+(j-(min (o+i) c.size+(vs.length+1))):=by omega
      simp only[h2,h3,if_false,e1,Far,e2,e3]
      have h8:¬o+i=o+i+(vs.length+1)+(j-(min (o+i) c.size+(vs.length+1))):=by omega
      simp[h8]
theorem Wrote.keeps{b o:Nat}{vs:List Value}{w':World}(h:Wrote w b o vs w'){T:Nat->Nat->Prop}(hb:∀o,T b o):Keeps w T w' T where
  cell b' o' c hc hT:=by
    have hne:b'≠b:=λe=>hT (e▸hb o')
    rw[Ch (h.other b' hne)]
    exact hc
  out b' o' c hc hT:=hT
  shp b' c e fr hw:=by
    by_cases hbb:b'=b
    · subst hbb
      obtain⟨c',h1,_,h2⟩:=h.blk c e fr hw
      exact⟨c',fr,h1,h2⟩
    · exact⟨c,fr,by rw[h.other b' hbb];exact hw,rfl⟩
theorem Wrote.chg{b o:Nat}{vs:List Value}{w':World}(h:Wrote w b o vs w')(hb:∀o,M b o):Chg M w M w' where
  size:=by rw[h.size];exact Fak _
  keep b' o' _ hm:=Ch (h.other b' λe=>hm (e▸hb o')) o'
  blk b' _ hm:=h.other b' λe=>hm 0 (e▸hb 0)
  shp:=(h.keeps (T:=M) hb).shp
  sub _ _ hm _:=hm
  tape:=h.tape
  os:=h.os
  output:=h.output
theorem CellsRel.wrote{b o:Nat}{vs:List Value}{w':World}{T:Nat->Nat->Prop}(h:Wrote w b o vs w')(hT:∀o,T b o){l xs:List AV}(hl:CellsRel w T l b)(hx:Reads w T xs vs):
    CellsRel w' T (zu l o xs) b:=by
  obtain⟨c,e,fr,h1,h2,h3,h4⟩:=hl
  obtain⟨c',h5,h6,h7⟩:=h.blk c e fr h1
  have hr:Reads w T l c.toList:=⟨by simpa using h3,λi x y hx hy=>h4 i x y hx (by simpa using hy)⟩
  have hr':Reads w' T (zu l o xs) c'.toList:=by
    rw[h6]
    unfold zu
    refine(((hr.take o).append hx).append ?_).keep (h.keeps hT)
    rw[hx.1]
    exact hr.drop _
  exact⟨c',e,fr,h5,h2,by simpa using hr'.1,λi x y hx hy=>hr'.2 i x y hx (by simpa using hy)⟩
theorem StoreOK.wrote{b o:Nat}{vs:List Value}{w':World}(h:StoreOK st Oth M w)(hw:Wrote w b o vs w')(hb:∀o,M b o)(hob:st.obj b=none):StoreOK st Oth M w' where
  obj b' x hx:=by
    have hne:b'≠b:=λe=>by rw[e,hob]at hx;cases hx
    exact⟨ObjRel.same (h.obj b' x hx).1 (hw.keeps λo=>.inl (hb o)) (hw.other b' hne),(h.obj b' x hx).2⟩
  tok b' top ht:=by
    obtain⟨c,e,fr,h1,h2,h3,h4⟩:=h.tok b' top ht
    by_cases he:b'=b
    · subst he
      obtain⟨c',h5,_,h6⟩:=hw.blk c e fr h1
      exact⟨c',e,fr,h5,by rw[h6];exact h2,by rw[h6];exact h3,h4⟩
    · exact⟨c,e,fr,by rw[hw.other b' he];exact h1,h2,h3,h4⟩
  mlt b' o' hm:=by rw[hw.size];exact h.mlt b' o' hm
  olt b' o' hm:=by rw[hw.size];exact h.olt b' o' hm
  dis:=h.dis
theorem SimB.setBx{n:SN}{β:Nat->Nat}{A:Fr}{a:Act}(h:SimB n Oth β A st M a w){k o:Nat}{l xs:List AV}{vs:List Value}{w':World}(hk:A.bx k=some l)
    (hx:Reads w (λb o=>M b o\/Oth b o) xs vs) (hw:Wrote w (β k) o vs w'):SimB n Oth β (A.setBx k (zu l o xs)) st M a w':=by
  have hM:=(h.bx k l hk).2
  have hT:∀o,M (β k) o\/Oth (β k) o:=λo=>.inl (hM o)
  have hsome:∀k',(A.setBx k (zu l o xs)).bx k'≠none->A.bx k'≠none:=by
    intro k' h'
    by_cases he:k'=k
    · subst he;rw[hk];simp
    · simpa [Fr.setBx,yv he]using h'
  have hob:st.obj (β k)=none:=by
    cases ho:st.obj (β k)with
    |none=>rfl
    |some x=>exact absurd rfl (h.sep k (β k) (by rw[hk];simp) (.inl (by rw[ho];simp)))
  exact
    { tsz:=h.tsz
      dfr:=h.dfr.step λD _ _ h2=>⟨hw.other D λe=>(h2 0).1 (e▸hM 0),λo=>(h2 o).1⟩
      tm:=λi=>(h.tm i).keep (hw.keeps hT)
      bx:=λk' l' hk'=>by
        by_cases he:k'=k
        · subst he
          simp only[Fr.setBx,Fbs,cond_true,Fah]at hk'
          subst hk'
          exact⟨CellsRel.wrote hw hT (h.bx k' l hk).1 hx,hM⟩
        · simp only[Fr.setBx,yv he,cond_false]at hk'
          have hne:β k'≠β k:=λe=>he (h.inj k' k (by rw[hk'];simp) (by rw[hk];simp) e)
          exact⟨(h.bx k' l' hk').1.same (hw.keeps hT) (hw.other _ hne),(h.bx k' l' hk').2⟩
      inj:=λk1 k2 h1 h2=>h.inj k1 k2 (hsome k1 h1) (hsome k2 h2)
      sep:=λk1 b h1=>h.sep k1 b (hsome k1 h1)
      sto:=h.sto.wrote hw hM hob}
theorem SimB.sO{n:SN}{β:Nat->Nat}{A:Fr}{a:Act}(h:SimB n Oth β A st M a w){b o:Nat}{l xs:List AV}{vs:List Value}{w':World}(hk:st.obj b=some (.cells l))
    (hx:Reads w (λb o=>M b o\/Oth b o) xs vs) (hw:Wrote w b o vs w'):SimB n Oth β A (st.sO b (.cells (zu l o xs))) M a w':=by
  have hM:=(h.sto.obj b _ hk).2
  have hT:∀o,M b o\/Oth b o:=λo=>.inl (hM o)
  exact
    { tsz:=h.tsz
      dfr:=h.dfr.step λD _ _ h2=>⟨hw.other D λe=>(h2 0).1 (e▸hM 0),λo=>(h2 o).1⟩
      tm:=λi=>(h.tm i).keep (hw.keeps hT)
      bx:=λk' l' hk'=>by
        have hne:β k'≠b:=h.sep k' b (by rw[hk'];simp) (.inl (by rw[hk];simp))
        exact⟨(h.bx k' l' hk').1.same (hw.keeps hT) (hw.other _ hne),(h.bx k' l' hk').2⟩
      inj:=h.inj
      sep:=λk1 b1 h1 h2=>h.sep k1 b1 h1 (by
        by_cases he:b1=b
        · subst he;exact .inl (by rw[hk];simp)
        · simpa [Store.sO,yv he]using h2)
      sto:=
        { obj:=λb' x hx'=>by
            by_cases he:b'=b
            · subst he
              simp only[Store.sO,Fbs,cond_true,Fah]at hx'
              subst hx'
              exact⟨CellsRel.wrote hw hT (h.sto.obj b' _ hk).1 hx,hM⟩
            · simp only[Store.sO,yv he,cond_false]at hx'
              exact⟨ObjRel.same (h.sto.obj b' x hx').1 (hw.keeps hT) (hw.other b' he),(h.sto.obj b' x hx').2⟩
          tok:=λb' top ht=>by
            obtain⟨c,e,fr,h1,h2,h3,h4⟩:=h.sto.tok b' top ht
            by_cases he:b'=b
            · subst he
              obtain⟨c',h5,_,h6⟩:=hw.blk c e fr h1
              exact⟨c',e,fr,h5,by rw[h6];exact h2,by rw[h6];exact h3,h4⟩
            · exact⟨c,e,fr,by rw[hw.other b' he];exact h1,h2,h3,h4⟩
          mlt:=λb' o' hm=>by rw[hw.size];exact h.sto.mlt b' o' hm
          olt:=λb' o' hm=>by rw[hw.size];exact h.sto.olt b' o' hm
          dis:=h.sto.dis}}
end
section
variable {P:Program} {c:Cfg} {K:Fr->Store->Prop} {A:Fr} {st:Store}
theorem vz{d n:Nat}{p:Prop}(h:bif Nat.blt d n then p else False):d<n/\p:=by
  cases hb:Nat.blt d n with
  |false=>rw[hb]at h;exact h.elim
  |true=>rw[hb]at h;exact⟨Fbg hb,h⟩
theorem ygw{o:Oper}{t:TypeId}(ho:o.op=.alloc t)(hI:yp P c.I)
    (h:optK (c.I t) λi=>optK o.dst λd=>bif Nat.blt d c.n then
      (bif c.G.contains d then∀b,Fresh st b->K (A.put d (.av (.s (.pointer (some ⟨b,0,none⟩))))) (st.sO b (.cells (we i)))
        else K (A.newBx d (we i)) st)else False):AOp P c.N o K A st:=by
  obtain⟨i,hi,h⟩:=zl h
  obtain⟨d,hd,h⟩:=zl h
  obtain⟨hlt,h⟩:=vz h
  rintro Oth M a w ⟨β,sim⟩
  obtain⟨z,hz1,hz2⟩:=Iq (hI _ _ hi) w
  have hr:(execOp a.eval o).run P w=.ok (.value (.pointer (some ⟨w.heap.size,0,none⟩))) (w.alloc (.cells z.cells t)):=by
    simp only[execOp,ho,Instr.alloc,Sem.run_bind,hz1,Result.andThen_ok]
    simp[newVar,newRow]
  have hrd:∀T,Reads w T (we i) z.cells.toList:=λT=>by unfold we;rw[hz2];exact Reads.map_s _
  unfold Oper.wp
  rw[hr,Oper.upon_value,hd]
  cases hg:c.G.contains d with
  | true=>
    rw[hg]at h
    refine⟨_,_,jm M w.heap.size,h w.heap.size (sim.sto.fresh (Fak _)),⟨β,?_⟩,Gp _ _ _⟩
    exact(sim.newObj _ (.cells (we i)) (Mj w t M Oth (hrd _))).put hlt (VRel.s _)
  | false=>
    rw[hg]at h
    exact⟨_,_,jm M w.heap.size,h,⟨_,sim.newBx hlt t (hrd _)⟩,Gp _ _ _⟩
theorem ygt{o:Oper}{t:TypeId}{x:Operand}(ho:o.op=.box t x)(hI:yp P c.I)
    (h:optK o.dst λd=>bif Nat.blt d c.n then(match A.ev x with
      | .av x=>optK (cellsOf x) λl=>
        bif c.G.contains d then∀b,Fresh st b->K (A.put d (.av (.s (.pointer (some ⟨b,0,none⟩))))) (st.sO b (.cells l))
        else K (A.newBx d l) st
      |_=>False)else False):AOp P c.N o K A st:=by
  obtain⟨d,hd,h⟩:=zl h
  obtain⟨hlt,h⟩:=vz h
  split at h
  · rename_i y hy
    obtain⟨l,hl,h⟩:=zl h
    rintro Oth M a w ⟨β,sim⟩
    have hv:=yz sim.env hy
    obtain⟨hrd,_⟩:=bd hv hl
    have hr:(execOp a.eval o).run P w=.ok (.value (.pointer (some ⟨w.heap.size,0,none⟩))) (w.alloc (.cells (a.eval x).cells t)):=by
      simp[execOp,ho,Instr.box,newVar,newRow]
    unfold Oper.wp
    rw[hr,Oper.upon_value,hd]
    cases hg:c.G.contains d with
    | true=>
      rw[hg]at h
      refine⟨_,_,jm M w.heap.size,h w.heap.size (sim.sto.fresh (Fak _)),⟨β,?_⟩,Gp _ _ _⟩
      exact(sim.newObj _ (.cells l) (Mj w t M Oth hrd)).put hlt (VRel.s _)
    | false=>
      rw[hg]at h
      exact⟨_,_,jm M w.heap.size,h,⟨_,sim.newBx hlt t hrd⟩,Gp _ _ _⟩
  · exact h.elim
theorem ygo{o:Oper}{t:TypeId}{p x:Operand}(ho:o.op=.store t p x)(hd:o.dst=none)(hI:yp P c.I)
    (h:optK (c.I t) λi=>match A.ev x with
      |.av x=>D3 i A st (A.ev p) x K
      |_=>False):AOp P c.N o K A st:=by
  obtain⟨i,hi,h⟩:=zl h
  split at h
  · rename_i y hy
    obtain⟨xs,hxs,h⟩:=zl h
    cases hb:(Nat.beq xs.length i.size&&xs.all AV.one)with
    |false=>rw[hb]at h;exact h.elim
    |true=>
    rw[hb]at h
    simp only[cond_true]at h
    simp only[Fax]at hb
    have hsz:xs.length=i.size:=(xe _ _).1 hb.1
    rintro Oth M a w ⟨β,sim⟩
    have hv:=yz sim.env hy
    obtain⟨hrd,hone⟩:=bd hv hxs
    have hone':∀v∈(a.eval x).cells.toList,qo v=true:=by
      intro v hv
      obtain⟨j,hj⟩:=Fa2.1 hv
      have hjl:j<xs.length:=by rw[hrd.1];exact(Faf.1 hj).1
      exact Vf (hrd.2 j _ v (Fab hjl) hj) (Fb5.1 hb.2 _ (Faa hjl))
    have hvs:(a.eval x).cells.size=i.size:=by rw[<-hsz,hrd.1];simp
    unfold Oper.wp
    split at h
    · rename_i k off hp
      obtain⟨l,hl,h⟩:=zl h
      cases hb2:Nat.ble (off+xs.length) l.length with
      |false=>rw[hb2]at h;exact h.elim
      |true=>
      rw[hb2]at h
      simp only[cond_true,Dt]at h
      have hle:off+xs.length<=l.length:=Fbg hb2
      have hp':a.eval p=.pointer (some ⟨β k,off,none⟩):=by have:=sim.ev p;rw[hp]at this;exact this
      obtain⟨⟨cs,e,fr,h1,h2,h3,h4⟩,hM⟩:=sim.bx k l hl
      obtain⟨w',hr,hw⟩:=Hd (P:=P) w (β k) off (a.eval x).cells.toList 0 w cs e fr h1 (.inl h2) (by rw[<-hrd.1];omega) hone'
      have hrun:(execOp a.eval o).run P w=.ok .skip w':=by
        simp[execOp,ho,hp',Instr.storeAt,Instr.sureAddr,storeVar,jh (hI _ _ hi),hvs,hr]
      rw[hrun,Oper.upon_skip,hd]
      exact⟨_,_,M,h,⟨β,sim.setBx hl hrd hw⟩,hw.chg hM⟩
    · rename_i b off hp
      obtain⟨ob,hob,h⟩:=zl h
      cases ob with
      |map es bs clock=>exact h.elim
      |iter m since seen last=>exact h.elim
      |ghost o gh=>exact h.elim
      |cells l=>
      obtain⟨hle,h⟩:=h
      rw[Dt]at h
      have hp':a.eval p=.pointer (some ⟨b,off,none⟩):=VRel.eq_s (yz sim.env hp)
      obtain⟨⟨cs,e,fr,h1,h2,h3,h4⟩,hM⟩:=sim.sto.obj b _ hob
      obtain⟨w',hr,hw⟩:=Hd (P:=P) w b off (a.eval x).cells.toList 0 w cs e fr h1 (.inl h2) (by rw[<-hrd.1];omega) hone'
      have hrun:(execOp a.eval o).run P w=.ok .skip w':=by
        simp[execOp,ho,hp',Instr.storeAt,Instr.sureAddr,storeVar,jh (hI _ _ hi),hvs,hr]
      rw[hrun,Oper.upon_skip,hd]
      exact⟨_,_,M,h,⟨β,sim.sO hob hrd hw⟩,hw.chg hM⟩
    · exact h.elim
  · exact h.elim
end
section
variable {P:Program} {c:Cfg} {K:Fr->Store->Prop} {A:Fr} {st:Store}
theorem VRel.clos_inv{w:World}{T:Nat->Nat->Prop}{f:FuncId}{cs:List AV}{v:Value}(h:VRel w T (.clos f cs) v):∃c,v=.func (.func f) #[] c/\Reads w T cs c.toList:=by
  cases h with
  |clos _ _ c hl h=>exact⟨c,rfl,by simpa using hl,λi x y hx hy=>h i x y hx (by simpa using hy)⟩
def inM(M:Nat->Nat->Prop)(A:Fr)(β:Nat->Nat):Nat->Nat->Prop:=λb o=>M b o/\∀k,A.bx k≠none->β k≠b
def Oe(Oth M:Nat->Nat->Prop)(A:Fr)(β:Nat->Nat):Nat->Nat->Prop:=λb o=>Oth b o\/(M b o/\∃k,A.bx k≠none/\β k=b)
theorem Gf{Oth M:Nat->Nat->Prop}{β:Nat->Nat}:∀b o,(inM M A β b o\/Oe Oth M A β b o)->(M b o\/Oth b o):=by
  rintro b o (h|h|h)
  · exact .inl h.1
  · exact .inr h
  · exact .inl h.1
theorem SimB.inner{n:SN}{Oth M:Nat->Nat->Prop}{β:Nat->Nat}{a:Act}{w:World}(sim:SimB n Oth β A st M a w):StoreOK st (Oe Oth M A β) (inM M A β) w:=
  { obj:=λb x hx=>⟨(sim.sto.obj b x hx).1.mono Gf,λo=>⟨(sim.sto.obj b x hx).2 o,λk hk=>sim.sep k b hk (.inl (by rw[hx];simp))⟩⟩
    tok:=λb top hx=>by
      obtain⟨c,e,fr,h1,h2,h3,h4⟩:=sim.sto.tok b top hx
      exact⟨c,e,fr,h1,h2,h3,λo ho=>⟨h4 o ho,λk hk=>sim.sep k b hk (.inr (by rw[hx];simp))⟩⟩
    mlt:=λb o hm=>sim.sto.mlt b o hm.1
    olt:=λb o hm=>by
      rcases hm with h|h
      · exact sim.sto.olt b o h
      · exact sim.sto.mlt b o h.1
    dis:=λb o hO hM=>by
      rcases hO with h|⟨h,k,hk,he⟩
      · exact sim.sto.dis b o h hM.1
      · exact hM.2 k hk he}
theorem SimB.post{n:SN}{Oth M:Nat->Nat->Prop}{β:Nat->Nat}{a:Act}{w:World}(sim:SimB n Oth β A st M a w){R:Ja}:
    ∀v w',qn st R (Oe Oth M A β) (inM M A β) w v w'->∃r st' M',R r st'/\VRel w' (λb o=>M' b o\/Oth b o) r v/\SimB n Oth β A st' M' a w'/\Chg M w M' w':=by
  rintro v w' ⟨r,st',Mc',hR,hr,hsto,hchg⟩
  let M':Nat->Nat->Prop:=λb o=>Mc' b o\/(M b o/\∃k,A.bx k≠none/\β k=b)
  have hT2:∀b o,(M' b o\/Oth b o)->(Mc' b o\/Oe Oth M A β b o):=by
    rintro b o ((h|h)|h)
    · exact .inl h
    · exact .inr (.inr h)
    · exact .inr (.inl h)
  have hblk:∀k,A.bx k≠none->w'.heap[β k]?=w.heap[β k]?:=λk hk=>by
    cases hl:A.bx k with
    |none=>exact absurd hl hk
    |some l=>exact hchg.blk _ (sim.bx k l hl).1.lt λo hm=>hm.2 k hk rfl
  have hno:∀k b o,A.bx k≠none->Mc' b o->β k≠b:=λk b o hk hm he=>by
    subst he
    cases hl:A.bx k with
    |none=>exact absurd hl hk
    |some l=>exact(hchg.sub _ o hm (sim.bx k l hl).1.lt).2 k hk rfl
  refine⟨r,st',M',hR,hr.mono hT2,?_,?_⟩
  · exact
      { tsz:=sim.tsz
        dfr:=sim.dfr.step λD _ hl h2=>⟨hchg.blk D hl λo hm=>(h2 o).1 hm.1,λo hm=>by
          rcases hm with hm|hm
          · exact(h2 o).1 (hchg.sub D o hm hl).1
          · exact(h2 o).1 hm.1⟩
        tm:=λi=>((LRel.mono Gf (sim.tm i)).keep hchg.keeps).mono hT2
        bx:=λk l hl=>by
          have hk:A.bx k≠none:=by rw[hl];simp
          exact⟨(((sim.bx k l hl).1.mono Gf).same hchg.keeps (hblk k hk)).mono hT2,λo=>.inr ⟨(sim.bx k l hl).2 o,k,hk,rfl⟩⟩
        inj:=sim.inj
        sep:=λk b hk hb=>by
          rcases hb with hb|hb
          · cases ho:st'.obj b with
            |none=>exact absurd ho hb
            |some x=>exact hno k b 0 hk ((hsto.obj b x ho).2 0)
          · cases ho:st'.tok b with
            |none=>exact absurd ho hb
            | some top=>
              obtain⟨c,e,fr,h1,h2,h3,h4⟩:=hsto.tok b top ho
              exact hno k b top hk (h4 top (Fak _))
        sto:=
          { obj:=λb x hx=>⟨(hsto.obj b x hx).1.mono hT2,λo=>.inl ((hsto.obj b x hx).2 o)⟩
            tok:=λb top hx=>by
              obtain⟨c,e,fr,h1,h2,h3,h4⟩:=hsto.tok b top hx
              exact⟨c,e,fr,h1,h2,h3,λo ho=>.inl (h4 o ho)⟩
            mlt:=λb o hm=>by
              rcases hm with h|h
              · exact hsto.mlt b o h
              · exact Nat.lt_of_lt_of_le (sim.sto.mlt b o h.1) hchg.size
            olt:=λb o hm=>Nat.lt_of_lt_of_le (sim.sto.olt b o hm) hchg.size
            dis:=λb o hO hM=>by
              rcases hM with h|h
              · exact hsto.dis b o (.inl hO) h
              · exact sim.sto.dis b o hO h.1}}
  · exact
      { size:=hchg.size
        keep:=λb o hb hm=>hchg.keep b o hb λh=>hm h.1
        blk:=λb hb hm=>hchg.blk b hb λo h=>hm o h.1
        shp:=hchg.shp
        sub:=λb o hm hb=>by
          rcases hm with h|h
          · exact(hchg.sub b o h hb).1
          · exact h.1
        tape:=hchg.tape
        os:=hchg.os
        output:=hchg.output}
theorem SimB.call{n:SN}{Oth M:Nat->Nat->Prop}{β:Nat->Nat}{a:Act}{w:World}(sim:SimB n Oth β A st M a w){g:FuncId}{args:List AV}{vs:Array Value}{R:Ja}
    (hc:ACalls P g args st R) (hv:Reads w (λb o=>M b o\/Oth b o) args vs.toList):
    Ms P (λv w'=>∃r st' M',R r st'/\VRel w' (λb o=>M' b o\/Oth b o) r v/\SimB n Oth β A st' M' a w'/\Chg M w M' w') ((callFunc g vs).run P w):=by
  have key:=sim.post (R:=R)
  have hout:=hc.out _ _ w vs sim.inner ⟨hv.1,λi x y hx hy=>(hv.2 i x y hx hy).mono Gf⟩
  generalize(callFunc g vs).run P w=res at*
  cases res with
  |halt h w'=>exact hout.elim
  | ok nx w'=>
    cases nx with
    |enter f as=>exact Calls.mono hout λe w'' ⟨v,he,hp⟩=>⟨v,he,key v w'' hp⟩
    |value v=>exact key v w' hout
    |_=>exact hout.elim
theorem Re{o:Oper}(hI:yp P c.I)(h:vcX P c o K A st):AOp P c.N o K A st:=by
  obtain⟨vs,hvs,h⟩:=zl h
  rintro Oth M a w ⟨β,sim⟩
  obtain⟨hm1,hm2⟩:=I7 hvs
  have hr:Reads w (λb o=>M b o\/Oth b o) vs (o.op.operands.map a.eval).toList:=by
    refine⟨by simp[hm1],λi x y hx hy=>?_⟩
    obtain⟨z,hz,hzz⟩:=hm2 i x hx
    have hz':o.op.operands[i]?=some z:=by simpa using hz
    rw[Fcy,Fap,hz]at hy
    simp at hy
    subst hy
    exact yz sim.env (K5 hzz)
  have hout:=h.out _ _ w a.eval hI sim.inner ⟨hr.1,λi x y hx hy=>(hr.2 i x y hx hy).mono Gf⟩
  have key:=sim.post (R:=λr st'=>ql A c.n o.dst (.av r) λA'=>K A' st')
  have fin:∀v w',(∃r st' M',(ql A c.n o.dst (.av r) λA'=>K A' st')/\VRel w' (λb o=>M' b o\/Oth b o) r v/\SimB c.N Oth β A st' M' a w'/\Chg M w M' w')->
      ∃A' st' M',K A' st'/\Sim c.N Oth A' st' M' (a.put o.dst v) w'/\Chg M w M' w':=by
    rintro v w' ⟨r,st',M',hk,hv,hs,hchg⟩
    unfold ql at hk
    cases hd:o.dst with
    |none=>rw[hd]at hk;exact⟨A,st',M',hk,⟨β,hs⟩,hchg⟩
    | some d=>
      rw[hd]at hk
      obtain⟨hlt,hk⟩:=vz hk
      exact⟨_,st',M',hk,⟨β,hs.put hlt hv⟩,hchg⟩
  unfold Oper.wp
  generalize(execOp a.eval o).run P w=res at*
  cases res with
  |halt h w'=>exact hout.elim
  | ok nx w'=>
    cases nx with
    |value v=>rw[Oper.upon_value];exact fin v w' (key v w' hout)
    | skip=>
      obtain⟨hd,hout⟩:=hout
      rw[Oper.upon_skip]
      have:=fin _ w' (key _ w' hout)
      rw[hd]at this⊢
      exact this
    |_=>exact hout.elim
theorem iw(w:World)(T:Nat->Nat->Prop)(l:List Value):Reads w T (l.map AV.s) l:=⟨by simp,λi x y hx hy=>by
  rw[Fap,hy]at hx
  cases hx
  exact .s _⟩
theorem ycq{w:World}{T:Nat->Nat->Prop}{x:LV}{g:FuncId}{fv cap:List AV}{v:Value}(h:Pj x=some (g,fv,cap))(hx:∀y,x=.av y->VRel w T y v):∃f c,v=.func (.func g) f c/\Reads w T fv f.toList/\Reads w T cap c.toList:=by
  unfold Pj at h
  split at h
  · cases h
    obtain⟨c,h1,h2⟩:=VRel.clos_inv (hx _ rfl)
    exact⟨#[],c,h1,Reads.nil,h2⟩
  · cases h
    exact⟨_,_,VRel.eq_s (hx _ rfl),iw _ _ _,iw _ _ _⟩
  · cases h
theorem ygs{o:Oper}{cl:Call}{f:Operand}(ho:o.op=.call cl)(hcl:cl.callee=.value f)
    (h:match Pj (A.ev f)with
      | some (g,fv,cap)=>optK (cl.args.toList.mapM λx=>(A.ev x).toAV) λvs=>
        ACalls P g (fv++(vs++cap)) st λr st'=>ql A c.n o.dst (.av r) λA'=>K A' st'
      |_=>False):AOp P c.N o K A st:=by
  split at h
  · rename_i g fv cap hf
    obtain⟨vs,hvs,h⟩:=zl h
    rintro Oth M a w ⟨β,sim⟩
    obtain⟨fvv,capv,hcv,hfr,hcr⟩:=ycq hf λx hx=>yz sim.env hx
    obtain⟨hm1,hm2⟩:=I7 hvs
    have hr1:Reads w (λb o=>M b o\/Oth b o) vs (cl.args.map a.eval).toList:=by
      refine⟨by simp[hm1],λi x y hx hy=>?_⟩
      obtain⟨z,hz,hzz⟩:=hm2 i x hx
      have hz':cl.args[i]?=some z:=by simpa using hz
      rw[Fcy,Fap,hz]at hy
      simp at hy
      subst hy
      exact yz sim.env (K5 hzz)
    have hr:Reads w (λb o=>M b o\/Oth b o) (fv++(vs++cap)) (fvv++(cl.args.map a.eval)++capv).toList:=by
      rw[Fbb,Fbb,Fas]
      exact hfr.append (hr1.append hcr)
    have hrun:(execOp a.eval o).run P w=(callFunc g (fvv++(cl.args.map a.eval)++capv)).run P w:=by
      simp[execOp,ho,resolve,hcl,hcv,Deferred.ofValue,invoke]
    have hc:=sim.call h hr
    unfold Oper.wp
    rw[hrun]
    have fin:∀v w',(∃r st' M',(ql A c.n o.dst (.av r) λA'=>K A' st')/\VRel w' (λb o=>M' b o\/Oth b o) r v/\SimB c.N Oth β A st' M' a w'/\Chg M w M' w')->
        ∃A' st' M',K A' st'/\Sim c.N Oth A' st' M' (a.put o.dst v) w'/\Chg M w M' w':=by
      rintro v w' ⟨r,st',M',hk,hv,hs,hchg⟩
      unfold ql at hk
      cases hd:o.dst with
      |none=>rw[hd]at hk;exact⟨A,st',M',hk,⟨β,hs⟩,hchg⟩
      | some d=>
        rw[hd]at hk
        obtain⟨hlt,hk⟩:=vz hk
        exact⟨_,st',M',hk,⟨β,hs.put hlt hv⟩,hchg⟩
    generalize(callFunc g (fvv++(cl.args.map a.eval)++capv)).run P w=res at*
    cases res with
    |halt h w'=>exact hc.elim
    | ok nx w'=>
      cases nx with
      | enter f as=>
        rw[Oper.upon_enter]
        exact Calls.mono hc λe w'' ⟨v,he,hp⟩=>by subst he;exact fin v w'' hp
      |value v=>rw[Oper.upon_value];exact fin v w' hc
      |_=>exact hc.elim
  · exact h.elim
theorem ygq{o:Oper}{cl:Call}{y:Operand}{m:String}(ho:o.op=.call cl)(hcl:cl.callee=.invoke y m)(h:O0 P c o cl m (A.ev y) K A st):AOp P c.N o K A st:=by
  unfold O0 at h
  split at h
  · rename_i t v hf
    obtain⟨vs,hvs,g,x,⟨u,hm,hu⟩,h⟩:=zl h
    rintro Oth M a w ⟨β,sim⟩
    have hcv:a.eval y=.iface t v:=VRel.eq_s (yz sim.env hf)
    obtain⟨hm1,hm2⟩:=I7 hvs
    have hr1:Reads w (λb o=>M b o\/Oth b o) vs (cl.args.map a.eval).toList:=by
      refine⟨by simp[hm1],λi x y hx hy=>?_⟩
      obtain⟨z,hz,hzz⟩:=hm2 i x hx
      have hz':cl.args[i]?=some z:=by simpa using hz
      rw[Fcy,Fap,hz]at hy
      simp at hy
      subst hy
      exact yz sim.env (K5 hzz)
    have hr:Reads w (λb o=>M b o\/Oth b o) (x::vs) (#[u]++(cl.args.map a.eval)).toList:=by
      rw[Fbb]
      exact Reads.cons (hu _ _) hr1
    have hrun:(execOp a.eval o).run P w=(callFunc g (#[u]++(cl.args.map a.eval))).run P w:=by
      have e1:(#[Value.iface t v]++Array.map a.eval cl.args).extract 1 (#[Value.iface t v]++Array.map a.eval cl.args).size=Array.map a.eval cl.args:=by
        apply Array.ext'
        simp only[Array.toList_extract,List.extract,Fbb,Array.size_append,List.drop_succ_cons,List.singleton_append,Fce]
        apply Fcd
        simp
      have e2:execOp a.eval o=callMethod (.iface t v) m ((#[Value.iface t v]++Array.map a.eval cl.args).extract 1 (#[Value.iface t v]++Array.map a.eval cl.args).size):=by
        have e3:(#[Value.iface t v]++Array.map a.eval cl.args)[0]?=some (Value.iface t v):=by rw[Fc2 (Nat.zero_lt_one)];rfl
        simp only[execOp,ho,resolve,hcl,hcv]
        simp only[pure_bind]
        unfold invoke
        simp only[e3]
      rw[e2,e1]
      simp[callMethod,hm]
    have hc:=sim.call h hr
    unfold Oper.wp
    rw[hrun]
    have fin:∀v w',(∃r st' M',(ql A c.n o.dst (.av r) λA'=>K A' st')/\VRel w' (λb o=>M' b o\/Oth b o) r v/\SimB c.N Oth β A st' M' a w'/\Chg M w M' w')->
        ∃A' st' M',K A' st'/\Sim c.N Oth A' st' M' (a.put o.dst v) w'/\Chg M w M' w':=by
      rintro v w' ⟨r,st',M',hk,hv,hs,hchg⟩
      unfold ql at hk
      cases hd:o.dst with
      |none=>rw[hd]at hk;exact⟨A,st',M',hk,⟨β,hs⟩,hchg⟩
      | some d=>
        rw[hd]at hk
        obtain⟨hlt,hk⟩:=vz hk
        exact⟨_,st',M',hk,⟨β,hs.put hlt hv⟩,hchg⟩
    generalize(callFunc g (#[u]++(cl.args.map a.eval))).run P w=res at*
    cases res with
    |halt h w'=>exact hc.elim
    | ok nx w'=>
      cases nx with
      | enter f as=>
        rw[Oper.upon_enter]
        exact Calls.mono hc λe w'' ⟨v,he,hp⟩=>by subst he;exact fin v w'' hp
      |value v=>rw[Oper.upon_value];exact fin v w' hc
      |_=>exact hc.elim
  · exact h.elim
end
section
variable {P:Program} {c:Cfg} {K:Fr->Store->Prop} {A:Fr} {st:Store}
theorem Hw{α:Type}{k:Nat}:∀{rows:List (List α)} (_:∀row∈rows,row.length=k) {i j:Nat} {row:List α} {x:α},rows[i]?=some row->row[j]?=some x->rows.flatten[i*k+j]?=some x:=by
  intro rows
  induction rows with
  |nil=>intro _ i j row x h;simp at h
  | cons r rows ih=>
    intro hk i j row x h1 h2
    have hr:r.length=k:=hk r (by simp)
    cases i with
    | zero=>
      simp at h1
      subst h1
      have hj:j<r.length:=(Faf.1 h2).1
      simp only[Fcz]
      rw[Fam (by omega)]
      simpa using h2
    | succ i=>
      have:=ih (λrow h=>hk row (by simp[h])) (by simpa using h1) h2
      simp only[Fcz]
      rw[Faw (by rw[Fb2];omega)]
      rw[hr]
      have e:(i+1)*k+j-k=i*k+j:=by rw[Fb2];omega
      rw[e]
      exact this
theorem Ay{α:Type}{k:Nat}:∀{rows:List (List α)} (_:∀row∈rows,row.length=k),rows.flatten.length=rows.length*k:=by
  intro rows
  induction rows with
  |nil=>intro _;simp
  | cons r rows ih=>
    intro hk
    have hr:r.length=k:=hk r (by simp)
    have:=ih (λrow h=>hk row (by simp[h]))
    simp only[Fcz,Fag,Fbi,this,hr,Fb2]
    omega
theorem fy(r l xs:List AV)(o:Nat):zu (r++l) (r.length+o) xs=r++zu l o xs:=by
  unfold zu
  rw[List.take_append,Fex]
  have h1:List.take (r.length+o) r=r:=Fcd (by omega)
  have h2:List.drop (r.length+o+xs.length) r=[]:=Fc1 (by omega)
  rw[h1,h2]
  have e1:r.length+o-r.length=o:=by omega
  have e2:r.length+o+xs.length-r.length=o+xs.length:=by omega
  rw[e1,e2]
  simp
theorem ycw{k:Nat}{xs:List AV}(hx:xs.length=k):∀{rows:List (List AV)} (_:∀row∈rows,row.length=k) {i:Nat},i<rows.length->(rows.set i xs).flatten=zu rows.flatten (i*k) xs:=by
  intro rows
  induction rows with
  |nil=>intro _ i h;simp at h
  | cons r rows ih=>
    intro hk i hi
    have hr:r.length=k:=hk r (by simp)
    cases i with
    | zero=>
      simp only[List.set_cons_zero,Fcz,Nat.zero_mul]
      unfold zu
      simp only[Fch,Fc0,Fbd]
      rw[Fex,hx,hr]
      simp[hr]
    | succ i=>
      simp only[List.set_cons_succ,Fcz]
      rw[ih (λrow h=>hk row (by simp[h])) (by simpa using hi)]
      rw[<-fy]
      congr 1
      rw[Fb2,hr]
      omega
theorem zzx{k n:Nat}:∀(parts:List (Nat×LV)) (acc rows:List (List AV)),(∀row∈acc,row.length=k)->acc.length=n->Ge k n acc parts=some rows->
    Gn (λi=>some (i*k,k)) acc.flatten parts=some rows.flatten/\(∀row∈rows,row.length=k)/\rows.length=n:=by
  intro parts
  induction parts with
  |nil=>intro acc rows h1 h2 h;simp[Ge]at h;subst h;exact⟨rfl,h1,h2⟩
  | cons p parts ih=>
    intro acc rows h1 h2 h
    obtain⟨i,x⟩:=p
    simp only[Ge]at h
    cases x with
    | av x=>
      simp only at h
      cases hc:cellsOf x with
      |none=>rw[hc]at h;cases h
      | some xs=>
        rw[hc]at h
        simp only at h
        cases hb:(Nat.beq xs.length k&&Nat.blt i n)with
        |false=>rw[hb]at h;cases h
        | true=>
          rw[hb]at h
          simp only[cond_true]at h
          simp only[Fax]at hb
          have hx:xs.length=k:=(xe _ _).1 hb.1
          have hi:i<n:=Fbg hb.2
          obtain⟨h3,h4,h5⟩:=ih (acc.set i xs) rows (λrow hr=>by
            rcases List.mem_or_eq_of_mem_set hr with h'|h'
            · exact h1 row h'
            · rw[h'];exact hx) (by simpa using h2) h
          refine⟨?_,h4,h5⟩
          have hfl:=Ay h1
          have hle:(i+1)*k<=n*k:=Fa7 k hi
          have hb2:(Nat.beq xs.length k&&Nat.ble (i*k+k) acc.flatten.length)=true:=by
            simp only[Fax]
            refine⟨(xe _ _).2 hx,Fcg ?_⟩
            rw[hfl,h2]
            rw[Fb2]at hle
            omega
          simp only[Gn,hc,hb2,cond_true]
          rw[<-ycw hx h1 (by omega)]
          exact h3
    |_=>simp at h
theorem Rn{w:World}{M Oth T':Nat->Nat->Prop}{rows:List (List AV)}{k:Nat}(hk:∀row∈rows,row.length=k){cs:Array Value}{e:TypeId}{cap:Nat}
    (hr:∀(i:Nat) (x:AV),rows.flatten[i]?=some x->∃v,cs[i]?=some v/\VRel w (λb o=>M b o\/Oth b o) x v/\qo v=true) (hcap:rows.length<=cap) (tok:Option Nat)
    (hT:Keeps w (λb o=>M b o\/Oth b o) (w.alloc (.cells cs e)) T') (hno:∀o,o<rows.length*k->¬T' w.heap.size o)
    (htok:∀t,tok=some t->t=w.heap.size/\rows≠[]/\cap*k<=cs.size):
    VRel (w.alloc (.cells cs e)) T' (.lst k rows tok) (.slice (some ⟨w.heap.size,0,none⟩) rows.length cap):=by
  have hlen:=Ay hk
  have hlt:∀(i:Nat) (row:List AV) (j:Nat) (x:AV),rows[i]?=some row->row[j]?=some x->i*k+j<rows.length*k:=by
    intro i row j x h1 h2
    have:=(Faf.1 (Hw hk h1 h2)).1
    omega
  refine VRel.lst rows tok w.heap.size 0 cap k (λj=>cs.getD j undef) hcap (λi row h=>hk row (Fau h)) (λt ht=>?_) (λi row j x h1 h2=>?_) (λi row j x h1 h2=>?_) (λi row j x h1 h2=>?_)
  · obtain⟨h1,h2,h3⟩:=htok t ht
    exact⟨h1,rfl,h2,cs,e,(0,0),Gi w _,h3⟩
  · obtain⟨v,hv,_⟩:=hr _ x (Hw hk h1 h2)
    refine⟨?_,by simpa using hno _ (hlt i row j x h1 h2)⟩
    simp only[Fbd]
    rw[World.cell?_alloc_new]
    simp[hv]
  · obtain⟨v,hv,_,hv1⟩:=hr _ x (Hw hk h1 h2)
    have:cs.getD (i*k+j) undef=v:=by simp[hv]
    simp only[this]
    exact hv1
  · obtain⟨v,hv,hvr,_⟩:=hr _ x (Hw hk h1 h2)
    have:cs.getD (i*k+j) undef=v:=by simp[hv]
    simp only[this]
    exact hvr.keep hT
theorem n7(w:World)(o:Obj)(M Oth:Nat->Nat->Prop)(top:Nat):Keeps w (λb o=>M b o\/Oth b o) (w.alloc o) (λb o=>Rg M w.heap.size top b o\/Oth b o) where
  cell:=(Ff w o M Oth).cell
  out b o' c hc hT hT':=by
    rcases hT' with(h|h)|h
    · exact hT (.inl h)
    · have:=Kr hc;omega
    · exact hT (.inr h)
  shp:=(Ff w o M Oth).shp
theorem zww(z:Array Value)(n:Nat)(hz:0<z.size):((Array.range (n*z.size)).map (λi=>z[i%z.size]!)).toList=(List.replicate n z.toList).flatten:=by
  induction n with
  |zero=>simp
  | succ n ih=>
    rw[List.replicate_succ',Fef,<-ih]
    simp only[Fcy,Array.toList_range,Fb2,Nat.one_mul,List.range_add,Fbe,List.map_map,Fcz,List.flatten_nil,Fbp]
    congr 1
    apply Fb9
    intro i
    simp only[Fap]
    by_cases hi:i<z.size
    · simp[hi,Nat.mod_eq_of_lt hi]
    · simp[hi]
theorem u0{o:Oper}{t:TypeId}{n:Nat}{parts:Array (Nat×Operand)}(ho:o.op=.buildSlice t n parts)(hI:yp P c.I)
    (h:optK (c.I t) λi=>optK o.dst λd=>bif Nat.blt d c.n then(match i.ty with
      | .slice e=>optK (c.I e) λie=>optK (Ge ie.size n (List.replicate n (we ie)) (parts.toList.map λp=>(p.1,A.ev p.2))) λrows=>
        bif rows.flatten.all AV.one then n*ie.size<=16777216/\(match rows with
          |[]=>K (A.put d (.av .emp)) st
          | _ ::_=>bif c.G.contains d then(bif c.G.contains (d+1000000)then∀b,Fresh st b->K (A.put d (.av (.s (.slice (some ⟨b,0,none⟩) rows.length rows.length)))) (st.sO b (.cells rows.flatten))
              else∀b,Fresh st b->K (A.put d (.av (.lst ie.size rows (some b)))) (st.sT b (some (rows.length*ie.size))))
            else K (A.put d (.av (.lst ie.size rows none))) st)else False
      |_=>False)else False):AOp P c.N o K A st:=by
  obtain⟨i,hi,h⟩:=zl h
  obtain⟨d,hd,h⟩:=zl h
  obtain⟨hlt,h⟩:=vz h
  split at h
  · rename_i e hty
    obtain⟨ie,hie,h⟩:=zl h
    replace h:=zl h
    obtain⟨rows,hrows,h⟩:=h
    cases hone:rows.flatten.all AV.one with
    |false=>rw[hone]at h;exact h.elim
    |true=>
    rw[hone]at h
    simp only[cond_true]at h
    obtain⟨hroom,hK⟩:=h
    rintro Oth M a w ⟨β,sim⟩
    obtain⟨z,hz1,hz2⟩:=Iq (hI _ _ hie) w
    have hzs:z.cells.size=ie.size:=by rw[<-(hI _ _ hie).zsz,<-hz2];simp
    obtain⟨hf1,hf2,hf3⟩:=zzx _ _ rows (λrow hr=>by
      rw[List.eq_of_mem_replicate hr]
      simp[we,(hI _ _ hie).zsz]) (by simp) hrows
    let base:Array Value:=(Array.range (n*ie.size)).map (λi=>(if n*ie.size=0 then #[]else z.cells)[i%(if n*ie.size=0 then #[]else z.cells).size]!)
    have hbase:Reads w (λb o=>M b o\/Oth b o) (List.replicate n (we ie)).flatten base.toList:=by
      by_cases hn:n=0
      · subst hn
        simpa [base]using(Reads.nil (w:=w) (T:=λb o=>M b o\/Oth b o))
      · by_cases hs0:ie.size=0
        · have e1:base.toList=[]:=by simp[base,hs0]
          have e2:(List.replicate n (we ie)).flatten=[]:=by
            have:we ie=[]:=Fa0 (by simp[we,(hI _ _ hie).zsz,hs0])
            rw[this]
            simp
          rw[e1,e2]
          exact Reads.nil
        have hne:¬n*ie.size=0:=by
          intro h0
          rcases Nat.mul_eq_zero.1 h0 with h|h<;>omega
        have:base.toList=(List.replicate n z.cells.toList).flatten:=by
          simp only[base,hne,if_false]
          rw[<-hzs]
          exact zww z.cells n (by omega)
        rw[this,hz2]
        have e:(List.replicate n (we ie)).flatten=(List.replicate n ie.zero).flatten.map AV.s:=by
          rw[List.map_flatten]
          simp[we]
        rw[e]
        exact Reads.map_s _
    have hparts:((parts.toList.map λp=>(p.1,A.ev p.2))).length=(parts.map λ(p:Nat×Operand)=>(p.1,a.eval p.2)).toList.length∧
        ∀(i:Nat) (p:Nat×LV) (v:Nat×Value),(parts.toList.map λp=>(p.1,A.ev p.2))[i]?=some p->(parts.map λ(p:Nat×Operand)=>(p.1,a.eval p.2)).toList[i]?=some v->p.1=v.1/\LRel w (λb o=>M b o\/Oth b o) β p.2 v.2:=by
      refine⟨by simp,λi p v hp hv=>?_⟩
      rw[Fcy,Fap]at hv
      rw[Fap]at hp
      cases hq:parts.toList[i]? with
      |none=>rw[hq]at hp;cases hp
      | some q=>
        rw[hq]at hp hv
        simp at hp hv
        subst hp hv
        exact⟨rfl,sim.ev _⟩
    obtain⟨ds,hds1,hds2⟩:=Wp (β:=β) (place:=λi=>some (i*ie.size,ie.size)) _ _ _ base rows.flatten hparts.1 hparts.2 hbase hf1
    have hrun:(execOp a.eval o).run P w=.ok (.value (.slice (some ⟨w.heap.size,0,none⟩) n n)) (w.alloc (.cells ds e)):=by
      have h1:¬n*ie.size>2^24:=by omega
      simp only[execOp,ho,Instr.buildSlice,Sem.run_bind,yf (xf (hI _ _ hi) hty),Result.andThen_ok,jh (hI _ _ hie),h1,if_false]
      by_cases hn0:n*ie.size=0
      · have h2:Instr.fill (λi=>some (i*ie.size,ie.size)) (Array.map (λx=>(#[]:Array Value)[x%(#[]:Array Value).size]!) (Array.range (n*ie.size))) (Array.map (λ(x:Nat×Operand)=>(x.1,a.eval x.2)) parts).toList=some ds:=by
          have:=hds1
          simp only[base,hn0,if_true]at this⊢
          exact this
        rw[if_pos hn0]
        simp only[Sem.run_bind,Sem.run_pure,Result.andThen_ok,h2]
        simp[newRow]
      · have h2:Instr.fill (λi=>some (i*ie.size,ie.size)) (Array.map (λx=>z.cells[x%z.cells.size]!) (Array.range (n*ie.size))) (Array.map (λ(x:Nat×Operand)=>(x.1,a.eval x.2)) parts).toList=some ds:=by
          have:=hds1
          simp only[base,hn0,if_false]at this⊢
          exact this
        rw[if_neg hn0]
        simp only[Sem.run_bind,hz1,Sem.run_pure,Result.andThen_ok,h2]
        simp[newRow]
    unfold Oper.wp
    rw[hrun,Oper.upon_value,hd]
    have hlen:=Ay hf2
    have hdsz:ds.size=n*ie.size:=by
      have:=hds2.1
      rw[hlen,hf3]at this
      simpa using this.symm
    have hread:∀(i:Nat) (x:AV),rows.flatten[i]?=some x->∃v,ds[i]?=some v/\VRel w (λb o=>M b o\/Oth b o) x v/\qo v=true:=λi x hx=>by
      obtain⟨v,hv,hvr⟩:=hds2.getElem? hx
      exact⟨v,by simpa using hv,hvr,Vf hvr (Fb5.1 hone _ (Fau hx))⟩
    have hnoT:∀o,¬(M w.heap.size o\/Oth w.heap.size o):=λo h=>by
      rcases h with h|h
      · have:=sim.sto.mlt _ _ h;omega
      · have:=sim.sto.olt _ _ h;omega
    subst hf3
    cases rows with
    |nil=>exact⟨_,_,M,hK,⟨β,(sim.grow (Grow.alloc w _)).put hlt (x:=.av .emp) (VRel.emp _ (λx h=>by cases h;rfl))⟩,(Grow.alloc w _).chg M⟩
    | cons r rs=>
      cases hg:c.G.contains d with
      | true=>
        cases hg2:c.G.contains (d+1000000)with
        | true=>
          simp only[hg,hg2,cond_true]at hK
          refine⟨_,_,_,hK w.heap.size (sim.sto.fresh (Fak _)),⟨β,(sim.newObj (.cells ds e) (.cells (r::rs).flatten) (Mj w e M Oth hds2)).put hlt (VRel.s _)⟩,Gp _ _ _⟩
        |false=>
        simp only[hg,hg2,cond_true,cond_false]at hK
        refine⟨_,_,_,hK w.heap.size (sim.sto.fresh (Fak _)),⟨β,(sim.newTok ds e ((r::rs).length*ie.size) (by omega)).put hlt ?_⟩,s8 _ _ _ _⟩
        refine Rn hf2 hread (Fak _) _ (n7 _ _ _ _ _) (λo ho hh=>?_) (λt ht=>?_)
        · rcases hh with(h|h)|h
          · exact hnoT o (.inl h)
          · omega
          · exact hnoT o (.inr h)
        · cases ht;exact⟨rfl,by simp,by omega⟩
      | false=>
        simp only[hg,cond_false]at hK
        refine⟨_,_,M,hK,⟨β,(sim.grow (Grow.alloc w _)).put hlt ?_⟩,(Grow.alloc w _).chg M⟩
        exact Rn hf2 hread (Fak _) _ ((Grow.alloc w _).keeps _) (λo ho hh=>hnoT o hh) (λt ht=>by cases ht)
  · exact h.elim
end
section
variable {P:Program} {c:Cfg} {K:Fr->Store->Prop} {A:Fr} {st:Store}
theorem zvs(n:Nat)(w:World):(askRoom n).run P w=.ok () w:=by
  unfold askRoom
  split<;>simp[mark,Sem.run]
theorem zvr(need old e:Nat)(w:World):∃n,need<=n/\(need<=140737488355328->n<=9223372036854775807)/\(choose (.appendCap need old e)).run P w=.ok n w.drew:=by
  refine⟨need+w.tape w.drawn (.appendCap need old e)%(2^63-need),Nat.le_add_right _ _,λh=>?_,rfl⟩
  have:=Nat.mod_lt (w.tape w.drawn (.appendCap need old e)) (show 0<2^63-need by omega)
  omega
structure AppArgs(P:Program)(c:Cfg)(argTypes:Array TypeId)(args:Array Value)(t e:TypeId)(ie:TI)(base:Option Addr)(sLen sCap:Nat)(xv:Value):Prop where
  ht:argTypes[0]?=some t
  ht1:∃t1 e1,argTypes[1]?=some t1/\P.underlying t1=some (.slice e1)
  hty:P.underlying t=some (.slice e)
  hie:TIok P e ie
  h0:args[0]?=some (.slice base sLen sCap)
  h1:args[1]?=some xv
theorem H3{argTypes:Array TypeId}{args:Array Value}{t e:TypeId}{ie:TI}{base:Option Addr}{sLen sCap n:Nat}{xv:Value}(ty:TypeId)(h:AppArgs P c argTypes args t e ie base sLen sCap xv){w:World}{old new:Array Value}
    (hlen:(Builtin.lenOf xv).run P w=.ok n w) (hnew:(Builtin.firstCells ie.size n xv).run P w.drew=.ok new w.drew) (hold:(Builtin.firstCells ie.size sLen (.slice base sLen sCap)).run P w.drew=.ok old w.drew)
    (hneed:sCap<sLen+n) (hroom:room (sLen+n) ie.bytes):
    ∃ newCap rest,sLen+n<=newCap/\newCap<=9223372036854775807/\rest.size=(newCap-(sLen+n))*ie.size∧
      (Builtin.append_ argTypes ty args).run P w=.ok (.slice (some ⟨w.heap.size,0,none⟩) (sLen+n) newCap) (w.drew.alloc (.cells (old++new++rest) e)):=by
  obtain⟨newCap,hcap,hcap2,hch⟩:=zvr (P:=P) (sLen+n) sCap e w
  obtain⟨z,hz1,hz2⟩:=Iq h.hie w.drew
  obtain⟨t1,e1,ht1,hu1⟩:=h.ht1
  obtain⟨inf,hinf,hsz,hby,_⟩:=h.hie.info
  have hzs:z.cells.size=ie.size:=by rw[<-h.hie.zsz,<-hz2];simp
  refine⟨newCap,Builtin.zeroCells z.cells (newCap-(sLen+n)),hcap,hcap2 hroom.2,by simp[Builtin.zeroCells,hzs],?_⟩
  obtain⟨hr1,hr2⟩:=hroom
  have hc1:¬(sLen+n<=sCap):=by omega
  have hc2:¬(((sLen+n:Nat):Int)>IntKind.i64.max):=by
    simp[IntKind.max,IntKind.signed,IntKind.bits]
    omega
  have hc3:¬(Builtin.nextslicecap (sLen+n) sCap*ie.bytes>2^48):=by
    have h1:=nextslicecap_le hneed
    have h2:Builtin.nextslicecap (sLen+n) sCap*ie.bytes<=2*(sLen+n)*ie.bytes:=Fa7 _ h1
    rw[Nat.mul_assoc]at h2
    omega
  have hti:∀w:World,(typeInfo e).run P w=.ok inf w:=λw=>by simp[typeInfo,hinf]
  simp only[Builtin.append_,h.ht,h.h0,h.h1,Sem.run_bind,yf h.hty,Result.andThen_ok,jh h.hie,ht1,yf hu1,Sem.run_pure]
  simp only[Fad,if_false,hlen,Result.andThen_ok,hc1,hc2,false_and,Sem.run_bind,hti,hby,hc3,hch,zvs,hold,hnew,Bool.not_false,if_true,hz1]
  simp[newRow]
  rfl
theorem Kv{argTypes:Array TypeId}{args:Array Value}{t e:TypeId}{ie:TI}{base:Option Addr}{sLen sCap n:Nat}{xv:Value}(ty:TypeId)(h:AppArgs P c argTypes args t e ie base sLen sCap xv){w w':World}{new:Array Value}
    (hlen:(Builtin.lenOf xv).run P w=.ok n w) (hnew:(Builtin.firstCells ie.size n xv).run P w=.ok new w)
    (hneed:sLen+n<=sCap) (hst:∀a,base=some a->(storeCells (a.add (sLen*ie.size)) new.toList).run P w=.ok () w') (hno:base=none->w'=w):
    (Builtin.append_ argTypes ty args).run P w=.ok (.slice base (sLen+n) sCap) w':=by
  obtain⟨t1,e1,ht1,hu1⟩:=h.ht1
  simp only[Builtin.append_,h.ht,h.h0,h.h1,Sem.run_bind,yf h.hty,Result.andThen_ok,jh h.hie,ht1,yf hu1,Sem.run_pure]
  simp only[Fad,if_false,hlen,Result.andThen_ok,hneed,if_true,Bool.not_false,Sem.run_bind,hnew]
  cases base with
  |none=>rw[hno rfl];simp
  |some a=>simp[hst a rfl]
theorem Pk{α:Type}{k:Nat}:∀{rows:List (List α)} (_:∀row∈rows,row.length=k) {p:Nat} {x:α},rows.flatten[p]?=some x->∃(i j:Nat) (row:List α),p=i*k+j/\rows[i]?=some row/\row[j]?=some x:=by
  intro rows
  induction rows with
  |nil=>intro _ p x h;simp at h
  | cons r rows ih=>
    intro hk p x h
    have hr:r.length=k:=hk r (by simp)
    simp only[Fcz]at h
    by_cases hp:p<r.length
    · rw[Fam hp]at h
      exact⟨0,p,r,by omega,rfl,h⟩
    · rw[Faw (by omega)]at h
      obtain⟨i,j,row,h1,h2,h3⟩:=ih (λrow h=>hk row (by simp[h])) h
      exact⟨i+1,j,row,by rw[Fb2];omega,by simpa using h2,h3⟩
theorem V8{w w':World}(h:w'.heap=w.heap)(a:Addr):w'.cell? a=w.cell? a:=by simp only[World.cell?,h]
theorem Ij{w:World}{T:Nat->Nat->Prop}{β:Nat->Nat}{k:Nat}{x:LV}{xv:Value}{rows:List (List AV)}(hx:LRel w T β x xv)(h:vi k x=some rows):
    (Builtin.lenOf xv).run P w=.ok rows.length w/\(∀row∈rows,row.length=k)∧
      ∃new:Array Value,Reads w T rows.flatten new.toList/\(∀v∈new.toList,qo v=true)/\new.size=rows.length*k/\∀w',w'.heap=w.heap->(Builtin.firstCells k rows.length xv).run P w'=.ok new w':=by
  unfold vi at h
  split at h
  · rename_i k' rows' tok
    cases hb:Nat.beq k' k with
    |false=>rw[hb]at h;cases h
    | true=>
      rw[hb]at h
      simp only[cond_true,Fah]at h
      subst h
      obtain rfl:=(xe _ _).1 hb
      rcases Kz hx with⟨ad,cap,hv,h2,_,rfl⟩|⟨b,off,cap,hv,hcap,hk,f,hf⟩
      · subst h2
        exact⟨by simp[hv,Builtin.lenOf],by simp,#[],Reads.nil,by simp,by simp,λw' _=>by cases ad<;>simp[hv,Builtin.firstCells,loadCells,loadCellsFrom]⟩
      · have hk':∀row∈rows',row.length=k':=λrow hr=>by
          obtain⟨i,hi⟩:=Fa2.1 hr
          exact hk i row hi
        refine⟨by simp[hv,Builtin.lenOf],hk',((List.range' 0 (rows'.length*k')).map f).toArray,⟨?_,?_⟩,λv hv=>?_,by simp,λw' hw=>?_⟩
        · rw[Ay hk'];simp
        · intro p x y hp hy
          obtain⟨i,j,row,h1,h2,h3⟩:=Pk hk' hp
          have hlt:=(Faf.1 hp).1
          rw[Ay hk']at hlt
          simp[hlt]at hy
          subst hy
          subst h1
          exact(hf i row j x h2 h3).2.2.1
        · simp only[Fac]at hv
          obtain⟨p,hp,rfl⟩:=hv
          have hlt:p<rows'.flatten.length:=by rw[Ay hk'];simpa using hp
          obtain⟨i,j,row,h1,h2,h3⟩:=Pk hk' (Fab hlt)
          subst h1
          exact(hf i row j _ h2 h3).2.2.2
        · have:=Ir (P:=P) ⟨b,off,none⟩ w' f (rows'.length*k') 0 #[] (λp _ hp=>by
            rw[ve,V8 hw]
            have hlt:p<rows'.flatten.length:=by rw[Ay hk'];omega
            obtain⟨i,j,row,h1,h2,h3⟩:=Pk hk' (Fab hlt)
            subst h1
            exact(hf i row j _ h2 h3).1)
          simp only[hv,Builtin.firstCells,loadCells]
          simpa using this
  · simp at h
    subst h
    have hv:xv=.slice none 0 _:=VRel.eq_s hx
    exact⟨by simp[hv,Builtin.lenOf],by simp,#[],Reads.nil,by simp,by simp,λw' _=>by simp[hv,Builtin.firstCells]⟩
  · simp at h
    subst h
    have hv:∃a,xv=.slice a 0 0:=by
      cases hx with
      |emp a h=>exact⟨a,rfl⟩
    obtain⟨a,hv⟩:=hv
    refine⟨by simp[hv,Builtin.lenOf],by simp,#[],Reads.nil,by simp,by simp,λw' _=>?_⟩
    cases a with
    |none=>simp[hv,Builtin.firstCells]
    |some a=>simp[hv,Builtin.firstCells,loadCells,loadCellsFrom]
  · cases h
theorem Owned.nil(k:Nat)(st:Store):Owned k st .emp [] st:=.inl ⟨rfl,rfl,rfl⟩
theorem SimB.appendNew{n:SN}{Oth M:Nat->Nat->Prop}{β:Nat->Nat}{a:Act}{w:World}(sim:SimB n Oth β A st M a w){rows:List (List AV)}{k:Nat}(hk:∀row∈rows,row.length=k)(hne:rows≠[])
    {cs:Array Value} {e:TypeId} {cap:Nat} (hr:∀(i:Nat) (x:AV),rows.flatten[i]?=some x->∃v,cs[i]?=some v/\VRel w (λb o=>M b o\/Oth b o) x v/\qo v=true) (hcap:rows.length<=cap) (hsz:cap*k<=cs.size):
    ∃ st' M',Owned k st (.lst k rows (some w.heap.size)) rows st'/\SimB n Oth β A st' M' a (w.drew.alloc (.cells cs e))/\Chg M w M' (w.drew.alloc (.cells cs e))∧
      VRel (w.drew.alloc (.cells cs e)) (λb o=>M' b o\/Oth b o) (.lst k rows (some w.heap.size)) (.slice (some ⟨w.heap.size,0,none⟩) rows.length cap):=by
  have hle:rows.length*k<=cap*k:=Fa7 k hcap
  refine⟨_,_,.inr ⟨hne,w.heap.size,sim.sto.fresh (Fak _),rfl,rfl⟩,(sim.grow (Grow.drew w)).newTok cs e (rows.length*k) (by omega),((Grow.drew w).chg M).trans (s8 w.drew _ M _),?_⟩
  refine Rn (w:=w.drew) (M:=M) (Oth:=Oth) hk (λi x hx=>?_) hcap _ (n7 w.drew _ _ _ _) (λo ho hh=>?_) (λt ht=>?_)
  · obtain⟨v,h1,h2,h3⟩:=hr i x hx
    exact⟨v,h1,h2.keep ((Grow.drew w).keeps _),h3⟩
  · rcases hh with(h|h)|h
    · have:=sim.sto.mlt _ _ h;exact absurd this (Fet _)
    · omega
    · have:=sim.sto.olt _ _ h;exact absurd this (Fet _)
  · cases ht;exact⟨rfl,hne,hsz⟩
theorem getElem?_append3{old new rest:Array Value}{i:Nat}{v:Value}(h:(old.toList++new.toList)[i]?=some v):(old++new++rest)[i]?=some v:=by
  have hlt:=(Faf.1 h).1
  rw[<-Fb1,Fbb,Fbb,Fam hlt]
  exact h
theorem zbr{w:World}{T:Nat->Nat->Prop}{k:Nat}{rows:List (List AV)}{b:Nat}{base:Option Addr}{sLen sCap:Nat}(h:VRel w T (.lst k rows (some b)) (.slice base sLen sCap)):
    base=some ⟨b,0,none⟩/\sLen=rows.length/\rows.length<=sCap/\rows≠[]/\(∀row∈rows,row.length=k)/\(∃c e fr,w.heap[b]?=some (.cells c e fr)/\sCap*k<=c.size)/\∃f:Nat->Value,
      (∀(i:Nat) (row:List AV) (j:Nat) (x:AV),rows[i]?=some row->row[j]?=some x->w.cell? ⟨b,i*k+j,none⟩=some (f (i*k+j))/\¬T b (i*k+j)/\VRel w T x (f (i*k+j))/\qo (f (i*k+j))=true):=by
  cases h with
  | lst _ _ b' off cap _ f hcap hk htok hc h0 hx=>
    obtain⟨rfl,rfl,h1,h2⟩:=htok b rfl
    refine⟨rfl,rfl,hcap,h1,λrow hr=>?_,h2,f,λi row j x h3 h4=>?_⟩
    · obtain⟨i,hi⟩:=Fa2.1 hr
      exact hk i row hi
    · have:=hc i row j x h3 h4
      simp only[Fbd]at this
      exact⟨this.1,this.2,hx i row j x h3 h4,h0 i row j x h3 h4⟩
theorem bv{n:SN}{Oth M:Nat->Nat->Prop}{β:Nat->Nat}{a:Act}{w:World}(sim:SimB n Oth β A st M a w){argTypes:Array TypeId}{args:Array Value}{t e:TypeId}{ie:TI}{base:Option Addr}{sLen sCap:Nat}{xv:Value}(ty:TypeId)
    (h:AppArgs P c argTypes args t e ie base sLen sCap xv) {x:LV} (hx:LRel w (λb o=>M b o\/Oth b o) β x xv) {rows':List (List AV)} (hs:vi ie.size x=some rows'):
    ((sLen=0/\sCap=0/\∀x,base=some x->x.spot=none)->room rows'.length ie.bytes->∃v w' r st' M',(Builtin.append_ argTypes ty args).run P w=.ok v w'/\Owned ie.size st r rows' st'/\SimB n Oth β A st' M' a w'/\Chg M w M' w'/\VRel w' (λb o=>M' b o\/Oth b o) r v)∧
    (∀rows b,0<ie.size->VRel w (λb o=>M b o\/Oth b o) (.lst ie.size rows (some b)) (.slice base sLen sCap)->st.tok b=some (rows.length*ie.size)->room (rows++rows').length ie.bytes->
      ∃v w' r st' M',(Builtin.append_ argTypes ty args).run P w=.ok v w'/\Owned ie.size (st.sT b none) r (rows++rows') st'/\SimB n Oth β A st' M' a w'/\Chg M w M' w'/\VRel w' (λb o=>M' b o\/Oth b o) r v):=by
  obtain⟨hlen,hk',new,hnr,hone,hns,hnew⟩:=Ij (P:=P) hx hs
  constructor
  · rintro⟨rfl,rfl,hspot⟩ hroom
    by_cases hn:rows'=[]
    · subst hn
      refine⟨_,w,.emp,st,M,Kv ty h (w':=w) hlen (hnew w rfl) (by simp) (λa ha=>?_) (λ_=>rfl),Owned.nil _ _,sim,Chg.refl M w,VRel.emp _ hspot⟩
      have:new.toList=[]:=by
        apply Fa0
        rw[Fb4,hns]
        simp
      rw[this]
      simp[storeCells]
    · have hpos:0<rows'.length:=List.length_pos_iff.2 hn
      obtain⟨newCap,rest,h1,_,h2,h3⟩:=H3 ty h (old:=#[]) hlen (hnew w.drew rfl) (by cases base<;>simp[Builtin.firstCells,loadCells,loadCellsFrom]) (by omega) (by simpa using hroom)
      simp only[Fbd]at h1 h2 h3
      obtain⟨st',M',ho,hsim,hchg,hv⟩:=sim.appendNew (cs:=#[]++new++rest) (e:=e) (cap:=newCap) hk' hn (λi x hx=>by
        obtain⟨v,hv,hvr⟩:=hnr.getElem? hx
        exact⟨v,getElem?_append3 (by simpa using hv),hvr,hone v (Fau hv)⟩) h1 (by
          simp only[Array.size_append,hns,h2,Array.size_empty]
          have:=Fa7 ie.size h1
          rw[Nat.sub_mul]
          omega)
      exact⟨_,_,_,st',M',h3,ho,hsim,hchg,hv⟩
  · intro rows b hpos hsv htb hroom
    obtain⟨rfl,rfl,hcap,hne,hk,⟨c0,e0,fr0,hblk,hcsz⟩,f,hf⟩:=zbr hsv
    have hkk:∀row∈rows++rows',row.length=ie.size:=λrow hr=>by
      rcases Fal.1 hr with h|h
      · exact hk row h
      · exact hk' row h
    obtain⟨c1,e1,fr1,hb1,hunf,htop,hMtop⟩:=sim.sto.tok b _ htb
    rw[hblk]at hb1
    cases hb1
    -- the first cell
    have hfirst:¬M b 0:=by
      cases rows with
      |nil=>exact absurd rfl hne
      | cons r rs=>
        have hr:r.length=ie.size:=hk r (by simp)
        cases r with
        |nil=>simp at hr;omega
        | cons y ys=>
          have:=(hf 0 (y::ys) 0 y rfl rfl).2.1
          simp at this
          exact this.1
    have hold:∀p,p<rows.length*ie.size->w.cell? ⟨b,p,none⟩=some (f p)/\¬(M b p\/Oth b p)/\qo (f p)=true/\∀x,rows.flatten[p]?=some x->VRel w (λb o=>M b o\/Oth b o) x (f p):=λp hp=>by
      have hlt:p<rows.flatten.length:=by rw[Ay hk];omega
      obtain⟨i,j,row,h1,h2,h3⟩:=Pk hk (Fab hlt)
      have:=hf i row j _ h2 h3
      rw[<-h1]at this
      refine⟨this.1,this.2.1,this.2.2.2,λx hx=>?_⟩
      rw[Fab hlt]at hx
      cases hx
      exact this.2.2.1
    have holdR:Reads w (λb o=>M b o\/Oth b o) rows.flatten ((List.range' 0 (rows.length*ie.size)).map f):=by
      refine⟨by rw[Ay hk];simp,λp x y hp hy=>?_⟩
      have hlt:=(Faf.1 hp).1
      rw[Ay hk]at hlt
      simp[hlt]at hy
      subst hy
      exact(hold p hlt).2.2.2 x hp
    by_cases hstay:rows.length+rows'.length<=sCap
    · have hle:(rows.length+rows'.length)*ie.size<=sCap*ie.size:=Fa7 _ hstay
      have hdist:(rows.length+rows'.length)*ie.size=rows.length*ie.size+rows'.length*ie.size:=Fb2 _ _ _
      have h9:new.toList.length=rows'.length*ie.size:=by simpa using hns
      have h10:rows.length*ie.size+0+new.toList.length<=c0.size:=by omega
      obtain⟨w',hrun,hw⟩:=Hd (P:=P) w b (rows.length*ie.size) new.toList 0 w c0 e0 fr0 hblk hunf h10 hone
      simp only[Fel]at hw
      have happ:=Kv (P:=P) ty h (w':=w') hlen (hnew w rfl) hstay (λa ha=>by cases ha;rw[ve];simpa using hrun) (λhh=>by cases hh)
      let M':Nat->Nat->Prop:=λb' o=>M b' o/\¬(b'=b/\o<(rows.length+rows'.length)*ie.size)
      obtain⟨c',hblk',hl',hs'⟩:=hw.blk _ _ _ hblk
      have hcellb:∀o,o<rows.length*ie.size->w'.cell? ⟨b,o,none⟩=w.cell? ⟨b,o,none⟩:=λo ho=>by
        simp only[World.cell?,hblk',hblk]
        rw[<-Fb1,hl',Fas,Fam (by simp;omega),Fde]
        simp[ho]
      have hcelln:∀j v,new[j]?=some v->w'.cell? ⟨b,rows.length*ie.size+j,none⟩=some v:=λj v hv=>by
        have hj:=(Fbl.1 hv).1
        simp only[World.cell?,hblk']
        have hm:min (rows.length*ie.size) c0.size=rows.length*ie.size:=by omega
        have:c'.toList[rows.length*ie.size+j]?=some v:=by
          rw[hl',Fas,Faw (by simp;omega)]
          simp only[Fao,Fb4,hm]
          rw[Nat.add_sub_cancel_left,Fam (by simpa using hj)]
          simpa using hv
        simpa using this
      have hkeep:Keeps w (λb o=>M b o\/Oth b o) w' (λb o=>M' b o\/Oth b o):=
        { cell:=λb' o' v hv hT=>by
            by_cases he:b'=b
            · subst he
              have ho:o'<rows.length*ie.size:=by
                rcases Nat.lt_or_ge o' (rows.length*ie.size)with h|h
                · exact h
                · exact absurd (hMtop o' h) λh=>hT (.inl h)
              rw[hcellb o' ho]
              exact hv
            · rw[Ch (hw.other b' he)]
              exact hv
          out:=λb' o' v hv hT hT'=>hT (hT'.imp (λh=>h.1) id)
          shp:=λb' c e fr hc=>by
            by_cases he:b'=b
            · subst he
              rw[hblk]at hc
              cases hc
              exact⟨c',fr0,hblk',hs'⟩
            · exact⟨c,fr,by rw[hw.other b' he];exact hc,rfl⟩}
      have hobjb:st.obj b=none:=by
        cases ho:st.obj b with
        |none=>rfl
        |some x=>exact absurd ((sim.sto.obj b x ho).2 0) hfirst
      have hbxb:∀k l,A.bx k=some l->β k≠b:=λk l hl=>sim.sep k b (by rw[hl];simp) (.inr (by rw[htb];simp))
      have hsim:SimB n Oth β A ((st.sT b none).sT b (some ((rows++rows').length*ie.size))) M' a w':=
        { tsz:=sim.tsz
          dfr:=sim.dfr.step λD _ _ h2=>⟨hw.other D λe=>(h2 _).1 (e▸hMtop _ (Fak _)),λo hm=>(h2 o).1 hm.1⟩
          tm:=λi=>(sim.tm i).keep hkeep
          bx:=λk l hl=>⟨(sim.bx k l hl).1.same hkeep (hw.other _ (hbxb k l hl)),λo=>⟨(sim.bx k l hl).2 o,λhh=>hbxb k l hl hh.1⟩⟩
          inj:=sim.inj
          sep:=λk b' hk hb=>by
            refine sim.sep k b' hk ?_
            by_cases he:b'=b
            · subst he;exact .inr (by rw[htb];simp)
            · simpa [Store.sT,yv he]using hb
          sto:=
            { obj:=λb' x hx=>by
                have hx':st.obj b'=some x:=hx
                have he:b'≠b:=λe=>by rw[e,hobjb]at hx';cases hx'
                exact⟨ObjRel.same (sim.sto.obj b' x hx').1 hkeep (hw.other b' he),λo=>⟨(sim.sto.obj b' x hx').2 o,λhh=>he hh.1⟩⟩
              tok:=λb' top ht=>by
                by_cases he:b'=b
                · subst he
                  simp only[Store.sT,Fbs,cond_true,Fah]at ht
                  subst ht
                  refine⟨c',e0,fr0,hblk',by rw[hs'];exact hunf,?_,λo ho=>⟨hMtop o ?_,λhh=>?_⟩⟩
                  · rw[hs',Fag];omega
                  · rw[Fag]at ho;omega
                  · rw[Fag]at ho;omega
                · simp only[Store.sT,yv he,cond_false]at ht
                  obtain⟨c,e,fr,h1,h2,h3,h4⟩:=sim.sto.tok b' top ht
                  exact⟨c,e,fr,by rw[hw.other b' he];exact h1,h2,h3,λo ho=>⟨h4 o ho,λhh=>he hh.1⟩⟩
              mlt:=λb' o hm=>by rw[hw.size];exact sim.sto.mlt b' o hm.1
              olt:=λb' o hm=>by rw[hw.size];exact sim.sto.olt b' o hm
              dis:=λb' o hO hM=>sim.sto.dis b' o hO hM.1}}
      have hchg:Chg M w M' w':=
        { size:=by rw[hw.size];exact Fak _
          keep:=λb' o hb hm=>by
            by_cases he:b'=b
            · subst he
              have ho:o<rows.length*ie.size:=by
                rcases Nat.lt_or_ge o (rows.length*ie.size)with h|h
                · exact h
                · exact absurd (hMtop o h) hm
              exact hcellb o ho
            · exact Ch (hw.other b' he) o
          blk:=λb' hb hm=>hw.other b' λe=>hm (rows.length*ie.size) (by subst e;exact hMtop _ (Fak _))
          shp:=hkeep.shp
          sub:=λb' o hm _=>hm.1
          tape:=hw.tape
          os:=hw.os
          output:=hw.output}
      refine⟨_,w',.lst ie.size (rows++rows') (some b),_,M',happ,.inr ⟨by simp[hne],b,⟨hobjb,by simp[Store.sT]⟩,rfl,rfl⟩,hsim,hchg,?_⟩
      rw[<-Fag]
      have hget:∀p x,(rows++rows').flatten[p]?=some x->∃v,w'.cell? ⟨b,p,none⟩=some v/\¬(M' b p\/Oth b p)/\qo v=true/\VRel w' (λb o=>M' b o\/Oth b o) x v:=λp x hp=>by
        rw[Fef]at hp
        by_cases hlt:p<rows.length*ie.size
        · rw[Fam (by rw[Ay hk];exact hlt)]at hp
          obtain⟨h1,h2,h4,h3⟩:=hold p hlt
          exact⟨f p,by rw[hcellb p hlt];exact h1,λhh=>h2 (hh.imp (λh=>h.1) id),h4,(h3 x hp).keep hkeep⟩
        · rw[Faw (by rw[Ay hk];omega),Ay hk]at hp
          obtain⟨v,hv,hvr⟩:=hnr.getElem? hp
          have hpl:=(Faf.1 hp).1
          rw[Ay hk']at hpl
          have:=hcelln _ v (by simpa using hv)
          have e:rows.length*ie.size+(p-rows.length*ie.size)=p:=by omega
          rw[e]at this
          refine⟨v,this,λhh=>?_,hone v (Fau hv),hvr.keep hkeep⟩
          rcases hh with hh|hh
          · exact hh.2 ⟨rfl,by omega⟩
          · exact sim.sto.dis b p hh (hMtop p (by omega))
      have hlt2:∀(i:Nat) (row:List AV) (j:Nat) (x:AV),(rows++rows')[i]?=some row->row[j]?=some x->(rows++rows').flatten[i*ie.size+j]?=some x:=λi row j x h1 h2=>Hw hkk h1 h2
      refine VRel.lst _ _ b 0 sCap ie.size (λj=>(w'.cell? ⟨b,j,none⟩).getD undef) (by rw[Fag];exact hstay) (λi row hr=>hkk row (Fau hr)) (λt ht=>?_) (λi row j x h1 h2=>?_) (λi row j x h1 h2=>?_) (λi row j x h1 h2=>?_)
      · cases ht;exact⟨rfl,rfl,by simp[hne],c',e0,fr0,hblk',by rw[hs'];exact hcsz⟩
      · obtain⟨v,h3,h4,h6,h5⟩:=hget _ x (hlt2 i row j x h1 h2)
        simp only[Fbd,h3,Few]
        exact⟨Tv,h4⟩
      · obtain⟨v,h3,h4,h6,h5⟩:=hget _ x (hlt2 i row j x h1 h2)
        simp only[h3,Few]
        exact h6
      · obtain⟨v,h3,h4,h6,h5⟩:=hget _ x (hlt2 i row j x h1 h2)
        simp only[h3,Few]
        exact h5
    · have hold2:(Builtin.firstCells ie.size rows.length (.slice (some ⟨b,0,none⟩) rows.length sCap)).run P w.drew=.ok (((List.range' 0 (rows.length*ie.size)).map f).toArray) w.drew:=by
        have:=Ir (P:=P) ⟨b,0,none⟩ w.drew f (rows.length*ie.size) 0 #[] (λp _ hp=>by
          rw[ve,Fbd]
          exact(hold p (by omega)).1)
        simp only[Builtin.firstCells,loadCells]
        simpa using this
      obtain⟨newCap,rest,h1,_,h2,h3⟩:=H3 ty h hlen (hnew w.drew rfl) hold2 (by omega) (by simpa using hroom)
      have htokless:SimB n Oth β A (st.sT b none) M a w:=
        { sim with
          sep:=λk b' hk hb=>sim.sep k b' hk (hb.imp id λh=>by
            by_cases he:b'=b
            · subst he;rw[htb];simp
            · simpa [Store.sT,yv he]using h)
          sto:=sim.sto.weaken ⟨λ_ _ h=>h,λb' x hx=>by
            by_cases he:b'=b
            · subst he;simp[Store.sT]at hx
            · simpa [Store.sT,yv he]using hx⟩}
      obtain⟨st',M',ho,hsim,hchg,hv⟩:=htokless.appendNew (cs:=((List.range' 0 (rows.length*ie.size)).map f).toArray++new++rest) (e:=e) (cap:=newCap) hkk (by simp[hne]) (λi x hx=>by
        rw[Fef]at hx
        obtain⟨v,hv,hvr⟩:=(holdR.append hnr).getElem? hx
        refine⟨v,getElem?_append3 (by simpa using hv),hvr,?_⟩
        rcases Fal.1 (Fau hv)with hm|hm
        · simp only[Fac]at hm
          obtain⟨p,hp,rfl⟩:=hm
          exact(hold p (by simpa using hp)).2.2.1
        · exact hone v hm) (by rw[Fag];exact h1) (by
          simp only[Array.size_append,hns,h2,List.size_toArray,Faq,List.length_range']
          have:=Fa7 ie.size h1
          rw[Nat.sub_mul,<-Fb2]
          omega)
      rw[Fag]at hv
      exact⟨_,_,_,st',M',h3,ho,hsim,hchg,hv⟩
end
section
variable {P:Program} {c:Cfg} {K:Fr->Store->Prop} {A:Fr} {st:Store} {Oth M:Nat->Nat->Prop}
theorem Fj{w:World}{b:Nat}{cs:Array Value}{e:TypeId}{fr:Nat×Nat}(h:w.heap[b]?=some (.cells cs e fr))(hf:Ck fr cs.size):
    ∃fr',Ck fr' cs.size/\(w.freeze ⟨b,cs.size,none⟩ 1).heap[b]?=some (.cells cs e fr')/\∀i,i≠b->(w.freeze ⟨b,cs.size,none⟩ 1).heap[i]?=w.heap[i]?:=by
  obtain⟨lo,hi⟩:=fr
  refine⟨if lo==hi then(cs.size,cs.size+1)else(min lo cs.size,max hi (cs.size+1)),?_,?_,λi hi=>?_⟩
  · unfold Ck at hf⊢
    split
    · right;simp
    · rename_i hne
      simp at hne hf⊢
      omega
  · unfold World.freeze
    rw[if_neg (by decide)]
    simp only[Fct,if_true,h,Fee]
  · unfold World.freeze
    rw[if_neg (by decide)]
    simp only[Fct]
    rw[if_neg (Ne.symm hi)]
theorem ph{w:World}{b:Nat}{cs:Array Value}{e:TypeId}{fr:Nat×Nat}(h:w.heap[b]?=some (.cells cs e fr))(hf:Ck fr cs.size)(b' o:Nat):
    (w.freeze ⟨b,cs.size,none⟩ 1).cell? ⟨b',o,none⟩=w.cell? ⟨b',o,none⟩:=by
  obtain⟨fr',_,h2,h3⟩:=Fj h hf
  by_cases hb:b'=b
  · subst hb
    simp only[World.cell?,h2,h]
  · simp only[World.cell?,h3 b' hb]
theorem Wf(w:World)(a:Addr)(n:Nat):(w.freeze a n).heap.size=w.heap.size:=by
  unfold World.freeze
  split
  · rfl
  · simp
theorem Kg{w:World}{b:Nat}{cs:Array Value}{e:TypeId}{fr:Nat×Nat}(h:w.heap[b]?=some (.cells cs e fr))(hf:Ck fr cs.size)(T:Nat->Nat->Prop):
    Keeps w T (w.freeze ⟨b,cs.size,none⟩ 1) T where
  cell b' o x hc _:=by rw[ph h hf];exact hc
  out _ _ _ _ hT:=hT
  shp b' c' e' f' hw:=by
    obtain⟨fr',_,h2,h3⟩:=Fj h hf
    by_cases hb:b'=b
    · subst hb
      rw[h]at hw
      cases hw
      exact⟨_,_,h2,rfl⟩
    · exact⟨_,_,by rw[h3 b' hb];exact hw,rfl⟩
theorem pe{w:World}{b:Nat}{cs:Array Value}{e:TypeId}{fr:Nat×Nat}(h:w.heap[b]?=some (.cells cs e fr))(hf:Ck fr cs.size){T:Nat->Nat->Prop}{l:List AV}{b':Nat}(hb:b'≠b)(hr:CellsRel w T l b'):
    CellsRel (w.freeze ⟨b,cs.size,none⟩ 1) T l b':=by
  obtain⟨fr',h1,h2,h3⟩:=Fj h hf
  obtain⟨c',e',f',h4,h5,h6,h7⟩:=hr
  exact⟨c',e',f',by rw[h3 b' hb];exact h4,h5,h6,λi x y hx hy=>(h7 i x y hx hy).keep (Kg h hf T)⟩
theorem SimB.freeze{n:SN}{β:Nat->Nat}{a:Act}{w:World}(s:SimB n Oth β A st M a w){b:Nat}{cs:Array Value}{e:TypeId}{fr:Nat×Nat}(h:w.heap[b]?=some (.cells cs e fr))(hf:Ck fr cs.size)(hno:∃o,¬M b o):
    SimB n Oth β A st M a (w.freeze ⟨b,cs.size,none⟩ 1) where
  tsz:=s.tsz
  dfr:=s.dfr.step λD hD _ h2=>by
    obtain⟨fr',_,_,h6⟩:=Fj h hf
    exact⟨h6 D (λe=>by subst e;rw[h]at hD;cases hD),λo=>(h2 o).1⟩
  tm i:=(s.tm i).keep (Kg h hf _)
  bx k l hk:=⟨pe h hf (λe=>by obtain⟨o,ho⟩:=hno;exact ho (e▸(s.bx k l hk).2 o)) (s.bx k l hk).1,(s.bx k l hk).2⟩
  inj:=s.inj
  sep:=s.sep
  sto:=
    { obj:=λb' x hx=>by
        refine⟨?_,(s.sto.obj b' x hx).2⟩
        have hr:=(s.sto.obj b' x hx).1
        cases x with
        |cells l=>exact pe h hf (λe=>by obtain⟨o,ho⟩:=hno;exact ho (e▸(s.sto.obj b' _ hx).2 o)) hr
        | ghost o gh=>
          obtain⟨⟨h1,hc⟩,h2⟩:=hr
          have hb:b'≠b:=λhh=>by subst hh;rw[h]at h1;cases h1;cases hc
          obtain⟨fr',_,_,h6⟩:=Fj h hf
          exact⟨⟨by rw[h6 b' hb];exact h1,hc⟩,λp hp=>(h2 p hp).keep (Kg h hf _)⟩
        | iter m since seen last=>
          have h1:w.heap[b']?=_:=hr
          have hb:b'≠b:=λhh=>by subst hh;rw[h]at h1;cases h1
          obtain⟨fr',_,_,h6⟩:=Fj h hf
          show _=_
          rw[h6 b' hb];exact h1
        | map es bs clock=>
          obtain⟨ms,h1,h2,h3,h4⟩:=hr
          have hb:b'≠b:=λhh=>by subst hh;rw[h]at h1;cases h1
          obtain⟨fr',_,_,h6⟩:=Fj h hf
          exact⟨ms,by rw[h6 b' hb];exact h1,h2,λi x y hx hy=>⟨(h3 i x y hx hy).1.keep (Kg h hf _),(h3 i x y hx hy).2.keep (Kg h hf _)⟩,h4⟩
      tok:=λb' top ht=>by
        obtain⟨c',e',f',h1,h2,h3⟩:=s.sto.tok b' top ht
        obtain⟨fr',h4,h5,h6⟩:=Fj h hf
        by_cases hb:b'=b
        · subst hb
          rw[h]at h1
          cases h1
          exact⟨_,_,_,h5,h4,h3⟩
        · exact⟨c',e',f',by rw[h6 b' hb];exact h1,h2,h3⟩
      mlt:=λb' o hm=>by rw[Wf];exact s.sto.mlt b' o hm
      olt:=λb' o hm=>by rw[Wf];exact s.sto.olt b' o hm
      dis:=s.sto.dis}
theorem yfi{w:World}{b:Nat}{cs:Array Value}{e:TypeId}{fr:Nat×Nat}(h:w.heap[b]?=some (.cells cs e fr))(hf:Ck fr cs.size)(hM:∃o,M b o):Chg M w M (w.freeze ⟨b,cs.size,none⟩ 1) where
  size:=by rw[Wf];exact Fak _
  keep b' o _ _:=ph h hf b' o
  blk b' _ hno:=by
    obtain⟨o,ho⟩:=hM
    obtain⟨fr',h4,h5,h6⟩:=Fj h hf
    exact h6 b' λhh=>by subst hh;exact hno o ho
  shp b' c' e' f' hw:=(Kg h hf (λ_ _=>False)).shp b' c' e' f' hw
  sub _ _ h _:=h
  tape:=by unfold World.freeze;split<;>rfl
  os:=by unfold World.freeze;split<;>rfl
  output:=by unfold World.freeze;split<;>rfl
theorem ygr{o:Oper}{s t:TypeId}{x:Operand}(ho:o.op=.convert s t x)(hI:yp P c.I)(h:Pv P c o s t x K A st):AOp P c.N o K A st:=by
  unfold Pv at h
  split at h
  · rename_i k rows b hx
    cases hb:Nat.beq s t with
    |false=>rw[hb]at h;exact h.elim
    |true=>
    rw[hb]at h
    simp only[cond_true]at h
    obtain rfl:=(xe _ _).1 hb
    obtain⟨i,hi,h⟩:=zl h
    split at h
    · rename_i e hty
      obtain⟨ie,hie,h⟩:=zl h
      cases hu8:(V3 ie.ty&&Nat.beq k 1)with
      |false=>rw[hu8]at h;exact h.elim
      |true=>
      rw[hu8]at h
      simp only[cond_true]at h
      obtain⟨top,htop,h⟩:=zl h
      obtain⟨hu8,hk1⟩:=Fbc.1 hu8
      have hk1:=(xe _ _).1 hk1
      have hiety:ie.ty=.int .u8:=by
        unfold V3 at hu8
        split at hu8
        · assumption
        · cases hu8
      rintro Oth M a w ⟨β,sim⟩
      obtain⟨cs,e',fr,h1,h2,h3,h4⟩:=sim.sto.tok b top htop
      have hv:∃n cap,a.eval x=.slice (some ⟨b,0,none⟩) n cap/\∃o,¬M b o:=by
        have hr:=yz sim.env hx
        generalize a.eval x=v at hr
        cases hr with
        | lst _ _ b' off cap _ f hcap hk htok hc h0 hx'=>
          obtain⟨rfl,rfl,hne,_⟩:=htok b rfl
          refine⟨_,_,rfl,?_⟩
          cases rows with
          |nil=>exact absurd rfl hne
          | cons r rs=>
            have hr1:=hk 0 r rfl
            cases r with
            |nil=>simp at hr1;omega
            |cons y ys=>exact⟨_,λhm=>(hc 0 _ 0 y rfl rfl).2 (.inl hm)⟩
      obtain⟨n,cap,hv,hnoM⟩:=hv
      have hsh:w.shape? b=some (e',cs.size):=by simp[World.shape?,h1]
      have hrun:(execOp a.eval o).run P w=.ok (.value (a.eval x)) (w.freeze ⟨b,cs.size,none⟩ 1):=by
        simp[execOp,ho,hv,convert,yf (xf (hI _ _ hi) hty),yf (Ic (hI _ _ hie) hiety),markStringish,hsh]
      have sim':=sim.freeze h1 h2 hnoM
      unfold Oper.wp
      rw[hrun,Oper.upon_value]
      have hvr:LRel (w.freeze ⟨b,cs.size,none⟩ 1) (λb o=>M b o\/Oth b o) β (.av (.lst k rows (some b))) (a.eval x):=by
        have:=sim'.ev x
        rw[hx]at this
        exact this
      have hchg:Chg M w M (w.freeze ⟨b,cs.size,none⟩ 1):=yfi h1 h2 ⟨top,h4 top (Fak _)⟩
      unfold ql at h
      cases hd:o.dst with
      |none=>rw[hd]at h;exact⟨A,st,M,h,⟨β,sim'⟩,hchg⟩
      | some d=>
        rw[hd]at h
        obtain⟨hlt,h⟩:=vz h
        exact⟨_,st,M,h,⟨β,sim'.put hlt hvr⟩,hchg⟩
    · exact h.elim
  · exact Re hI h
  · exact Re hI h
  · exact Mo hI (by rw[ho];exact h)
end
section
variable {P:Program} {c:Cfg} {K:Fr->Store->Prop} {A:Fr} {st:Store}
theorem ygv{o:Oper}{cl:Call}(ho:o.op=.call cl)(hcl:cl.callee=.builtin .append)(hI:yp P c.I)
    (h:optK cl.argTypes[0]? λt=>optK (c.I t) λi=>optK cl.args[0]? λs=>optK cl.args[1]? λx=>match i.ty with
      |.slice e=>bif (cl.argTypes[1]?.bind c.I).any K8 then
          appendK P c st e (A.ev s) (A.ev x) λr st'=>ql A c.n o.dst (.av r) λA'=>K A' st' else vcX P c o K A st
      |_=>False):AOp P c.N o K A st:=by
  obtain⟨t,ht,h⟩:=zl h
  obtain⟨i,hi,h⟩:=zl h
  obtain⟨s,hs,h⟩:=zl h
  obtain⟨x,hx,h⟩:=zl h
  split at h
  · rename_i e hty
    cases hb:(cl.argTypes[1]?.bind c.I).any K8 with
    |false=>rw[hb]at h;exact Re hI h
    |true=>
    rw[hb]at h
    simp only[cond_true]at h
    replace h:=h.out
    rintro Oth M a w ⟨β,sim⟩
    have ht1:∃t1 e1,cl.argTypes[1]?=some t1/\P.underlying t1=some (.slice e1):=by
      cases h1:cl.argTypes[1]? with
      |none=>rw[h1]at hb;simp at hb
      | some t1=>
        rw[h1]at hb
        simp only[Option.bind_some]at hb
        cases h2:c.I t1 with
        |none=>rw[h2]at hb;simp at hb
        | some j=>
          rw[h2]at hb
          simp only[Option.any_some]at hb
          unfold K8 at hb
          split at hb
          · rename_i e1 h3;exact⟨t1,e1,rfl,xf (hI _ _ h2) h3⟩
          · cases hb
    have hrun:(execOp a.eval o).run P w=((Builtin.append_ cl.argTypes o.type (cl.args.map a.eval)).run P w).andThen λv w'=>.ok (.value v) w':=by
      simp[execOp,ho,resolve,hcl,invoke,builtin]
    have fin:∀v w',(∃r st' M',(ql A c.n o.dst (.av r) λA'=>K A' st')/\VRel w' (λb o=>M' b o\/Oth b o) r v/\SimB c.N Oth β A st' M' a w'/\Chg M w M' w')->
        ∃A' st' M',K A' st'/\Sim c.N Oth A' st' M' (a.put o.dst v) w'/\Chg M w M' w':=by
      rintro v w' ⟨r,st',M',hk,hv,hs,hchg⟩
      unfold ql at hk
      cases hd:o.dst with
      |none=>rw[hd]at hk;exact⟨A,st',M',hk,⟨β,hs⟩,hchg⟩
      | some d=>
        rw[hd]at hk
        obtain⟨hlt,hk⟩:=vz hk
        exact⟨_,st',M',hk,⟨β,hs.put hlt hv⟩,hchg⟩
    have h1:(cl.args.map a.eval)[1]?=some (a.eval x):=by rw[Fcv,hx];rfl
    unfold Oper.wp
    rw[hrun]
    rcases h with h|⟨s',x',hes,hex,h⟩
    rotate_left
    · have hvs:=yz sim.env hes
      have hvx:=yz sim.env hex
      have h0:(cl.args.map a.eval)[0]?=some (a.eval s):=by rw[Fcv,hs];rfl
      obtain⟨ie,hie⟩:=h.has
      obtain⟨v,w',hr,hp⟩:=h.out ie hie _ _ w _ _ _ o.type _ t sim.inner (hvs.mono Gf) (hvx.mono Gf) ht ht1 (xf (hI _ _ hi) hty) (hI _ _ hie) h0 h1
      rw[hr]
      exact fin v w' (sim.post v w' hp)
    unfold bz at h
    obtain⟨ie,hie,h⟩:=zl h
    split at h
    · rename_i hev
      obtain⟨rows,hrows,hroom,h⟩:=zl h
      have hsv:a.eval s=.slice none 0 0:=VRel.eq_s (yz sim.env hev)
      have h0:(cl.args.map a.eval)[0]?=some (.slice none 0 0):=by rw[Fcv,hs,<-hsv];rfl
      obtain⟨v,w',r,st',M',hr,hown,hsim,hchg,hv⟩:=(bv (c:=c) sim o.type ⟨ht,ht1,xf (hI _ _ hi) hty,hI _ _ hie,h0,h1⟩ (sim.ev x) hrows).1 ⟨rfl,rfl,λx h=>by cases h⟩ hroom
      rw[hr]
      exact fin v w' ⟨r,st',M',h r st' hown,hv,hsim,hchg⟩
    · rename_i hev
      obtain⟨rows,hrows,hroom,h⟩:=zl h
      have hsv:∃ad,a.eval s=.slice ad 0 0/\∀x,ad=some x->x.spot=none:=by
        have:=yz sim.env hev
        generalize a.eval s=v at this
        cases this with
        |emp ad h=>exact⟨ad,rfl,h⟩
      obtain⟨ad,hsv,hspot⟩:=hsv
      have h0:(cl.args.map a.eval)[0]?=some (.slice ad 0 0):=by rw[Fcv,hs,<-hsv];rfl
      obtain⟨v,w',r,st',M',hr,hown,hsim,hchg,hv⟩:=(bv (c:=c) sim o.type ⟨ht,ht1,xf (hI _ _ hi) hty,hI _ _ hie,h0,h1⟩ (sim.ev x) hrows).1 ⟨rfl,rfl,hspot⟩ hroom
      rw[hr]
      exact fin v w' ⟨r,st',M',h r st' hown,hv,hsim,hchg⟩
    · rename_i k rows b hev
      cases hkb:(Nat.beq k ie.size&&Nat.blt 0 ie.size)with
      |false=>rw[hkb]at h;exact h.elim
      |true=>
      rw[hkb]at h
      simp only[cond_true]at h
      rw[Fax]at hkb
      have hpos:0<ie.size:=Fbg hkb.2
      obtain rfl:=(xe _ _).1 hkb.1
      obtain⟨rows',hrows,htok,hroom,h⟩:=zl h
      have hvr:=yz sim.env hev
      obtain⟨base,sLen,sCap,hsv⟩:∃base sLen sCap,a.eval s=.slice base sLen sCap:=by
        generalize a.eval s=v at hvr
        cases hvr<;>exact⟨_,_,_,rfl⟩
      rw[hsv]at hvr
      have h0:(cl.args.map a.eval)[0]?=some (.slice base sLen sCap):=by rw[Fcv,hs,<-hsv];rfl
      obtain⟨v,w',r,st',M',hr,hown,hsim,hchg,hv⟩:=(bv (c:=c) sim o.type ⟨ht,ht1,xf (hI _ _ hi) hty,hI _ _ hie,h0,h1⟩ (sim.ev x) hrows).2 rows b hpos hvr htok hroom
      rw[hr]
      exact fin v w' ⟨r,st',M',h r st' hown,hv,hsim,hchg⟩
    · exact h.elim
  · exact h.elim
theorem lf{o:Oper}{x:LV}{v:Value}{a:Act}{w:World}{Oth M:Nat->Nat->Prop}{β:Nat->Nat}(sim:SimB c.N Oth β A st M a w)(hv:LRel w (λb o=>M b o\/Oth b o) β x v)
    (h:ql A c.n o.dst x λA'=>K A' st):∃A' st' M',K A' st'/\Sim c.N Oth A' st' M' (a.put o.dst v) w/\Chg M w M' w:=by
  unfold ql at h
  cases hd:o.dst with
  |none=>rw[hd]at h;exact⟨A,st,M,h,⟨β,sim⟩,Chg.refl _ _⟩
  | some d=>
    rw[hd]at h
    obtain⟨hlt,h⟩:=vz h
    exact⟨_,st,M,h,⟨β,sim.put hlt hv⟩,Chg.refl _ _⟩
set_option maxHeartbeats 1000000 in
theorem zvo(w:World){t e:TypeId}(hu:P.underlying t=some (.slice e))(ad:Option Addr)(n cap d:Nat):(Op.equalIn (d+1) t (.slice ad n cap) (.slice none 0 0)).run P w=.ok ad.isNone w:=by
  cases ad<;>simp[Op.equalIn,yf hu]
theorem ia(w:World){t e:TypeId}(hu:P.underlying t=some (.slice e))(ad:Option Addr)(n cap:Nat):
    (binOp .eql t (.slice ad n cap) (.slice none 0 0)).run P w=.ok (.bool ad.isNone) w/\(binOp .neq t (.slice ad n cap) (.slice none 0 0)).run P w=.ok (.bool !ad.isNone) w:=by
  have h:=zvo w hu ad n cap 9999
  constructor<;>simp only[binOp,Op.equal,Op.maxDepth,Sem.run_bind,h,Result.andThen_ok,Sem.run_pure]
theorem ygu{o:Oper}{op:BinOp}{t yt:TypeId}{x y:Operand}(ho:o.op=.binOp op t x y yt)(hI:yp P c.I)
    (h:P5 c o op t x y yt K A st):AOp P c.N o K A st:=by
  unfold P5 at h
  split at h
  · rename_i k rows tok hx hy
    obtain⟨i,hi,h⟩:=zl h
    rintro Oth M a w ⟨β,sim⟩
    have hyv:a.eval y=.slice none 0 0:=VRel.eq_s (yz sim.env hy)
    have hxv:∃ad n cap,a.eval x=.slice ad n cap/\(ad.isNone=true->rows=[]):=by
      rcases Kz (yz sim.env hx)with⟨_,cap,hv,h2,_⟩|⟨b,off,cap,hv,_⟩
      · exact⟨_,_,_,hv,λ_=>h2⟩
      · exact⟨_,_,_,hv,λh=>by simp at h⟩
    obtain⟨ad,n,cap,hxv,hnil⟩:=hxv
    cases hty:i.ty with
    | slice e=>
      rw[hty]at h
      have hu:=xf (hI _ _ hi) hty
      cases op with
      | eql=>
        have hrun:(execOp a.eval o).run P w=.ok (.value (.bool ad.isNone)) w:=by
          simp[execOp,ho,hxv,hyv,eqGuard,(ia w hu ad n cap).1]
        unfold Oper.wp
        rw[hrun,Oper.upon_value]
        exact lf sim (x:=xr ad.isNone) (VRel.s _) (h _ hnil)
      | neq=>
        have hrun:(execOp a.eval o).run P w=.ok (.value (.bool !ad.isNone)) w:=by
          simp[execOp,ho,hxv,hyv,eqGuard,(ia w hu ad n cap).2]
        unfold Oper.wp
        rw[hrun,Oper.upon_value]
        exact lf sim (x:=xr !ad.isNone) (VRel.s _) (h _ hnil)
      |_=>exact h.elim
    |_=>rw[hty]at h;exact h.elim
  · exact Mo hI (by rw[ho];exact h)
theorem uz(hI:yp P c.I){o:Oper}(h:Bp P c o K A st):AOp P c.N o K A st:=by
  unfold Bp at h
  cases hx:isX o.op with
  |true=>rw[hx]at h;exact Re hI h
  |false=>
  rw[hx]at h
  replace h:De P c o K A st:=h
  unfold De at h
  cases ho:o.op with
  |alloc t=>simp only[ho,Dt]at h;exact ygw ho hI h
  |box t x=>simp only[ho]at h;exact ygt ho hI h
  |buildSlice t n ps=>simp only[ho]at h;exact u0 ho hI h
  | store t p x=>
    simp only[ho]at h
    cases hd:o.dst with
    |some d=>rw[hd]at h;exact h.elim
    |none=>rw[hd]at h;exact ygo ho hd hI h
  |binOp op t x y yt=>simp only[ho]at h;exact ygu ho hI h
  |convert s t x=>simp only[ho]at h;exact ygr ho hI h
  | call cl=>
    simp only[ho]at h
    cases hcl:cl.callee with
    |value f=>simp only[hcl]at h;exact ygs ho hcl h
    |invoke r m=>simp only[hcl]at h;exact ygq ho hcl h
    | builtin b=>
      cases b with
      |append=>simp only[hcl]at h;exact ygv ho hcl hI h
      |_=>simp only[hcl]at h;exact Mo hI (by rw[ho];exact h)
  |_=>simp only[ho]at h;exact Mo hI (by rw[ho];exact h)
theorem Cfg.noDepth(c:Cfg):c.F.depth.isSome=true->1<=0:=λh=>by cases h
theorem ti{c:Cfg}{f:FuncId}{args:Array Value}{w:World}{R:Ending->World->Prop}(h:Calls P f args w R):CallsIn c.F 0 P f args w R:=
  (callsIn_wide (n:=0)).2 h
theorem zvy{c:Cfg}{row:String}{args:Array Value}{w:World}{R:Value->World->Prop}(h:Rows P row args w R):RowsIn c.F 0 P row args w R:=
  λx cs _=>let⟨v,w',r,s⟩:=h x cs;⟨v,w',r,stepsIn_wide.2 s⟩
theorem Oper.wpIn_F{o:Oper}(hd:∀cl,o.op≠.defer cl){a:Act}{w:World}{K:Act->World->Prop}{Q:Exit->Act->World->Prop}(h:o.wp P a w K Q):o.wpIn c.F 0 P a w K Q:=by
  refine⟨λ_ _=>Tv,?_⟩
  rw[Oper.semAt_eq _ _ _ hd]
  unfold Oper.wp at h
  generalize(execOp a.eval o).run P w=r at*
  cases r with
  | ok x w'=>
    cases x<;>simp only[Oper.upon,Oper.uponIn]at h⊢<;>
      first
        |exact h
        |exact⟨c.noDepth,ti h⟩
        |exact⟨c.noDepth,zvy h⟩
        |exact h.elim
  |halt x w'=>cases x<;>simp only[Oper.upon,Oper.uponIn]at h⊢<;>exact h
theorem zyk{o:Oper}(h:Bp P c o K A st)(cl:Call):o.op≠.defer cl:=by
  intro e
  unfold Bp at h
  rw[e]at h
  have h:De P c o K A st:=h
  unfold De at h
  simp only[e]at h
  obtain⟨d,_,h⟩:=zl h
  obtain⟨_,h⟩:=vz h
  exact h.elim
theorem zak{o:Oper}{l:Nat}(h:Rj A o.op=some l):∃cl f fv cap,o.op=.call cl/\cl.callee=.value f/\A.ev f=.av (.s (.func (.yield l) fv cap))/\fv=#[]/\cap=#[]:=by
  unfold Rj at h
  split at h
  · rename_i cl hop
    split at h
    · rename_i f hcl
      split at h
      · rename_i l' fv cap hev
        cases hb:(Nat.beq fv.size 0&&Nat.beq cap.size 0)with
        |false=>rw[hb]at h;cases h
        | true=>
          rw[hb]at h
          cases h
          rw[Fax]at hb
          exact⟨cl,f,fv,cap,hop,hcl,hev,Array.size_eq_zero_iff.1 ((xe _ _).1 hb.1),Array.size_eq_zero_iff.1 ((xe _ _).1 hb.2)⟩
      · cases h
    · cases h
  · cases h
theorem zv0{l:Nat}{f:FuncId}{tmps:Array Value}{assign body:Code}{w:World}{R:Ending->World->Prop}(h:RoundIn Fence.wide 0 P l f tmps assign body w R):RoundIn c.F 0 P l f tmps assign body w R:=h
theorem ygx(hI:yp P c.I){o:Oper}(h:Ib P c o K A st):yhl P c o K A st:=by
  unfold Ib at h
  split at h
  rotate_left
  · exact λOth M a w sim=>Oper.wpIn_F (zyk h) (uz hI h Oth M a w sim)
  · rename_i l hl
    obtain⟨cl,f,fv,cap,ho,hcl,hf,rfl,rfl⟩:=zak hl
    rintro Oth M a w ⟨β,sim⟩
    obtain⟨vs,hvs,h⟩:=zl h
    unfold ci at hvs
    rw[ho]at hvs
    have hfv:a.eval f=.func (.yield l) #[] #[]:=VRel.eq_s (yz sim.env hf)
    obtain⟨hm1,hm2⟩:=I7 hvs
    have hr1:Reads w (λb o=>M b o\/Oth b o) vs (cl.args.map a.eval).toList:=by
      refine⟨by simp[hm1],λi x y hx hy=>?_⟩
      obtain⟨z,hz,hzz⟩:=hm2 i x hx
      have hz':cl.args[i]?=some z:=by simpa using hz
      rw[Fcy,Fap,hz]at hy
      simp at hy
      subst hy
      exact yz sim.env (K5 hzz)
    have hrun:(execOp a.eval o).run P w=(Instr.yield l (cl.args.map a.eval)).run P w:=by
      simp[execOp,ho,resolve,hcl,hfv,Deferred.ofValue,invoke]
    obtain⟨fn,tmps,assign,body,hy,hround⟩:=h.out _ _ w (cl.args.map a.eval) sim.inner ⟨hr1.1,λi x y hx hy=>(hr1.2 i x y hx hy).mono Gf⟩
    refine⟨λ_ _=>Tv,?_⟩
    rw[Oper.semAt_eq _ _ _ (by rw[ho];intro _ e;cases e),hrun,hy,Oper.uponIn_round]
    refine⟨c.noDepth,zv0 (hround.mono ?_)⟩
    rintro e w' ⟨v,rfl,hp⟩
    obtain⟨r,st',M',hk,hv,hs,hchg⟩:=sim.post v w' hp
    show∃A' st' M',_
    unfold ql at hk
    cases hd:o.dst with
    |none=>rw[hd]at hk;exact⟨A,st',M',hk,⟨β,hs⟩,hchg⟩
    | some d=>
      rw[hd]at hk
      obtain⟨hlt,hk⟩:=vz hk
      exact⟨_,st',M',hk,⟨β,hs.put hlt hv⟩,hchg⟩
end
end Go.V
