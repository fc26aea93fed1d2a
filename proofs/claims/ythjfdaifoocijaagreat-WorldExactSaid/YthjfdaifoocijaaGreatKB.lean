/- Ground of laws of thronglaw25: contracts and plain lemmas; no condition beyond the row's own. -/
import Derived.Laws.Append
import Derived.Tactics
import Derived.Test.YthjfdaifoocijaaGreatKA
set_option linter.unusedSimpArgs false
set_option linter.unusedVariables false
set_option linter.defProp false
namespace Go.V
section
variable {P:Program} {st:Store} {w:World} {A:Fr}
def Wx{c:Cfg}{ev:Operand->LV}{bx:Nat->Option (List AV)}{d:Nat}{K:LV->Prop}(hI:qe P c.I)(op:Op)(h:vcV c ev bx st d op K):Bb P c ev bx st d op K:=by
  cases op with
  |move x=>exact yib x h
  |assign x=>exact yin x h
  |pick a b e=>exact yh9 a b e h
  |nilCheck x=>exact yia x h
  |binOp op t x y yt=>exact yim hI op t x y yt h
  |unOp op t x=>exact yh6 op t x h
  |convert s t x=>exact yij hI s t x h
  |load t a=>exact yid hI t a h
  |fieldAddr s x f=>exact yig hI s x f h
  |field s x f=>exact yih hI s x f h
  |indexAddr t x i=>exact yie hI t x i h
  |index t x i=>exact yif hI t x i h
  |slice t x lo hi mx=>exact yh7 hI t x lo hi mx h
  |extract x i=>exact yii x i h
  |build t ps=>exact yil hI t ps h
  |makeFunc f a b=>exact yic f a b h
  |call cl=>exact yik hI cl h
  |_=>exact h.elim
def xg(st:Store)(R:Ja)(Oth M:BB)(w:World)(v:Value)(w':World):Prop:=
  ∃r st' M',R r st'/\VRel w' (λb o=>M' b o\/Oth b o) r v/\StoreOK st' Oth M' w'/\Chg M w M' w'
def Pt(P:Program)(R:Value->World->Prop):Result Next->Prop
  |.ok (.enter f args) w=>Calls P f args w λe w'=>∃v,e=.returned v/\R v w'
  |.ok (.value v) w=>R v w
  |_=>False
structure ACalls(P:Program)(f:FuncId)(args:List AV)(st:Store)(R:Ja):Prop where
  out:∀(Oth M:BB) (w:World) (vs:Array Value),StoreOK st Oth M w->Reads w (λb o=>M b o\/Oth b o) args vs.toList->
    Pt P (xg st R Oth M w) ((callFunc f vs).run P w)
def Fresh(st:Store)(b:Nat):Prop:=st.obj b=none/\st.tok b=none
def Owned(k:Nat)(st:Store)(v:AV)(rows:List (List AV))(st':Store):Prop:=
  (v=.emp/\rows=[]/\st'=st)\/(rows≠[]/\∃b,Fresh st b/\v=.lst k rows (some b)/\st'=st.sT b (some (rows.length*k)))
def vz(k:Nat)(x:LV):Option (List (List AV)):=
  match x with
  |.av (.lst k' rows _)=>bif Nat.beq k' k then some rows else none
  |.av (.s (.slice none 0 _))=>some []
  |.av .emp=>some []
  |_=>none
def room(n bytes:Nat):Prop:=n*bytes<=140737488355328/\n<=140737488355328
def ln(c:Cfg)(st:Store)(e:TypeId)(s x:LV)(K:Ja):Prop:=
  optK (c.I e) λie=>
    match s with
    |.av (.s (.slice none 0 0))=>optK (vz ie.size x) λrows=>room rows.length ie.bytes/\∀v st',Owned ie.size st v rows st'->K v st'
    |.av .emp=>optK (vz ie.size x) λrows=>room rows.length ie.bytes/\∀v st',Owned ie.size st v rows st'->K v st'
    | .av (.lst k rows (some b))=>bif Nat.beq k ie.size&&Nat.blt 0 ie.size then optK (vz ie.size x) λrows'=>st.tok b=some (rows.length*k)/\room (rows++rows').length ie.bytes∧
        ∀v st',Owned ie.size (st.sT b none) v (rows++rows') st'->K v st'
      else False
    |_=>False
structure AppX(P:Program)(c:Cfg)(st:Store)(e:TypeId)(s x:AV)(K:Ja):Prop where
  has:∃ie,c.I e=some ie
  out:∀ie,c.I e=some ie->∀(Oth M:BB) (w:World) (sv xv:Value) (argTypes:Array TypeId) (ty:TypeId) (args:Array Value) (t:TypeId),StoreOK st Oth M w->
    VRel w (λb o=>M b o\/Oth b o) s sv->VRel w (λb o=>M b o\/Oth b o) x xv->argTypes[0]?=some t->(∃t1 e1,argTypes[1]?=some t1/\P.underlying t1=some (.slice e1))->
    P.underlying t=some (.slice e)->TIok P e ie->args[0]?=some sv->args[1]?=some xv->∃v w',(Builtin.append_ argTypes ty args).run P w=.ok v w'/\xg st K Oth M w v w'
structure appendK(P:Program)(c:Cfg)(st:Store)(e:TypeId)(s x:LV)(K:Ja):Prop where
  out:ln c st e s x K\/∃s' x',s=.av s'/\x=.av x'/\AppX P c st e s' x' K
structure AEff(P:Program)(c:Cfg)(o:Oper)(args:List AV)(st:Store)(R:Ja):Prop where
  out:∀(Oth M:BB) (w:World) (ρ:Operand->Value),qe P c.I->StoreOK st Oth M w->Reads w (λb o=>M b o\/Oth b o) args (o.op.operands.map ρ).toList->
    match(execOp ρ o).run P w with
    |.ok (.value v) w'=>xg st R Oth M w v w'
    |.ok .skip w'=>o.dst=none/\xg st R Oth M w (.tuple #[]) w'
    |_=>False
def N6(j:TI):Bool:=match j.ty with|.slice _=>true|_=>false
def isX:Op->Bool
  |.lookup ..=>true
  |.mapUpdate ..=>true
  |.insert ..=>true
  |.makeMap ..=>true
  |.makeSlice ..=>true
  |.range ..=>true
  |.next ..=>true
  |.entry ..=>true
  |.makeInterface ..=>true
  |.slice _ _ _ _ mx=>mx.isSome
  | .call cl=>match cl.callee with
    |.builtin .delete=>true
    |.builtin .copy=>true
    |.builtin .clear=>true
    |_=>false
  |_=>false
def xe(A:Fr)(n:Nat)(d:Option Tmp)(x:LV)(K:Fr->Prop):Prop:=
  match d with
  |none=>K A
  |some d=>bif Nat.blt d n then K (A.put d x)else False
def AV.one:AV->Bool
  |.s v=>xp v
  |.agg _=>false
  |.tup _=>false
  |.any=>false
  |_=>true
theorem dt{T:BB}{x:AV}{v:Value}(h:VRel w T x v)(h1:x.one=true):xp v=true:=by cases h<;>trivial
def Gx(i:TI)(A:Fr)(st:Store)(p:LV)(x:AV)(K:Fr->Store->Prop):Prop:=
  optK (cellsOf x) λxs=>bif Nat.beq xs.length i.size&&xs.all AV.one then
    match p with
    |.bx k o=>optK (A.bx k) λl=>bif Nat.ble (o+xs.length) l.length then Gn (zv l o xs) λl'=>K (A.setBx k l') st else False
    | .av (.s (.pointer (some ⟨b,o,none⟩)))=>optK (st.obj b) λy=>match y with
      |.cells l=>o+xs.length<=l.length/\Gn (zv l o xs) λl'=>K A (st.sO b (.cells l'))
      |_=>False
    |_=>False
  else False
def Bt(i:TI):List AV:=i.zero.map AV.s
def Il(k n:Nat)(acc:List (List AV)):List (Nat×LV)->Option (List (List AV))
  |[]=>some acc
  | (i,x)::rest=>match x with
    | .av x=>match cellsOf x with
      |some xs=>bif Nat.beq xs.length k&&Nat.blt i n then Il k n (acc.set i xs) rest else none
      |none=>none
    |_=>none
def V9(c:Cfg)(o:Oper)(op:BinOp)(t:TypeId)(x y:Operand)(yt:TypeId)(K:Fr->Store->Prop)(A:Fr)(st:Store):Prop:=
  match A.ev x,A.ev y with
  | .av (.lst _ rows _),.av (.s (.slice none 0 0))=>optK (c.I t) λi=>match i.ty with
    | .slice _=>match op with
      |.eql=>∀b:Bool,(b=true->rows=[])->xe A c.n o.dst (kl b) λA'=>K A' st
      |.neq=>∀b:Bool,(b=true->rows=[])->xe A c.n o.dst (kl (!b)) λA'=>K A' st
      |_=>False
    |_=>False
  |_,_=>optK o.dst λd=>bif Nat.blt d c.n then vcV c A.ev A.bx st d (.binOp op t x y yt) (λx=>K (A.put d x) st)else False
def fq:Ty->Bool
  |.int .u8=>true
  |_=>false
def vcX(P:Program)(c:Cfg)(o:Oper)(K:Fr->Store->Prop)(A:Fr)(st:Store):Prop:=
  optK (o.op.operands.toList.mapM λx=>(A.ev x).toAV) λvs=>AEff P c o vs st λr st'=>xe A c.n o.dst (.av r) λA'=>K A' st'
def Vx(P:Program)(c:Cfg)(o:Oper)(s t:TypeId)(x:Operand)(K:Fr->Store->Prop)(A:Fr)(st:Store):Prop:=
  match A.ev x with
  | .av (.lst k rows (some b))=>bif Nat.beq s t then optK (c.I t) λi=>match i.ty with
    |.slice e=>optK (c.I e) λie=>bif fq ie.ty&&Nat.beq k 1 then optK (st.tok b) λ_=>xe A c.n o.dst (.av (.lst k rows (some b))) λA'=>K A' st else False
    |_=>False
    else False
  |.av (.s (.slice _ _ _))=>vcX P c o K A st
  |.av (.s (.pointer _))=>vcX P c o K A st
  |_=>optK o.dst λd=>bif Nat.blt d c.n then vcV c A.ev A.bx st d (.convert s t x) (λx=>K (A.put d x) st)else False
structure Meets(P:Program)(t:TypeId)(v:Value)(m:String)(g:FuncId)(x:AV):Prop where
  out:∃u,(∀w:World,(method (P.types.size+Made.depth) t v m).run P w=.ok (g,u) w)/\∀(w:World) (T:BB),VRel w T x u
def Sq(P:Program)(c:Cfg)(o:Oper)(cl:Call)(m:String)(y:LV)(K:Fr->Store->Prop)(A:Fr)(st:Store):Prop:=
  match y with
  |.av (.s (.iface t v))=>optK (cl.args.toList.mapM λx=>(A.ev x).toAV) λvs=>∃g x,Meets P t v m g x∧
      ACalls P g (x::vs) st λr st'=>xe A c.n o.dst (.av r) λA'=>K A' st'
  |_=>False
def Vi(x:LV):Option (FuncId×List AV×List AV):=
  match x with
  |.av (.clos g cap)=>some (g,[],cap)
  |.av (.s (.func (.func g) fv cv))=>some (g,fv.toList.map AV.s,cv.toList.map AV.s)
  |_=>none
def F4(P:Program)(c:Cfg)(o:Oper)(K:Fr->Store->Prop)(A:Fr)(st:Store):Prop:=
  match o.op with
  |.alloc t=>optK (c.I t) λi=>optK o.dst λd=>bif Nat.blt d c.n then
      Gn (Bt i) λl=>(bif c.G.contains d then∀b,Fresh st b->K (A.put d (.av (.s (.pointer (some ⟨b,0,none⟩))))) (st.sO b (.cells l))
        else K (A.newBx d l) st)else False
  |.box _ x=>optK o.dst λd=>bif Nat.blt d c.n then(match A.ev x with
      | .av x=>optK (cellsOf x) λl=>
        bif c.G.contains d then∀b,Fresh st b->K (A.put d (.av (.s (.pointer (some ⟨b,0,none⟩))))) (st.sO b (.cells l))
        else K (A.newBx d l) st
      |_=>False)else False
  |.buildSlice t n parts=>optK (c.I t) λi=>optK o.dst λd=>bif Nat.blt d c.n then(match i.ty with
      | .slice e=>optK (c.I e) λie=>optK (Il ie.size n (List.replicate n (Bt ie)) (parts.toList.map λp=>(p.1,A.ev p.2))) λrows=>
        bif rows.flatten.all AV.one then n*ie.size<=16777216/\(match rows with
          |[]=>K (A.put d (.av .emp)) st
          | _ ::_=>bif c.G.contains d then(bif c.G.contains (d+1000000)then∀b,Fresh st b->K (A.put d (.av (.s (.slice (some ⟨b,0,none⟩) rows.length rows.length)))) (st.sO b (.cells rows.flatten))
              else∀b,Fresh st b->K (A.put d (.av (.lst ie.size rows (some b)))) (st.sT b (some (rows.length*ie.size))))
            else K (A.put d (.av (.lst ie.size rows none))) st)else False
      |_=>False)else False
  |.store t a x=>bif o.dst.isNone then optK (c.I t) λi=>match A.ev x with
      |.av x=>Gx i A st (A.ev a) x K
      |_=>False
      else False
  |.binOp op t x y yt=>V9 c o op t x y yt K A st
  |.convert s t x=>Vx P c o s t x K A st
  | .call cl=>match cl.callee with
    | .value f=>match Vi (A.ev f)with
      | some (g,fv,cap)=>optK (cl.args.toList.mapM λx=>(A.ev x).toAV) λvs=>
        ACalls P g (fv++(vs++cap)) st λr st'=>xe A c.n o.dst (.av r) λA'=>K A' st'
      |_=>False
    |.invoke y m=>Sq P c o cl m (A.ev y) K A st
    | .builtin .append=>optK cl.argTypes[0]? λt=>optK (c.I t) λi=>optK cl.args[0]? λs=>optK cl.args[1]? λx=>match i.ty with
      |.slice e=>bif (cl.argTypes[1]?.bind c.I).any N6 then
          appendK P c st e (A.ev s) (A.ev x) λr st'=>xe A c.n o.dst (.av r) λA'=>K A' st' else vcX P c o K A st
      |_=>False
    |_=>optK o.dst λd=>bif Nat.blt d c.n then vcV c A.ev A.bx st d o.op (λx=>K (A.put d x) st)else False
  |op=>optK o.dst λd=>bif Nat.blt d c.n then vcV c A.ev A.bx st d op (λx=>K (A.put d x) st)else False
structure AYield(P:Program)(l:Nat)(args:List AV)(st:Store)(R:Ja):Prop where
  out:∀(Oth M:BB) (w:World) (vs:Array Value),StoreOK st Oth M w->Reads w (λb o=>M b o\/Oth b o) args vs.toList->
    ∃fn tmps assign body,(Instr.yield l vs).run P w=.ok (.round l fn tmps assign body) w/\RoundIn Fence.wide 0 P l fn tmps assign body w λe w'=>∃v,e=.returned v/\xg st R Oth M w v w'
def Wo(A:Fr)(op:Op):Option Nat:=
  match op with
  | .call cl=>match cl.callee with
    | .value f=>match A.ev f with
      |.av (.s (.func (.yield l) x y))=>bif Nat.beq x.size 0&&Nat.beq y.size 0 then some l else none
      |_=>none
    |_=>none
  |_=>none
def lv(A:Fr)(op:Op):Option (List AV):=
  match op with
  |.call cl=>cl.args.toList.mapM λx=>(A.ev x).toAV
  |_=>none
def Di(P:Program)(c:Cfg)(o:Oper)(K:Fr->Store->Prop)(A:Fr)(st:Store):Prop:=
  bif isX o.op then vcX P c o K A st else F4 P c o K A st
def Lt(P:Program)(c:Cfg)(o:Oper)(K:Fr->Store->Prop)(A:Fr)(st:Store):Prop:=
  match Wo A o.op with
  |some l=>optK (lv A o.op) λvs=>AYield P l vs st λr st'=>xe A c.n o.dst (.av r) λA'=>K A' st'
  |none=>Di P c o K A st
def Cfg.N(c:Cfg):SN:=⟨c.n,c.D0,c.nm⟩
def AOp(P:Program)(n:SN)(o:Oper)(K:Fr->Store->Prop)(A:Fr)(st:Store):Prop:=
  ∀Oth M a w,Sim n Oth A st M a w->o.wp P a w (λa' w'=>∃A' st' M',K A' st'/\Sim n Oth A' st' M' a' w'/\Chg M w M' w') λ_ _ _=>False
def you(P:Program)(c:Cfg)(o:Oper)(K:Fr->Store->Prop)(A:Fr)(st:Store):Prop:=
  ∀Oth M a w,Sim c.N Oth A st M a w->o.wpIn c.F 0 P a w (λa' w'=>∃A' st' M',K A' st'/\Sim c.N Oth A' st' M' a' w'/\Chg M w M' w') λ_ _ _=>False
def SimB.env{n:SN}{Oth M:BB}{β:Nat->Nat}{a:Act}(h:SimB n Oth β A st M a w):
    Env w (λb o=>M b o\/Oth b o) β A.ev A.bx st a.eval:=
  ⟨h.ev,λk l hk=>(h.bx k l hk).1,λb x hx=>(h.sto.obj b x hx).1⟩
theorem Po{c:Cfg}{o:Oper}{K:Fr->Store->Prop}(hI:qe P c.I)
    (h:optK o.dst λd=>bif Nat.blt d c.n then vcV c A.ev A.bx st d o.op (λx=>K (A.put d x) st)else False):AOp P c.N o K A st:=by
  obtain⟨d,hd,h⟩:=zy h;cases hb:Nat.blt d c.n with
  |false=>grind
  | true=>
    rw[hb]at h;simp only[cond_true]at h;have hlt:d<c.n:=Fbj hb;obtain⟨x,hx,_,hs⟩:=Wx hI o.op h;rintro Oth M a w ⟨β,sim⟩;obtain⟨v,hr,hv⟩:=hs w _ β a.eval o rfl sim.env;unfold Oper.wp;rw[hr,Oper.upon_value,hd];exact⟨_,st,M,hx,⟨β,sim.put hlt hv⟩,Chg.refl M w⟩
end
section
variable {P:Program} {c:Cfg} {w:World} {Oth M:BB} {st:Store}
def vk(M:BB)(B:Nat):Nat->Nat->Prop:=λb o=>M b o\/b=B
def Iq(w:World)(o:Obj):(w.alloc o).heap[w.heap.size]?=some o:=by show(w.heap.push o)[_]?=_;simp
def Hf(w:World)(o:Obj)(M Oth:BB):Keeps w (λb o=>M b o\/Oth b o) (w.alloc o) (λb o=>vk M w.heap.size b o\/Oth b o) where
  cell b o' c hc _:=by grind[Fw,Dv,Lj]
  out b o' c hc hT hT':=by
    rcases hT' with(h|h)|h
    · grind
    · have:=Lj hc;omega
    grind
  shp b c e fr hw:=⟨c,fr,by grind[Dv],rfl⟩
theorem StoreOK.alloc(h:StoreOK st Oth M w)(o:Obj):StoreOK st Oth (vk M w.heap.size) (w.alloc o) where
  obj b x hx:=⟨ObjRel.same (h.obj b x hx).1 (Hf w o M Oth) (Dv w o b (h.obj b x hx).1.lt),λo=>.inl ((h.obj b x hx).2 o)⟩
  tok b top ht:=by obtain⟨c,e,fr,h1,h2,h3,h4⟩:=h.tok b top ht;exact⟨c,e,fr,by grind[Dv],h2,h3,λo ho=>.inl (h4 o ho)⟩
  mlt b o' hm:=by
    rcases hm with h'|h'
    · have:=h.mlt b o' h';simp;omega
    simp_all
  olt b o' hm:=by have:=h.olt b o' hm;simp;omega
  dis b o' hO hM:=by
    rcases hM with h'|h'
    · exact h.dis b o' hO h'
    · have:=h.olt b o' hO;omega
def I5(w:World)(o:Obj)(M:BB):Chg M w (vk M w.heap.size) (w.alloc o) where
  size:=φ
  keep b o' hb _:=Fw (Dv w o b hb) o'
  blk b hb _:=Dv w o b hb
  shp b c e fr hw:=⟨c,fr,by grind[Dv],rfl⟩
  sub b o' hm hb:=by
    rcases hm with h|h
    · exact h
    · omega
  tape:=rfl
  os:=rfl
  output:=rfl
def StoreOK.fresh(h:StoreOK st Oth M w){b:Nat}(hb:w.heap.size<=b):Fresh st b:=by
  constructor
  · cases ho:st.obj b with
    |none=>rfl
    |some x=>have:=(h.obj b x ho).1.lt;omega
  · cases ho:st.tok b with
    |none=>rfl
    | some x=>
      obtain⟨c,e,fr,h1,_⟩:=h.tok b x ho;grind
def Pi{l:List AV}{cs:Array Value}(w:World)(e:TypeId)(M Oth:BB)(h:Reads w (λb o=>M b o\/Oth b o) l cs.toList):
    CellsRel (w.alloc (.cells cs e)) (λb o=>vk M w.heap.size b o\/Oth b o) l w.heap.size:=
  ⟨cs,e,(0,0),Iq w _,rfl,by simpa using h.1,λi x y hx hy=>(h.2 i x y hx δ).keep (Hf w _ M Oth)⟩
theorem Marks.alloc{Oth M:BB}{w:World}{ds:List Deferred}(h:Marks Oth M w ds)(hm:∀b o,M b o->b<w.heap.size)(x:Obj):Marks Oth (vk M w.heap.size) (w.alloc x) ds:=
  h.step λD _ hl h2=>⟨Dv w x D hl,λo hm=>hm.elim (h2 o).1 λe=>θ⟩
theorem MarksD.alloc{Oth M:BB}{w:World}{n:SN}{ds:List Deferred}(h:MarksD Oth M w n ds)(hm:∀b o,M b o->b<w.heap.size)(x:Obj):MarksD Oth (vk M w.heap.size) (w.alloc x) n ds:=by obtain⟨ms,e,h0,h⟩:=h.ex;exact⟨ms,e,h0,h.alloc hm x⟩
theorem SimB.newBx{n:SN}{β:Nat->Nat}{A:Fr}{a:Act}(h:SimB n Oth β A st M a w){d:Nat}(hd:d<n.sz){l:List AV}{cs:Array Value}(e:TypeId)
    (hr:Reads w (λb o=>M b o\/Oth b o) l cs.toList):
    SimB n Oth (λk=>if k=d then w.heap.size else β k) (A.newBx d l) st (vk M w.heap.size) (a.put (some d) (.pointer (some ⟨w.heap.size,0,none⟩))) (w.alloc (.cells cs e)) where
  tsz:=by simp[Act.put,h.tsz]
  dfr:=h.dfr.alloc h.sto.mlt _
  tm i:=by
    simp only[Fr.newBx,Act.put,Fbi];by_cases hi:i=d
    · subst hi
      have:i<a.tmps.size:=by rw[h.tsz];exact hd
      simp_all[LRel]
    · have hb:Nat.beq i d=false:=by grind[wj]
      simp only[hb,cond_false];rw[Array.getElem?_setIfInBounds_ne (Ne.symm hi)];have h1:=h.tm i;rw[Fbi]at h1;cases hx:A.t i with
      |any=>trivial
      |und=>rw[hx]at h1;exact h1
      |av x=>rw[hx]at h1;exact VRel.keep (Hf w _ M Oth) h1
      | bx k o=>
        simp only[LV.kill];cases hk:Nat.beq k d with
        |true=>trivial
        | false=>
          have hne:k≠d:=λe=>by simp_all
          simp_all[LRel]
  bx k l' hk:=by
    simp only[Fr.newBx]at hk;by_cases hkd:k=d
    · subst hkd
      simp only[Fb6,cond_true,Faj]at hk;subst hk;simp only[if_true];exact⟨Pi w e M Oth hr,λo=>.inr rfl⟩
    · have hb:Nat.beq k d=false:=by grind[wj]
      simp only[hb,cond_false]at hk;simp only[hkd,if_false];exact⟨(h.bx k l' hk).1.same (Hf w _ M Oth) (Dv w _ _ (h.bx k l' hk).1.lt),λo=>.inl ((h.bx k l' hk).2 o)⟩
  inj k k' hk hk' he:=by
    simp only[Fr.newBx]at hk hk';have hlt:∀k,A.bx k≠none->β k<w.heap.size:=λk hk=>by
      cases hl:A.bx k with
      |none=>grind
      |some l=>exact(h.bx k l hl).1.lt
    by_cases h1:k=d<;>by_cases h2:k'=d
    · omega
    · have hb:Nat.beq k' d=false:=by grind[wj]
      grind
    · have hb:Nat.beq k d=false:=by grind[wj]
      grind
    · have hb:Nat.beq k d=false:=by grind[wj]
      have hb':Nat.beq k' d=false:=by grind[wj]
      simp only[hb,hb',cond_false]at hk hk';simp only[h1,h2,if_false]at he;exact h.inj k k' hk hk' he
  sep k b hk hb he:=by
    have hlt:b<w.heap.size:=by
      rcases hb with hb|hb
      · cases ho:st.obj b with
        |none=>grind
        |some x=>exact(h.sto.obj b x ho).1.lt
      · cases ho:st.tok b with
        |none=>grind
        | some x=>
          obtain⟨c,e,fr,h1,_⟩:=h.sto.tok b x ho;grind
    simp only[Fr.newBx]at hk;by_cases h1:k=d
    · grind
    · have hb':Nat.beq k d=false:=by grind[wj]
      simp only[hb',cond_false]at hk;simp only[h1,if_false]at he;exact h.sep k b hk hb he
  sto:=h.sto.alloc _
def SimB.grow1{n:SN}{β:Nat->Nat}{A:Fr}{a:Act}(h:SimB n Oth β A st M a w)(o:Obj):SimB n Oth β A st (vk M w.heap.size) a (w.alloc o) where
  tsz:=h.tsz
  dfr:=h.dfr.alloc h.sto.mlt _
  tm i:=(h.tm i).keep (Hf w _ M Oth)
  bx k l hk:=⟨(h.bx k l hk).1.same (Hf w _ M Oth) (Dv w _ _ (h.bx k l hk).1.lt),λo=>.inl ((h.bx k l hk).2 o)⟩
  inj:=h.inj
  sep:=h.sep
  sto:=h.sto.alloc _
theorem q9{i j:Nat}(h:i≠j):Nat.beq i j=false:=by grind[wj]
def SimB.newObj{n:SN}{β:Nat->Nat}{A:Fr}{a:Act}(h:SimB n Oth β A st M a w)(o:Obj)(x:AObj)
    (hr:ObjRel (w.alloc o) (λb o=>vk M w.heap.size b o\/Oth b o) x w.heap.size):
    SimB n Oth β A (st.sO w.heap.size x) (vk M w.heap.size) a (w.alloc o) where
  tsz:=h.tsz
  dfr:=h.dfr.alloc h.sto.mlt _
  tm:=(h.grow1 o).tm
  bx:=(h.grow1 o).bx
  inj:=h.inj
  sep k b hk hb he:=by
    by_cases hbs:b=w.heap.size
    · cases hl:A.bx k with
      |none=>grind
      |some l=>have:=(h.bx k l hl).1.lt;omega
    · refine h.sep k b hk ?_ he
      simpa [Store.sO,q9 hbs]using hb
  sto:=by
    have h':=h.sto.alloc o;refine⟨λb y hy=>?_,h'.tok,h'.mlt,h'.olt,h'.dis⟩;by_cases hbs:b=w.heap.size
    · subst hbs
      simp only[Store.sO,Fb6,cond_true,Faj]at hy;subst hy;exact⟨hr,λo=>.inr rfl⟩
    · simp only[Store.sO,q9 hbs,cond_false]at hy
      exact h'.obj b y hy
end
section
variable {P:Program} {c:Cfg} {w:World} {Oth M:BB} {st:Store}
def CellsRel.mono{T T':BB}(hs:∀b o,T' b o->T b o){l:List AV}{b:Nat}(h:CellsRel w T l b):CellsRel w T' l b:=by obtain⟨c,e,fr,h1,h2,h3,h4⟩:=h;exact⟨c,e,fr,h1,h2,h3,λi x y hx hy=>(h4 i x y hx hy).mono hs⟩
def ObjRel.mono{T T':BB}(hs:∀b o,T' b o->T b o){x:AObj}{b:Nat}(h:ObjRel w T x b):ObjRel w T' x b:=by
  cases x with
  |cells l=>exact CellsRel.mono hs h
  | map es bs clock=>
    obtain⟨ms,h1,h2,h3,h4⟩:=h;exact⟨ms,h1,h2,λi x y hx hy=>⟨(h3 i x y hx hy).1.mono hs,(h3 i x y hx hy).2.mono hs⟩,h4⟩
  |iter m since seen last=>exact h
  |ghost o gh=>exact⟨h.1,λp hp=>(h.2 p hp).mono hs⟩
def LRel.mono{T T':BB}(hs:∀b o,T' b o->T b o){β:Nat->Nat}{x:LV}{v:Value}(h:LRel w T β x v):LRel w T' β x v:=by
  cases x with
  |any=>trivial
  |und=>exact h
  |av x=>exact VRel.mono hs h
  |bx k off=>exact h
def SimB.shrink{n:SN}{β:Nat->Nat}{A:Fr}{a:Act}(h:SimB n Oth β A st M a w){M':BB}(hs:∀b o,M' b o->M b o)
    (hb:∀k l,A.bx k=some l->∀o,M' (β k) o) (ho:∀b x,st.obj b=some x->∀o,M' b o) (ht:∀b top,st.tok b=some top->∀o,top<=o->M' b o):SimB n Oth β A st M' a w where
  tsz:=h.tsz
  dfr:=h.dfr.sub hs
  tm i:=(h.tm i).mono λb o hm=>hm.imp (hs b o) id
  bx k l hk:=⟨(h.bx k l hk).1.mono λb o hm=>hm.imp (hs b o) id,hb k l hk⟩
  inj:=h.inj
  sep:=h.sep
  sto:=
    { obj:=λb x hx=>⟨(h.sto.obj b x hx).1.mono λb o hm=>hm.imp (hs b o) id,ho b x hx⟩
      tok:=λb top hx=>by obtain⟨c,e,fr,h1,h2,h3,h4⟩:=h.sto.tok b top hx;grind
      mlt:=λb o hm=>h.sto.mlt b o (hs b o hm)
      olt:=h.sto.olt
      dis:=λb o hO hM=>h.sto.dis b o hO (hs b o hM)}
def Wl(M:BB)(B top:Nat):Nat->Nat->Prop:=λb o=>M b o\/(b=B/\top<=o)
def zdl(w:World)(o:Obj)(M:BB)(top:Nat):Chg M w (Wl M w.heap.size top) (w.alloc o):=
  { I5 w o M with
    sub:=λb o' hm hb=>by
      rcases hm with h|h
      · exact h
      · omega}
def SimB.newTok{n:SN}{β:Nat->Nat}{A:Fr}{a:Act}(h:SimB n Oth β A st M a w)(cs:Array Value)(e:TypeId)(top:Nat)(htop:top<=cs.size):
    SimB n Oth β A (st.sT w.heap.size (some top)) (Wl M w.heap.size top) a (w.alloc (.cells cs e)):=by
  have hlt:∀b,(st.obj b≠none\/st.tok b≠none)->b<w.heap.size:=λb hb=>by
    rcases hb with hb|hb
    · cases ho:st.obj b with
      |none=>grind
      |some x=>exact(h.sto.obj b x ho).1.lt
    · cases ho:st.tok b with
      |none=>grind
      | some x=>
        obtain⟨c,e,fr,h1,_⟩:=h.sto.tok b x ho;grind
  have h1:=(h.grow1 (.cells cs e)).shrink (M':=Wl M w.heap.size top) (λb o hm=>hm.imp id λh=>h.1)
    (λk l hk o=>.inl ((h.bx k l hk).2 o)) (λb x hx o=>.inl ((h.sto.obj b x hx).2 o))
    (λb t hx o ho=>by obtain⟨c,e,fr,h1,h2,h3,h4⟩:=h.sto.tok b t hx;exact .inl (h4 o ho))
  refine{h1 with sep:=λk b hk hb he=>?_,sto:={h1.sto with tok:=λb t ht=>?_}}
  · by_cases hbs:b=w.heap.size
    · cases hl:A.bx k with
      |none=>grind
      |some l=>have:=(h.bx k l hl).1.lt;omega
    · refine h.sep k b hk ?_ he
      simpa [Store.sT,q9 hbs]using hb
  · by_cases hbs:b=w.heap.size
    · subst hbs
      simp only[Store.sT,Fb6,cond_true,Faj]at ht;subst ht;exact⟨cs,e,(0,0),Iq w _,.inl rfl,htop,λo ho=>.inr ⟨rfl,ho⟩⟩
    · simp only[Store.sT,q9 hbs,cond_false]at ht
      exact h1.sto.tok b t ht
structure Wrote(w:World)(b o:Nat)(vs:List Value)(w':World):Prop where
  size:w'.heap.size=w.heap.size
  other:∀b',b'≠b->w'.heap[b']?=w.heap[b']?
  blk:∀c e fr,w.heap[b]?=some (.cells c e fr)->∃c',w'.heap[b]?=some (.cells c' e fr)/\c'.toList=c.toList.take o++vs++c.toList.drop (o+vs.length)/\c'.size=c.size
  tape:w'.tape=w.tape
  os:w'.os=w.os
  output:w'.output=w.output
theorem Sz(w:World)(b o:Nat)(v:Value)(b':Nat):(w.setCell ⟨b,o,none⟩ v).heap[b']?=if b'=b then(w.heap[b']?).map (λ|.cells c e fr=>.cells (c.setIfInBounds o v) e fr|x=>x)else w.heap[b']?:=by simp only[World.setCell,Fc5];grind
def H7(w:World)(b o:Nat):∀(vs:List Value) (i:Nat) (w:World) (c:Array Value) (e:TypeId) (fr:Nat×Nat),w.heap[b]?=some (.cells c e fr)->D5 fr c.size->o+i+vs.length<=c.size->
    (∀v∈vs,xp v=true)->∃w',(storeCells ⟨b,o,none⟩ vs i).run P w=.ok () w'/\Wrote w b (o+i) vs w':=by
  intro vs;induction vs with
  | nil=>
    intro i w c e fr hw _ _ _;exact⟨w,ξ,rfl,λ_ _=>rfl,λc e fr h=>⟨c,h,φ,rfl⟩,rfl,rfl,rfl⟩
  | cons v vs ih=>
    intro i w c e fr hw hf hlen hone;simp only[Fbz]at hlen;have hlt:o+i<c.size:=θ;have hcell:w.cell? ⟨b,o+i,none⟩=some c[o+i]:=by simp[World.cell?,hw,hlt]
    have hfz:w.frozen? ⟨b,o+i,none⟩=false:=by grind[World.frozen?,D5]
    have hst:(store (Addr.add ⟨b,o,none⟩ i) v).run P w=.ok () (w.setCell ⟨b,o+i,none⟩ v):=by rw[vw];have h1:=hone v φ;cases v<;>simp[xp]at h1<;>simp[store,Sem.run,hcell,hfz]
    have hw1:(w.setCell ⟨b,o+i,none⟩ v).heap[b]?=some (.cells (c.setIfInBounds (o+i) v) e fr):=by simp_all[Sz]
    obtain⟨w',hr,hwr⟩:=ih (i+1) _ _ e fr hw1 δ δ (λv hv=>hone v (by simp[hv]));refine⟨w',by grind[storeCells,Sem.run_bind,Result.andThen_ok],by rw[hwr.size];simp,λb' hb=>by rw[hwr.other b' hb,Sz,if_neg hb],λc₁ e₁ fr₁ hc₁=>?_,by rw[hwr.tape];rfl,by rw[hwr.os];rfl,by rw[hwr.output];rfl⟩;rw[hw]at hc₁;cases hc₁;obtain⟨c',hc',hl,hs⟩:=hwr.blk _ _ _ hw1;refine⟨c',hc',?_,δ⟩;rw[hl,Fd7];have hlt':o+i<c.toList.length:=θ;apply Fcd;intro j;simp only[List.getElem?_append,Fea,Fcq,Fef,Fae,Fam,Faf,Fbz,Fci];grind
def Wrote.keeps{b o:Nat}{vs:List Value}{w':World}(h:Wrote w b o vs w'){T:BB}(hb:∀o,T b o):Keeps w T w' T where
  cell b' o' c hc hT:=by have hne:b'≠b:=λe=>hT (e▸hb o');rw[Fw (h.other b' hne)];exact hc
  out b' o' c hc hT:=hT
  shp b' c e fr hw:=by
    by_cases hbb:b'=b
    · subst hbb
      obtain⟨c',h1,_,h2⟩:=h.blk c e fr hw;grind
    · exact⟨c,fr,by rw[h.other b' hbb];exact hw,rfl⟩
def Wrote.chg{b o:Nat}{vs:List Value}{w':World}(h:Wrote w b o vs w')(hb:∀o,M b o):Chg M w M w' where
  size:=by rw[h.size];simp
  keep b' o' _ hm:=Fw (h.other b' λe=>hm (e▸hb o')) o'
  blk b' _ hm:=h.other b' λe=>hm 0 (e▸hb 0)
  shp:=(h.keeps (T:=M) hb).shp
  sub _ _ hm _:=hm
  tape:=h.tape
  os:=h.os
  output:=h.output
def CellsRel.wrote{b o:Nat}{vs:List Value}{w':World}{T:BB}(h:Wrote w b o vs w')(hT:∀o,T b o){l xs:List AV}(hl:CellsRel w T l b)(hx:Reads w T xs vs):
    CellsRel w' T (zv l o xs) b:=by
  obtain⟨c,e,fr,h1,h2,h3,h4⟩:=hl;obtain⟨c',h5,h6,h7⟩:=h.blk c e fr h1;have hr:Reads w T l c.toList:=⟨θ,λi x y hx hy=>h4 i x y hx δ⟩
  have hr':Reads w' T (zv l o xs) c'.toList:=by rw[h6];unfold zv;refine(((hr.take o).append hx).append ?_).keep (h.keeps hT);rw[hx.1];exact hr.drop _
  exact⟨c',e,fr,h5,h2,by simpa using hr'.1,λi x y hx hy=>hr'.2 i x y hx δ⟩
def StoreOK.wrote{b o:Nat}{vs:List Value}{w':World}(h:StoreOK st Oth M w)(hw:Wrote w b o vs w')(hb:∀o,M b o)(hob:st.obj b=none):StoreOK st Oth M w' where
  obj b' x hx:=by have hne:b'≠b:=λe=>δ;exact⟨ObjRel.same (h.obj b' x hx).1 (hw.keeps λo=>.inl (hb o)) (hw.other b' hne),(h.obj b' x hx).2⟩
  tok b' top ht:=by
    obtain⟨c,e,fr,h1,h2,h3,h4⟩:=h.tok b' top ht;by_cases he:b'=b
    · subst he
      obtain⟨c',h5,_,h6⟩:=hw.blk c e fr h1;grind
    · exact⟨c,e,fr,ψa,h2,h3,h4⟩
  mlt b' o' hm:=by rw[hw.size];exact h.mlt b' o' hm
  olt b' o' hm:=by rw[hw.size];exact h.olt b' o' hm
  dis:=h.dis
theorem SimB.setBx{n:SN}{β:Nat->Nat}{A:Fr}{a:Act}(h:SimB n Oth β A st M a w){k o:Nat}{l xs:List AV}{vs:List Value}{w':World}(hk:A.bx k=some l)
    (hx:Reads w (λb o=>M b o\/Oth b o) xs vs) (hw:Wrote w (β k) o vs w'):SimB n Oth β (A.setBx k (zv l o xs)) st M a w':=by
  have hM:=(h.bx k l hk).2;have hT:∀o,M (β k) o\/Oth (β k) o:=λo=>.inl (hM o);have hsome:∀k',(A.setBx k (zv l o xs)).bx k'≠none->A.bx k'≠none:=by grind[Fr.setBx,q9]
  have hob:st.obj (β k)=none:=by
    cases ho:st.obj (β k)with
    |none=>rfl
    |some x=>exact absurd rfl (h.sep k (β k) δ (.inl δ))
  exact
    { tsz:=h.tsz
      dfr:=h.dfr.step λD _ _ h2=>⟨hw.other D λe=>(h2 0).1 (e▸hM 0),λo=>(h2 o).1⟩
      tm:=λi=>(h.tm i).keep (hw.keeps hT)
      bx:=λk' l' hk'=>by
        by_cases he:k'=k
        · subst he
          simp only[Fr.setBx,Fb6,cond_true,Faj]at hk';subst hk';exact⟨CellsRel.wrote hw hT (h.bx k' l hk).1 hx,hM⟩
        · simp only[Fr.setBx,q9 he,cond_false]at hk'
          have hne:β k'≠β k:=λe=>he (h.inj k' k δ δ e);exact⟨(h.bx k' l' hk').1.same (hw.keeps hT) (hw.other _ hne),(h.bx k' l' hk').2⟩
      inj:=λk1 k2 h1 h2=>h.inj k1 k2 (hsome k1 h1) (hsome k2 h2)
      sep:=λk1 b h1=>h.sep k1 b (hsome k1 h1)
      sto:=h.sto.wrote hw hM hob}
theorem SimB.sO{n:SN}{β:Nat->Nat}{A:Fr}{a:Act}(h:SimB n Oth β A st M a w){b o:Nat}{l xs:List AV}{vs:List Value}{w':World}(hk:st.obj b=some (.cells l))
    (hx:Reads w (λb o=>M b o\/Oth b o) xs vs) (hw:Wrote w b o vs w'):SimB n Oth β A (st.sO b (.cells (zv l o xs))) M a w':=by
  have hM:=(h.sto.obj b _ hk).2;have hT:∀o,M b o\/Oth b o:=λo=>.inl (hM o)
  exact
    { tsz:=h.tsz
      dfr:=h.dfr.step λD _ _ h2=>⟨hw.other D λe=>(h2 0).1 (e▸hM 0),λo=>(h2 o).1⟩
      tm:=λi=>(h.tm i).keep (hw.keeps hT)
      bx:=λk' l' hk'=>by have hne:β k'≠b:=h.sep k' b δ (.inl δ);exact⟨(h.bx k' l' hk').1.same (hw.keeps hT) (hw.other _ hne),(h.bx k' l' hk').2⟩
      inj:=h.inj
      sep:=λk1 b1 h1 h2=>h.sep k1 b1 h1 (by grind[Store.sO,q9])
      sto:=
        { obj:=λb' x hx'=>by
            by_cases he:b'=b
            · subst he
              simp only[Store.sO,Fb6,cond_true,Faj]at hx';subst hx';exact⟨CellsRel.wrote hw hT (h.sto.obj b' _ hk).1 hx,hM⟩
            · simp only[Store.sO,q9 he,cond_false]at hx'
              exact⟨ObjRel.same (h.sto.obj b' x hx').1 (hw.keeps hT) (hw.other b' he),(h.sto.obj b' x hx').2⟩
          tok:=λb' top ht=>by
            obtain⟨c,e,fr,h1,h2,h3,h4⟩:=h.sto.tok b' top ht;by_cases he:b'=b
            · subst he
              obtain⟨c',h5,_,h6⟩:=hw.blk c e fr h1;grind
            · exact⟨c,e,fr,ψa,h2,h3,h4⟩
          mlt:=λb' o' hm=>by rw[hw.size];exact h.sto.mlt b' o' hm
          olt:=λb' o' hm=>by rw[hw.size];exact h.sto.olt b' o' hm
          dis:=h.sto.dis}}
end
section
variable {P:Program} {c:Cfg} {K:Fr->Store->Prop} {A:Fr} {st:Store}
def Ay{d n:Nat}{p:Prop}(h:bif Nat.blt d n then p else False):d<n/\p:=by simp_all
theorem yn3{o:Oper}{t:TypeId}(ho:o.op=.alloc t)(hI:qe P c.I)
    (h:optK (c.I t) λi=>optK o.dst λd=>bif Nat.blt d c.n then
      (bif c.G.contains d then∀b,Fresh st b->K (A.put d (.av (.s (.pointer (some ⟨b,0,none⟩))))) (st.sO b (.cells (Bt i)))
        else K (A.newBx d (Bt i)) st)else False):AOp P c.N o K A st:=by
  obtain⟨i,hi,h⟩:=zy h;obtain⟨d,hd,h⟩:=zy h;obtain⟨hlt,h⟩:=Ay h;rintro Oth M a w ⟨β,sim⟩;obtain⟨z,hz1,hz2⟩:=Me (hI _ _ hi) w;have hr:(execOp a.eval o).run P w=.ok (.value (.pointer (some ⟨w.heap.size,0,none⟩))) (w.alloc (.cells z.cells t)):=by simp_all[execOp,Instr.alloc,newVar,newRow]
  have hrd:∀T,Reads w T (Bt i) z.cells.toList:=λT=>by grind[Bt,Reads.map_s]
  unfold Oper.wp;rw[hr,Oper.upon_value,hd];cases hg:c.G.contains d with
  | true=>
    rw[hg]at h;exact⟨_,_,vk M w.heap.size,h w.heap.size (sim.sto.fresh (Fal _)),⟨β,(sim.newObj _ (.cells (Bt i)) (Pi w t M Oth (hrd _))).put hlt (VRel.s _)⟩,I5 _ _ _⟩
  | false=>
    rw[hg]at h;exact⟨_,_,vk M w.heap.size,h,⟨_,sim.newBx hlt t (hrd _)⟩,I5 _ _ _⟩
theorem yn0{o:Oper}{t:TypeId}{x:Operand}(ho:o.op=.box t x)(hI:qe P c.I)
    (h:optK o.dst λd=>bif Nat.blt d c.n then(match A.ev x with
      | .av x=>optK (cellsOf x) λl=>
        bif c.G.contains d then∀b,Fresh st b->K (A.put d (.av (.s (.pointer (some ⟨b,0,none⟩))))) (st.sO b (.cells l))
        else K (A.newBx d l) st
      |_=>False)else False):AOp P c.N o K A st:=by
  obtain⟨d,hd,h⟩:=zy h;obtain⟨hlt,h⟩:=Ay h;split at h
  · rename_i y hy
    obtain⟨l,hl,h⟩:=zy h;rintro Oth M a w ⟨β,sim⟩;have hv:=qq sim.env hy;obtain⟨hrd,_⟩:=i7 hv hl;have hr:(execOp a.eval o).run P w=.ok (.value (.pointer (some ⟨w.heap.size,0,none⟩))) (w.alloc (.cells (a.eval x).cells t)):=by simp[execOp,ho,Instr.box,newVar,newRow]
    unfold Oper.wp;rw[hr,Oper.upon_value,hd];cases hg:c.G.contains d with
    | true=>
      rw[hg]at h;exact⟨_,_,vk M w.heap.size,h w.heap.size (sim.sto.fresh (Fal _)),⟨β,(sim.newObj _ (.cells l) (Pi w t M Oth hrd)).put hlt (VRel.s _)⟩,I5 _ _ _⟩
    | false=>
      rw[hg]at h;exact⟨_,_,vk M w.heap.size,h,⟨_,sim.newBx hlt t hrd⟩,I5 _ _ _⟩
  grind
def ynv{o:Oper}{t:TypeId}{p x:Operand}(ho:o.op=.store t p x)(hd:o.dst=none)(hI:qe P c.I)
    (h:optK (c.I t) λi=>match A.ev x with
      |.av x=>Gx i A st (A.ev p) x K
      |_=>False):AOp P c.N o K A st:=by
  obtain⟨i,hi,h⟩:=zy h;split at h
  · rename_i y hy
    obtain⟨xs,hxs,h⟩:=zy h;cases hb:(Nat.beq xs.length i.size&&xs.all AV.one)with
    |false=>grind
    |true=>
    rw[hb]at h;simp only[cond_true]at h;simp only[Fay]at hb;have hsz:xs.length=i.size:=(wj _ _).1 hb.1;rintro Oth M a w ⟨β,sim⟩;have hv:=qq sim.env hy;obtain⟨hrd,hone⟩:=i7 hv hxs;have hone':∀v∈(a.eval x).cells.toList,xp v=true:=by
      intro v hv;obtain⟨j,hj⟩:=Fa6.1 hv;have hjl:j<xs.length:=by rw[hrd.1];grind
      exact dt (hrd.2 j _ v (Fac hjl) hj) (Fck.1 hb.2 _ (Faa hjl))
    have hvs:(a.eval x).cells.size=i.size:=by rw[<-hsz,hrd.1];simp
    unfold Oper.wp;split at h
    · rename_i k off hp
      obtain⟨l,hl,h⟩:=zy h;cases hb2:Nat.ble (off+xs.length) l.length with
      |false=>grind
      |true=>
      rw[hb2]at h;simp only[cond_true,Gm]at h;have hle:off+xs.length<=l.length:=Fbj hb2;have hp':a.eval p=.pointer (some ⟨β k,off,none⟩):=by have:=sim.ev p;rw[hp]at this;exact this
      obtain⟨⟨cs,e,fr,h1,h2,h3,h4⟩,hM⟩:=sim.bx k l hl;obtain⟨w',hr,hw⟩:=H7 (P:=P) w (β k) off (a.eval x).cells.toList 0 w cs e fr h1 (.inl h2) δ hone';have hrun:(execOp a.eval o).run P w=.ok .skip w':=ψw;rw[hrun,Oper.upon_skip,hd];exact⟨_,_,M,h,⟨β,sim.setBx hl hrd hw⟩,hw.chg hM⟩
    · rename_i b off hp
      obtain⟨ob,hob,h⟩:=zy h;cases ob with
      |map es bs clock=>grind
      |iter m since seen last=>grind
      |ghost o gh=>grind
      |cells l=>
      obtain⟨hle,h⟩:=h;rw[Gm]at h;have hp':a.eval p=.pointer (some ⟨b,off,none⟩):=VRel.eq_s (qq sim.env hp);obtain⟨⟨cs,e,fr,h1,h2,h3,h4⟩,hM⟩:=sim.sto.obj b _ hob;obtain⟨w',hr,hw⟩:=H7 (P:=P) w b off (a.eval x).cells.toList 0 w cs e fr h1 (.inl h2) δ hone';have hrun:(execOp a.eval o).run P w=.ok .skip w':=ψw;rw[hrun,Oper.upon_skip,hd];exact⟨_,_,M,h,⟨β,sim.sO hob hrd hw⟩,hw.chg hM⟩
    grind
  grind
end
section
variable {P:Program} {c:Cfg} {K:Fr->Store->Prop} {A:Fr} {st:Store}
def VRel.clos_inv{w:World}{T:BB}{f:FuncId}{cs:List AV}{v:Value}(h:VRel w T (.clos f cs) v):∃c,v=.func (.func f) #[] c/\Reads w T cs c.toList:=by
  cases h with
  |clos _ _ c hl h=>exact⟨c,rfl,θ,λi x y hx hy=>h i x y hx δ⟩
def inM(M:BB)(A:Fr)(β:Nat->Nat):Nat->Nat->Prop:=λb o=>M b o/\∀k,A.bx k≠none->β k≠b
def Sc(Oth M:BB)(A:Fr)(β:Nat->Nat):Nat->Nat->Prop:=λb o=>Oth b o\/(M b o/\∃k,A.bx k≠none/\β k=b)
def Ip{Oth M:BB}{β:Nat->Nat}:∀b o,(inM M A β b o\/Sc Oth M A β b o)->(M b o\/Oth b o):=by
  rintro b o (h|h|h)
  · exact .inl h.1
  · grind
  grind
def SimB.inner{n:SN}{Oth M:BB}{β:Nat->Nat}{a:Act}{w:World}(sim:SimB n Oth β A st M a w):StoreOK st (Sc Oth M A β) (inM M A β) w:=
  { obj:=λb x hx=>⟨(sim.sto.obj b x hx).1.mono Ip,λo=>⟨(sim.sto.obj b x hx).2 o,λk hk=>sim.sep k b hk (.inl δ)⟩⟩
    tok:=λb top hx=>by obtain⟨c,e,fr,h1,h2,h3,h4⟩:=sim.sto.tok b top hx;exact⟨c,e,fr,h1,h2,h3,λo ho=>⟨h4 o ho,λk hk=>sim.sep k b hk (.inr δ)⟩⟩
    mlt:=λb o hm=>sim.sto.mlt b o hm.1
    olt:=λb o hm=>by
      rcases hm with h|h
      · exact sim.sto.olt b o h
      · exact sim.sto.mlt b o h.1
    dis:=λb o hO hM=>by
      rcases hO with h|⟨h,k,hk,he⟩
      · exact sim.sto.dis b o h hM.1
      · exact hM.2 k hk he}
def SimB.post{n:SN}{Oth M:BB}{β:Nat->Nat}{a:Act}{w:World}(sim:SimB n Oth β A st M a w){R:Ja}:
    ∀v w',xg st R (Sc Oth M A β) (inM M A β) w v w'->∃r st' M',R r st'/\VRel w' (λb o=>M' b o\/Oth b o) r v/\SimB n Oth β A st' M' a w'/\Chg M w M' w':=by
  rintro v w' ⟨r,st',Mc',hR,hr,hsto,hchg⟩
  let M':Nat->Nat->Prop:=λb o=>Mc' b o\/(M b o/\∃k,A.bx k≠none/\β k=b)
  have hT2:∀b o,(M' b o\/Oth b o)->(Mc' b o\/Sc Oth M A β b o):=by
    rintro b o ((h|h)|h)
    · grind
    · exact .inr (.inr h)
    · exact .inr (.inl h)
  have hblk:∀k,A.bx k≠none->w'.heap[β k]?=w.heap[β k]?:=λk hk=>by
    cases hl:A.bx k with
    |none=>grind
    |some l=>exact hchg.blk _ (sim.bx k l hl).1.lt λo hm=>hm.2 k hk rfl
  have hno:∀k b o,A.bx k≠none->Mc' b o->β k≠b:=λk b o hk hm he=>by
    subst he;cases hl:A.bx k with
    |none=>grind
    |some l=>exact(hchg.sub _ o hm (sim.bx k l hl).1.lt).2 k hk rfl
  refine⟨r,st',M',hR,hr.mono hT2,?_,?_⟩
  · exact
      { tsz:=sim.tsz
        dfr:=sim.dfr.step λD _ hl h2=>⟨hchg.blk D hl λo hm=>(h2 o).1 hm.1,λo hm=>by
          rcases hm with hm|hm
          · exact(h2 o).1 (hchg.sub D o hm hl).1
          grind⟩
        tm:=λi=>((LRel.mono Ip (sim.tm i)).keep hchg.keeps).mono hT2
        bx:=λk l hl=>by have hk:A.bx k≠none:=δ;exact⟨(((sim.bx k l hl).1.mono Ip).same hchg.keeps (hblk k hk)).mono hT2,λo=>.inr ⟨(sim.bx k l hl).2 o,k,hk,rfl⟩⟩
        inj:=sim.inj
        sep:=λk b hk hb=>by
          rcases hb with hb|hb
          · cases ho:st'.obj b with
            |none=>grind
            |some x=>exact hno k b 0 hk ((hsto.obj b x ho).2 0)
          · cases ho:st'.tok b with
            |none=>grind
            | some top=>
              obtain⟨c,e,fr,h1,h2,h3,h4⟩:=hsto.tok b top ho;grind
        sto:=
          { obj:=λb x hx=>⟨(hsto.obj b x hx).1.mono hT2,λo=>.inl ((hsto.obj b x hx).2 o)⟩
            tok:=λb top hx=>by obtain⟨c,e,fr,h1,h2,h3,h4⟩:=hsto.tok b top hx;grind
            mlt:=λb o hm=>by
              rcases hm with h|h
              · exact hsto.mlt b o h
              · exact Nat.lt_of_lt_of_le (sim.sto.mlt b o h.1) hchg.size
            olt:=λb o hm=>Nat.lt_of_lt_of_le (sim.sto.olt b o hm) hchg.size
            dis:=λb o hO hM=>by
              rcases hM with h|h
              · exact hsto.dis b o (.inl hO) h
              · exact sim.sto.dis b o hO h.1}}
  · exact
      { size:=hchg.size
        keep:=λb o hb hm=>hchg.keep b o hb λh=>hm h.1
        blk:=λb hb hm=>hchg.blk b hb λo h=>hm o h.1
        shp:=hchg.shp
        sub:=λb o hm hb=>by
          rcases hm with h|h
          · exact(hchg.sub b o h hb).1
          grind
        tape:=hchg.tape
        os:=hchg.os
        output:=hchg.output}
def SimB.call{n:SN}{Oth M:BB}{β:Nat->Nat}{a:Act}{w:World}(sim:SimB n Oth β A st M a w){g:FuncId}{args:List AV}{vs:Array Value}{R:Ja}
    (hc:ACalls P g args st R) (hv:Reads w (λb o=>M b o\/Oth b o) args vs.toList):
    Pt P (λv w'=>∃r st' M',R r st'/\VRel w' (λb o=>M' b o\/Oth b o) r v/\SimB n Oth β A st' M' a w'/\Chg M w M' w') ((callFunc g vs).run P w):=by
  have key:=sim.post (R:=R);have hout:=hc.out _ _ w vs sim.inner ⟨hv.1,λi x y hx hy=>(hv.2 i x y hx hy).mono Ip⟩;generalize(callFunc g vs).run P w=res at*;cases res with
  |halt h w'=>trivial
  | ok nx w'=>
    cases nx with
    |enter f as=>exact Calls.mono hout λe w'' ⟨v,he,hp⟩=>⟨v,he,key v w'' hp⟩
    |value v=>exact key v w' hout
    |_=>trivial
def Wi{o:Oper}(hI:qe P c.I)(h:vcX P c o K A st):AOp P c.N o K A st:=by
  obtain⟨vs,hvs,h⟩:=zy h;rintro Oth M a w ⟨β,sim⟩;obtain⟨hm1,hm2⟩:=Mo hvs;have hr:Reads w (λb o=>M b o\/Oth b o) vs (o.op.operands.map a.eval).toList:=by refine⟨by simp[hm1],λi x y hx hy=>?_⟩;obtain⟨z,hz,hzz⟩:=hm2 i x hx;have hz':o.op.operands[i]?=some z:=δ;rw[Fcv,Far,hz]at hy;simp at hy;subst hy;exact qq sim.env (Np hzz)
  have hout:=h.out _ _ w a.eval hI sim.inner ⟨hr.1,λi x y hx hy=>(hr.2 i x y hx hy).mono Ip⟩;have key:=sim.post (R:=λr st'=>xe A c.n o.dst (.av r) λA'=>K A' st')
  have fin:∀v w',(∃r st' M',(xe A c.n o.dst (.av r) λA'=>K A' st')/\VRel w' (λb o=>M' b o\/Oth b o) r v/\SimB c.N Oth β A st' M' a w'/\Chg M w M' w')->
      ∃A' st' M',K A' st'/\Sim c.N Oth A' st' M' (a.put o.dst v) w'/\Chg M w M' w':=by
    rintro v w' ⟨r,st',M',hk,hv,hs,hchg⟩;unfold xe at hk;cases hd:o.dst with
    |none=>rw[hd]at hk;exact⟨A,st',M',hk,⟨β,hs⟩,hchg⟩
    | some d=>
      rw[hd]at hk;obtain⟨hlt,hk⟩:=Ay hk;exact⟨_,st',M',hk,⟨β,hs.put hlt hv⟩,hchg⟩
  unfold Oper.wp;generalize(execOp a.eval o).run P w=res at*;cases res with
  |halt h w'=>grind
  | ok nx w'=>
    cases nx with
    |value v=>rw[Oper.upon_value];exact fin v w' (key v w' hout)
    | skip=>
      obtain⟨hd,hout⟩:=hout;rw[Oper.upon_skip];have:=fin _ w' (key _ w' hout);trivial
    |_=>grind
def sg(w:World)(T:BB)(l:List Value):Reads w T (l.map AV.s) l:=⟨φ,λi x y hx hy=>by rw[Far,hy]at hx;cases hx;exact .s _⟩
def yi6{w:World}{T:BB}{x:LV}{g:FuncId}{fv cap:List AV}{v:Value}(h:Vi x=some (g,fv,cap))(hx:∀y,x=.av y->VRel w T y v):∃f c,v=.func (.func g) f c/\Reads w T fv f.toList/\Reads w T cap c.toList:=by
  unfold Vi at h;split at h
  · cases h
    obtain⟨c,h1,h2⟩:=VRel.clos_inv (hx _ rfl);exact⟨#[],c,h1,Reads.nil,h2⟩
  · cases h
    exact⟨_,_,VRel.eq_s (hx _ rfl),sg _ _ _,sg _ _ _⟩
  · cases h
theorem ynz{o:Oper}{cl:Call}{f:Operand}(ho:o.op=.call cl)(hcl:cl.callee=.value f)
    (h:match Vi (A.ev f)with
      | some (g,fv,cap)=>optK (cl.args.toList.mapM λx=>(A.ev x).toAV) λvs=>
        ACalls P g (fv++(vs++cap)) st λr st'=>xe A c.n o.dst (.av r) λA'=>K A' st'
      |_=>False):AOp P c.N o K A st:=by
  split at h
  · rename_i g fv cap hf
    obtain⟨vs,hvs,h⟩:=zy h;rintro Oth M a w ⟨β,sim⟩;obtain⟨fvv,capv,hcv,hfr,hcr⟩:=yi6 hf λx hx=>qq sim.env hx;obtain⟨hm1,hm2⟩:=Mo hvs;have hr1:Reads w (λb o=>M b o\/Oth b o) vs (cl.args.map a.eval).toList:=by refine⟨by simp[hm1],λi x y hx hy=>?_⟩;obtain⟨z,hz,hzz⟩:=hm2 i x hx;have hz':cl.args[i]?=some z:=δ;rw[Fcv,Far,hz]at hy;simp at hy;subst hy;exact qq sim.env (Np hzz)
    have hr:Reads w (λb o=>M b o\/Oth b o) (fv++(vs++cap)) (fvv++(cl.args.map a.eval)++capv).toList:=by rw[Fbc,Fbc,Faw];exact hfr.append (hr1.append hcr)
    have hrun:(execOp a.eval o).run P w=(callFunc g (fvv++(cl.args.map a.eval)++capv)).run P w:=by grind[execOp,resolve,Deferred.ofValue,invoke]
    have hc:=sim.call h hr;unfold Oper.wp;rw[hrun]
    have fin:∀v w',(∃r st' M',(xe A c.n o.dst (.av r) λA'=>K A' st')/\VRel w' (λb o=>M' b o\/Oth b o) r v/\SimB c.N Oth β A st' M' a w'/\Chg M w M' w')->
        ∃A' st' M',K A' st'/\Sim c.N Oth A' st' M' (a.put o.dst v) w'/\Chg M w M' w':=by
      rintro v w' ⟨r,st',M',hk,hv,hs,hchg⟩;unfold xe at hk;cases hd:o.dst with
      |none=>rw[hd]at hk;exact⟨A,st',M',hk,⟨β,hs⟩,hchg⟩
      | some d=>
        rw[hd]at hk;obtain⟨hlt,hk⟩:=Ay hk;exact⟨_,st',M',hk,⟨β,hs.put hlt hv⟩,hchg⟩
    generalize(callFunc g (fvv++(cl.args.map a.eval)++capv)).run P w=res at*;cases res with
    |halt h w'=>trivial
    | ok nx w'=>
      cases nx with
      | enter f as=>
        rw[Oper.upon_enter];exact Calls.mono hc λe w'' ⟨v,he,hp⟩=>by subst he;exact fin v w'' hp
      |value v=>rw[Oper.upon_value];exact fin v w' hc
      |_=>trivial
  grind
theorem ynx{o:Oper}{cl:Call}{y:Operand}{m:String}(ho:o.op=.call cl)(hcl:cl.callee=.invoke y m)(h:Sq P c o cl m (A.ev y) K A st):AOp P c.N o K A st:=by
  unfold Sq at h;split at h
  · rename_i t v hf
    obtain⟨vs,hvs,g,x,⟨u,hm,hu⟩,h⟩:=zy h;rintro Oth M a w ⟨β,sim⟩;have hcv:a.eval y=.iface t v:=VRel.eq_s (qq sim.env hf);obtain⟨hm1,hm2⟩:=Mo hvs;have hr1:Reads w (λb o=>M b o\/Oth b o) vs (cl.args.map a.eval).toList:=by refine⟨by simp[hm1],λi x y hx hy=>?_⟩;obtain⟨z,hz,hzz⟩:=hm2 i x hx;have hz':cl.args[i]?=some z:=δ;rw[Fcv,Far,hz]at hy;simp at hy;subst hy;exact qq sim.env (Np hzz)
    have hr:Reads w (λb o=>M b o\/Oth b o) (x::vs) (#[u]++(cl.args.map a.eval)).toList:=by grind[Reads.cons]
    have hrun:(execOp a.eval o).run P w=(callFunc g (#[u]++(cl.args.map a.eval))).run P w:=by
      have e1:(#[Value.iface t v]++Array.map a.eval cl.args).extract 1 (#[Value.iface t v]++Array.map a.eval cl.args).size=Array.map a.eval cl.args:=φ;have e2:execOp a.eval o=callMethod (.iface t v) m ((#[Value.iface t v]++Array.map a.eval cl.args).extract 1 (#[Value.iface t v]++Array.map a.eval cl.args).size):=by
        have e3:(#[Value.iface t v]++Array.map a.eval cl.args)[0]?=some (Value.iface t v):=by simp_all[Fdh]
        simp_all[execOp,resolve,invoke]
      rw[e2,e1];simp[callMethod,hm]
    have hc:=sim.call h hr;unfold Oper.wp;rw[hrun]
    have fin:∀v w',(∃r st' M',(xe A c.n o.dst (.av r) λA'=>K A' st')/\VRel w' (λb o=>M' b o\/Oth b o) r v/\SimB c.N Oth β A st' M' a w'/\Chg M w M' w')->
        ∃A' st' M',K A' st'/\Sim c.N Oth A' st' M' (a.put o.dst v) w'/\Chg M w M' w':=by
      rintro v w' ⟨r,st',M',hk,hv,hs,hchg⟩;unfold xe at hk;cases hd:o.dst with
      |none=>rw[hd]at hk;exact⟨A,st',M',hk,⟨β,hs⟩,hchg⟩
      | some d=>
        rw[hd]at hk;obtain⟨hlt,hk⟩:=Ay hk;exact⟨_,st',M',hk,⟨β,hs.put hlt hv⟩,hchg⟩
    generalize(callFunc g (#[u]++(cl.args.map a.eval))).run P w=res at*;cases res with
    |halt h w'=>trivial
    | ok nx w'=>
      cases nx with
      | enter f as=>
        rw[Oper.upon_enter];exact Calls.mono hc λe w'' ⟨v,he,hp⟩=>by subst he;exact fin v w'' hp
      |value v=>rw[Oper.upon_value];exact fin v w' hc
      |_=>trivial
  grind
end
section
variable {P:Program} {c:Cfg} {K:Fr->Store->Prop} {A:Fr} {st:Store}
def Iy{α:Type}{k:Nat}:∀{rows:List (List α)} (_:∀row∈rows,row.length=k) {i j:Nat} {row:List α} {x:α},rows[i]?=some row->row[j]?=some x->rows.flatten[i*k+j]?=some x:=by
  intro rows;induction rows with
  |nil=>simp
  | cons r rows ih=>
    intro hk i j row x h1 h2;have hr:r.length=k:=hk r φ;cases i with
    | zero=>
      grind
    | succ i=>
      grind
theorem Dy{α:Type}{k:Nat}:∀{rows:List (List α)} (_:∀row∈rows,row.length=k),rows.flatten.length=rows.length*k:=by
  intro rows;induction rows with
  |nil=>simp
  | cons r rows ih=>
    grind
theorem ow(r l xs:List AV)(o:Nat):zv (r++l) (r.length+o) xs=r++zv l o xs:=by unfold zv;rw[List.take_append,List.drop_append];have h1:List.take (r.length+o) r=r:=Fce θ;have h2:List.drop (r.length+o+xs.length) r=[]:=Fcm θ;rw[h1,h2];have e1:r.length+o-r.length=o:=θ;have e2:r.length+o+xs.length-r.length=o+xs.length:=θ;grind
theorem yjd{k:Nat}{xs:List AV}(hx:xs.length=k):∀{rows:List (List AV)} (_:∀row∈rows,row.length=k) {i:Nat},i<rows.length->(rows.set i xs).flatten=zv rows.flatten (i*k) xs:=by
  intro rows;induction rows with
  |nil=>simp
  | cons r rows ih=>
    intro hk i hi;have hr:r.length=k:=hk r φ;cases i with
    | zero=>
      simp_all[zv]
    | succ i=>
      simp only[List.set_cons_succ,Feg];rw[ih (λrow h=>hk row (by simp[h])) δ];rw[<-ow];grind
def ygg{k n:Nat}:∀(parts:List (Nat×LV)) (acc rows:List (List AV)),(∀row∈acc,row.length=k)->acc.length=n->Il k n acc parts=some rows->
    Iz (λi=>some (i*k,k)) acc.flatten parts=some rows.flatten/\(∀row∈rows,row.length=k)/\rows.length=n:=by
  intro parts;induction parts with
  |nil=>intro acc rows h1 h2 h;simp[Il]at h;subst h;trivial
  | cons p parts ih=>
    intro acc rows h1 h2 h;obtain⟨i,x⟩:=p;simp only[Il]at h;cases x with
    | av x=>
      simp only at h;cases hc:cellsOf x with
      |none=>grind
      | some xs=>
        rw[hc]at h;simp only at h;cases hb:(Nat.beq xs.length k&&Nat.blt i n)with
        |false=>grind
        | true=>
          rw[hb]at h;simp only[cond_true]at h;simp only[Fay]at hb;have hx:xs.length=k:=(wj _ _).1 hb.1;have hi:i<n:=Fbj hb.2;obtain⟨h3,h4,h5⟩:=ih (acc.set i xs) rows (λrow hr=>δ) δ h;refine⟨?_,h4,h5⟩;have hfl:=Dy h1;have hle:(i+1)*k<=n*k:=Fa1 k hi;have hb2:(Nat.beq xs.length k&&Nat.ble (i*k+k) acc.flatten.length)=true:=by simp_all[Fch]
          simp only[Iz,hc,hb2,cond_true];grind[yjd]
    |_=>simp at h
def Wt{w:World}{M Oth T':BB}{rows:List (List AV)}{k:Nat}(hk:∀row∈rows,row.length=k){cs:Array Value}{e:TypeId}{cap:Nat}
    (hr:∀(i:Nat) (x:AV),rows.flatten[i]?=some x->∃v,cs[i]?=some v/\VRel w (λb o=>M b o\/Oth b o) x v/\xp v=true) (hcap:rows.length<=cap) (tok:Option Nat)
    (hT:Keeps w (λb o=>M b o\/Oth b o) (w.alloc (.cells cs e)) T') (hno:∀o,o<rows.length*k->¬T' w.heap.size o)
    (htok:∀t,tok=some t->t=w.heap.size/\rows≠[]/\cap*k<=cs.size):
    VRel (w.alloc (.cells cs e)) T' (.lst k rows tok) (.slice (some ⟨w.heap.size,0,none⟩) rows.length cap):=by
  have hlen:=Dy hk;have hlt:∀(i:Nat) (row:List AV) (j:Nat) (x:AV),rows[i]?=some row->row[j]?=some x->i*k+j<rows.length*k:=by intro i row j x h1 h2;have:=(Fax.1 (Iy hk h1 h2)).1;omega
  refine VRel.lst rows tok w.heap.size 0 cap k (λj=>cs.getD j undef) hcap (λi row h=>hk row (Fa3 h)) (λt ht=>?_) (λi row j x h1 h2=>?_) (λi row j x h1 h2=>?_) λi row j x h1 h2=>?_
  · obtain⟨h1,h2,h3⟩:=htok t ht
    exact⟨h1,rfl,h2,cs,e,(0,0),Iq w _,h3⟩
  · obtain⟨v,hv,_⟩:=hr _ x (Iy hk h1 h2)
    simp_all
  · obtain⟨v,hv,_,hv1⟩:=hr _ x (Iy hk h1 h2)
    simp_all
  · obtain⟨v,hv,hvr,_⟩:=hr _ x (Iy hk h1 h2)
    have:cs.getD (i*k+j) undef=v:=by simp[hv]
    simp only[this];exact hvr.keep hT
def zaz(w:World)(o:Obj)(M Oth:BB)(top:Nat):Keeps w (λb o=>M b o\/Oth b o) (w.alloc o) (λb o=>Wl M w.heap.size top b o\/Oth b o) where
  cell:=(Hf w o M Oth).cell
  out b o' c hc hT hT':=by
    rcases hT' with(h|h)|h
    · grind
    · have:=Lj hc;omega
    grind
  shp:=(Hf w o M Oth).shp
theorem yb8(z:Array Value)(n:Nat)(hz:0<z.size):((Array.range (n*z.size)).map λi=>z[i%z.size]!).toList=(List.replicate n z.toList).flatten:=by
  induction n with
  |zero=>simp
  | succ n ih=>
    rw[List.replicate_succ',Fd5,<-ih];simp only[Fcv,Array.toList_range,Fch,Nat.one_mul,List.range_add,Fa8,List.map_map,Feg,List.flatten_nil,Fbl]
    congr 1
    apply Fcd;intro i;simp only[Far];by_cases hi:i<z.size
    · simp[hi,Nat.mod_eq_of_lt hi]
    grind
def zen{o:Oper}{t:TypeId}{n:Nat}{parts:Array (Nat×Operand)}(ho:o.op=.buildSlice t n parts)(hI:qe P c.I)
    (h:optK (c.I t) λi=>optK o.dst λd=>bif Nat.blt d c.n then(match i.ty with
      | .slice e=>optK (c.I e) λie=>optK (Il ie.size n (List.replicate n (Bt ie)) (parts.toList.map λp=>(p.1,A.ev p.2))) λrows=>
        bif rows.flatten.all AV.one then n*ie.size<=16777216/\(match rows with
          |[]=>K (A.put d (.av .emp)) st
          | _ ::_=>bif c.G.contains d then(bif c.G.contains (d+1000000)then∀b,Fresh st b->K (A.put d (.av (.s (.slice (some ⟨b,0,none⟩) rows.length rows.length)))) (st.sO b (.cells rows.flatten))
              else∀b,Fresh st b->K (A.put d (.av (.lst ie.size rows (some b)))) (st.sT b (some (rows.length*ie.size))))
            else K (A.put d (.av (.lst ie.size rows none))) st)else False
      |_=>False)else False):AOp P c.N o K A st:=by
  obtain⟨i,hi,h⟩:=zy h;obtain⟨d,hd,h⟩:=zy h;obtain⟨hlt,h⟩:=Ay h;split at h
  · rename_i e hty
    obtain⟨ie,hie,h⟩:=zy h;replace h:=zy h;obtain⟨rows,hrows,h⟩:=h;cases hone:rows.flatten.all AV.one with
    |false=>grind
    |true=>
    rw[hone]at h;simp only[cond_true]at h;obtain⟨hroom,hK⟩:=h;rintro Oth M a w ⟨β,sim⟩;obtain⟨z,hz1,hz2⟩:=Me (hI _ _ hie) w;have hzs:z.cells.size=ie.size:=by rw[<-(hI _ _ hie).zsz,<-hz2];simp
    obtain⟨hf1,hf2,hf3⟩:=ygg _ _ rows (λrow hr=>by grind[Bt]) φ hrows
    let base:Array Value:=(Array.range (n*ie.size)).map λi=>(if n*ie.size=0 then #[]else z.cells)[i%(if n*ie.size=0 then #[]else z.cells).size]!
    have hbase:Reads w (λb o=>M b o\/Oth b o) (List.replicate n (Bt ie)).flatten base.toList:=by
      by_cases hn:n=0
      · subst hn
        grind[Reads.nil]
      · by_cases hs0:ie.size=0
        · have e1:base.toList=[]:=by simp[base,hs0]
          simp_all[Bt,Reads.nil]
        have hne:¬n*ie.size=0:=by grind[Nat.mul_eq_zero]
        have:base.toList=(List.replicate n z.cells.toList).flatten:=by simp only[base,hne,if_false];grind[yb8]
        rw[this,hz2];have e:(List.replicate n (Bt ie)).flatten=(List.replicate n ie.zero).flatten.map AV.s:=by simp_all[Bt]
        rw[e];exact Reads.map_s _
    have hparts:((parts.toList.map λp=>(p.1,A.ev p.2))).length=(parts.map λ(p:Nat×Operand)=>(p.1,a.eval p.2)).toList.length∧
        ∀(i:Nat) (p:Nat×LV) (v:Nat×Value),(parts.toList.map λp=>(p.1,A.ev p.2))[i]?=some p->(parts.map λ(p:Nat×Operand)=>(p.1,a.eval p.2)).toList[i]?=some v->p.1=v.1/\LRel w (λb o=>M b o\/Oth b o) β p.2 v.2:=by
      refine⟨φ,λi p v hp hv=>?_⟩;rw[Fcv,Far]at hv;rw[Far]at hp;cases hq:parts.toList[i]? with
      |none=>grind
      | some q=>
        rw[hq]at hp hv;simp at hp hv;subst hp hv;exact⟨rfl,sim.ev _⟩
    obtain⟨ds,hds1,hds2⟩:=gr (β:=β) (place:=λi=>some (i*ie.size,ie.size)) _ _ _ base rows.flatten hparts.1 hparts.2 hbase hf1;have hrun:(execOp a.eval o).run P w=.ok (.value (.slice (some ⟨w.heap.size,0,none⟩) n n)) (w.alloc (.cells ds e)):=by
      have h1:¬n*ie.size>2^24:=θ;simp only[execOp,ho,Instr.buildSlice,Sem.run_bind,yv (jv (hI _ _ hi) hty),Result.andThen_ok,vg (hI _ _ hie),h1,if_false];by_cases hn0:n*ie.size=0
      · have h2:Instr.fill (λi=>some (i*ie.size,ie.size)) (Array.map (λx=>(#[]:Array Value)[x%(#[]:Array Value).size]!) (Array.range (n*ie.size))) (Array.map (λ(x:Nat×Operand)=>(x.1,a.eval x.2)) parts).toList=some ds:=by grind
        simp_all[newRow]
      · have h2:Instr.fill (λi=>some (i*ie.size,ie.size)) (Array.map (λx=>z.cells[x%z.cells.size]!) (Array.range (n*ie.size))) (Array.map (λ(x:Nat×Operand)=>(x.1,a.eval x.2)) parts).toList=some ds:=by grind
        simp_all[newRow]
    unfold Oper.wp;rw[hrun,Oper.upon_value,hd];have hlen:=Dy hf2;have hdsz:ds.size=n*ie.size:=by have:=hds2.1;grind
    have hread:∀(i:Nat) (x:AV),rows.flatten[i]?=some x->∃v,ds[i]?=some v/\VRel w (λb o=>M b o\/Oth b o) x v/\xp v=true:=λi x hx=>by obtain⟨v,hv,hvr⟩:=hds2.getElem? hx;grind[dt]
    have hnoT:∀o,¬(M w.heap.size o\/Oth w.heap.size o):=λo h=>by
      rcases h with h|h
      · have:=sim.sto.mlt _ _ h;omega
      · have:=sim.sto.olt _ _ h;omega
    subst hf3;cases rows with
    |nil=>exact⟨_,_,M,hK,⟨β,(sim.grow (Grow.alloc w _)).put hlt (x:=.av .emp) (VRel.emp _ λx h=>δ)⟩,(Grow.alloc w _).chg M⟩
    | cons r rs=>
      cases hg:c.G.contains d with
      | true=>
        cases hg2:c.G.contains (d+1000000)with
        | true=>
          simp only[hg,hg2,cond_true]at hK;refine⟨_,_,_,hK w.heap.size (sim.sto.fresh (Fal _)),⟨β,(sim.newObj (.cells ds e) (.cells (r::rs).flatten) (Pi w e M Oth hds2)).put hlt (VRel.s _)⟩,I5 _ _ _⟩
        |false=>
        simp only[hg,hg2,cond_true,cond_false]at hK;refine⟨_,_,_,hK w.heap.size (sim.sto.fresh (Fal _)),⟨β,(sim.newTok ds e ((r::rs).length*ie.size) θ).put hlt (Wt hf2 hread (Fal _) _ (zaz _ _ _ _ _) (λo ho hh=>?_) λt ht=>?_)⟩,zdl _ _ _ _⟩
        · rcases hh with(h|h)|h
          · grind
          · omega
          grind
        grind
      | false=>
        simp only[hg,cond_false]at hK;exact⟨_,_,M,hK,⟨β,(sim.grow (Grow.alloc w _)).put hlt (Wt hf2 hread (Fal _) _ ((Grow.alloc w _).keeps _) (λo ho hh=>hnoT o hh) (λt ht=>by cases ht))⟩,(Grow.alloc w _).chg M⟩
  grind
end
section
variable {P:Program} {c:Cfg} {K:Fr->Store->Prop} {A:Fr} {st:Store}
theorem yao(n:Nat)(w:World):(askRoom n).run P w=.ok () w:=φ
def yan(need old e:Nat)(w:World):∃n,need<=n/\(need<=140737488355328->n<=9223372036854775807)/\(choose (.appendCap need old e)).run P w=.ok n w.drew:=by refine⟨need+w.tape w.drawn (.appendCap need old e)%(2^63-need),Nat.le_add_right _ _,λh=>?_,rfl⟩;have:=Nat.mod_lt (w.tape w.drawn (.appendCap need old e)) (show 0<2^63-need by omega);omega
structure AppArgs(P:Program)(c:Cfg)(argTypes:Array TypeId)(args:Array Value)(t e:TypeId)(ie:TI)(base:Option Addr)(sLen sCap:Nat)(xv:Value):Prop where
  ht:argTypes[0]?=some t
  ht1:∃t1 e1,argTypes[1]?=some t1/\P.underlying t1=some (.slice e1)
  hty:P.underlying t=some (.slice e)
  hie:TIok P e ie
  h0:args[0]?=some (.slice base sLen sCap)
  h1:args[1]?=some xv
def Kc{argTypes:Array TypeId}{args:Array Value}{t e:TypeId}{ie:TI}{base:Option Addr}{sLen sCap n:Nat}{xv:Value}(ty:TypeId)(h:AppArgs P c argTypes args t e ie base sLen sCap xv){w:World}{old new:Array Value}
    (hlen:(Builtin.lenOf xv).run P w=.ok n w) (hnew:(Builtin.firstCells ie.size n xv).run P w.drew=.ok new w.drew) (hold:(Builtin.firstCells ie.size sLen (.slice base sLen sCap)).run P w.drew=.ok old w.drew)
    (hneed:sCap<sLen+n) (hroom:room (sLen+n) ie.bytes):
    ∃ newCap rest,sLen+n<=newCap/\newCap<=9223372036854775807/\rest.size=(newCap-(sLen+n))*ie.size∧
      (Builtin.append_ argTypes ty args).run P w=.ok (.slice (some ⟨w.heap.size,0,none⟩) (sLen+n) newCap) (w.drew.alloc (.cells (old++new++rest) e)):=by
  obtain⟨newCap,hcap,hcap2,hch⟩:=yan (P:=P) (sLen+n) sCap e w;obtain⟨z,hz1,hz2⟩:=Me h.hie w.drew;obtain⟨t1,e1,ht1,hu1⟩:=h.ht1;obtain⟨inf,hinf,hsz,hby,_⟩:=h.hie.info;have hzs:z.cells.size=ie.size:=by rw[<-h.hie.zsz,<-hz2];simp
  refine⟨newCap,Builtin.zeroCells z.cells (newCap-(sLen+n)),hcap,hcap2 hroom.2,by simp[Builtin.zeroCells,hzs],?_⟩;obtain⟨hr1,hr2⟩:=hroom;have hc1:¬(sLen+n<=sCap):=θ;have hc2:¬(((sLen+n:Nat):Int)>IntKind.i64.max):=by grind[IntKind.max,IntKind.bits]
  have hc3:¬(Builtin.nextslicecap (sLen+n) sCap*ie.bytes>2^48):=by have h1:=nextslicecap_le hneed;have h2:Builtin.nextslicecap (sLen+n) sCap*ie.bytes<=2*(sLen+n)*ie.bytes:=Fa1 _ h1;grind
  have hti:∀w:World,(typeInfo e).run P w=.ok inf w:=λw=>by simp[typeInfo,hinf]
  simp only[Builtin.append_,h.ht,h.h0,h.h1,Sem.run_bind,yv h.hty,Result.andThen_ok,vg h.hie,ht1,yv hu1,Sem.run_pure];simp only[Fah,if_false,hlen,Result.andThen_ok,hc1,hc2,false_and,Sem.run_bind,hti,hby,hc3,hch,yao,hold,hnew,Bool.not_false,if_true,hz1];rfl
def Kb{argTypes:Array TypeId}{args:Array Value}{t e:TypeId}{ie:TI}{base:Option Addr}{sLen sCap n:Nat}{xv:Value}(ty:TypeId)(h:AppArgs P c argTypes args t e ie base sLen sCap xv){w w':World}{new:Array Value}
    (hlen:(Builtin.lenOf xv).run P w=.ok n w) (hnew:(Builtin.firstCells ie.size n xv).run P w=.ok new w)
    (hneed:sLen+n<=sCap) (hst:∀a,base=some a->(storeCells (a.add (sLen*ie.size)) new.toList).run P w=.ok () w') (hno:base=none->w'=w):
    (Builtin.append_ argTypes ty args).run P w=.ok (.slice base (sLen+n) sCap) w':=by
  obtain⟨t1,e1,ht1,hu1⟩:=h.ht1;simp only[Builtin.append_,h.ht,h.h0,h.h1,Sem.run_bind,yv h.hty,Result.andThen_ok,vg h.hie,ht1,yv hu1,Sem.run_pure];simp only[Fah,if_false,hlen,Result.andThen_ok,hneed,if_true,Bool.not_false,Sem.run_bind,hnew];cases base with
  |none=>simp_all
  |some a=>simp_all
def Vk{α:Type}{k:Nat}:∀{rows:List (List α)} (_:∀row∈rows,row.length=k) {p:Nat} {x:α},rows.flatten[p]?=some x->∃(i j:Nat) (row:List α),p=i*k+j/\rows[i]?=some row/\row[j]?=some x:=by
  intro rows;induction rows with
  |nil=>simp
  | cons r rows ih=>
    intro hk p x h;have hr:r.length=k:=hk r φ;simp only[Feg]at h;by_cases hp:p<r.length
    · rw[Fap hp]at h
      exact⟨0,p,r,θ,rfl,h⟩
    · rw[Fa2 θ]at h
      obtain⟨i,j,row,h1,h2,h3⟩:=ih (λrow h=>hk row (by simp[h])) h;exact⟨i+1,j,row,δ,δ,h3⟩
theorem S9{w w':World}(h:w'.heap=w.heap)(a:Addr):w'.cell? a=w.cell? a:=by simp only[World.cell?,h]
def H6{w:World}{T:BB}{β:Nat->Nat}{k:Nat}{x:LV}{xv:Value}{rows:List (List AV)}(hx:LRel w T β x xv)(h:vz k x=some rows):
    (Builtin.lenOf xv).run P w=.ok rows.length w/\(∀row∈rows,row.length=k)∧
      ∃new:Array Value,Reads w T rows.flatten new.toList/\(∀v∈new.toList,xp v=true)/\new.size=rows.length*k/\∀w',w'.heap=w.heap->(Builtin.firstCells k rows.length xv).run P w'=.ok new w':=by
  unfold vz at h;split at h
  · rename_i k' rows' tok
    cases hb:Nat.beq k' k with
    |false=>grind
    | true=>
      rw[hb]at h;simp only[cond_true,Faj]at h;subst h;obtain rfl:=(wj _ _).1 hb;rcases Nk hx with⟨ad,cap,hv,h2,_,rfl⟩|⟨b,off,cap,hv,hcap,hk,f,hf⟩
      · subst h2
        exact⟨ψb,φ,#[],Reads.nil,φ,φ,λw' _=>by cases ad<;>simp[hv,Builtin.firstCells,loadCells,loadCellsFrom]⟩
      · have hk':∀row∈rows',row.length=k':=λrow hr=>by grind[List.mem_iff_getElem?]
        refine⟨ψb,hk',((List.range' 0 (rows'.length*k')).map f).toArray,⟨?_,?_⟩,λv hv=>?_,φ,λw' hw=>?_⟩
        · rw[Dy hk'];simp
        · intro p x y hp hy
          obtain⟨i,j,row,h1,h2,h3⟩:=Vk hk' hp;grind
        · simp only[Fag]at hv
          obtain⟨p,hp,rfl⟩:=hv;have hlt:p<rows'.flatten.length:=by rw[Dy hk'];grind
          obtain⟨i,j,row,h1,h2,h3⟩:=Vk hk' (Fac hlt);grind
        · have:=Kt (P:=P) ⟨b,off,none⟩ w' f (rows'.length*k') 0 #[] (λp _ hp=>by
            rw[vw,S9 hw];have hlt:p<rows'.flatten.length:=by rw[Dy hk'];omega
            obtain⟨i,j,row,h1,h2,h3⟩:=Vk hk' (Fac hlt);grind)
          grind[Builtin.firstCells,loadCells]
  · simp at h
    subst h;have hv:xv=.slice none 0 _:=VRel.eq_s hx;exact⟨ψb,φ,#[],Reads.nil,φ,φ,λw' _=>by simp[hv,Builtin.firstCells]⟩
  · simp at h
    subst h;have hv:∃a,xv=.slice a 0 0:=by
      cases hx with
      |emp a h=>simp
    obtain⟨a,hv⟩:=hv;refine⟨ψb,φ,#[],Reads.nil,φ,φ,λw' _=>?_⟩;cases a with
    |none=>simp[hv,Builtin.firstCells]
    |some a=>simp[hv,Builtin.firstCells,loadCells,loadCellsFrom]
  · cases h
theorem Owned.nil(k:Nat)(st:Store):Owned k st .emp [] st:=.inl ⟨rfl,rfl,rfl⟩
def SimB.appendNew{n:SN}{Oth M:BB}{β:Nat->Nat}{a:Act}{w:World}(sim:SimB n Oth β A st M a w){rows:List (List AV)}{k:Nat}(hk:∀row∈rows,row.length=k)(hne:rows≠[])
    {cs:Array Value} {e:TypeId} {cap:Nat} (hr:∀(i:Nat) (x:AV),rows.flatten[i]?=some x->∃v,cs[i]?=some v/\VRel w (λb o=>M b o\/Oth b o) x v/\xp v=true) (hcap:rows.length<=cap) (hsz:cap*k<=cs.size):
    ∃ st' M',Owned k st (.lst k rows (some w.heap.size)) rows st'/\SimB n Oth β A st' M' a (w.drew.alloc (.cells cs e))/\Chg M w M' (w.drew.alloc (.cells cs e))∧
      VRel (w.drew.alloc (.cells cs e)) (λb o=>M' b o\/Oth b o) (.lst k rows (some w.heap.size)) (.slice (some ⟨w.heap.size,0,none⟩) rows.length cap):=by
  have hle:rows.length*k<=cap*k:=Fa1 k hcap;refine⟨_,_,.inr ⟨hne,w.heap.size,sim.sto.fresh (Fal _),rfl,rfl⟩,(sim.grow (Grow.drew w)).newTok cs e (rows.length*k) θ,((Grow.drew w).chg M).trans (zdl w.drew _ M _),Wt (w:=w.drew) (M:=M) (Oth:=Oth) hk (λi x hx=>?_) hcap _ (zaz w.drew _ _ _ _) (λo ho hh=>?_) λt ht=>?_⟩
  · obtain⟨v,h1,h2,h3⟩:=hr i x hx
    exact⟨v,h1,h2.keep ((Grow.drew w).keeps _),h3⟩
  · rcases hh with(h|h)|h
    · have:=sim.sto.mlt _ _ h;simp_all
    · omega
    · have:=sim.sto.olt _ _ h;simp_all
  simp_all
def getElem?_append3{old new rest:Array Value}{i:Nat}{v:Value}(h:(old.toList++new.toList)[i]?=some v):(old++new++rest)[i]?=some v:=δ
def zfz{w:World}{T:BB}{k:Nat}{rows:List (List AV)}{b:Nat}{base:Option Addr}{sLen sCap:Nat}(h:VRel w T (.lst k rows (some b)) (.slice base sLen sCap)):
    base=some ⟨b,0,none⟩/\sLen=rows.length/\rows.length<=sCap/\rows≠[]/\(∀row∈rows,row.length=k)/\(∃c e fr,w.heap[b]?=some (.cells c e fr)/\sCap*k<=c.size)/\∃f:Nat->Value,
      (∀(i:Nat) (row:List AV) (j:Nat) (x:AV),rows[i]?=some row->row[j]?=some x->w.cell? ⟨b,i*k+j,none⟩=some (f (i*k+j))/\¬T b (i*k+j)/\VRel w T x (f (i*k+j))/\xp (f (i*k+j))=true):=by
  cases h with
  | lst _ _ b' off cap _ f hcap hk htok hc h0 hx=>
    obtain⟨rfl,rfl,h1,h2⟩:=htok b rfl;refine⟨rfl,rfl,hcap,h1,λrow hr=>?_,h2,f,λi row j x h3 h4=>?_⟩
    · grind[List.mem_iff_getElem?]
    grind
def lm{n:SN}{Oth M:BB}{β:Nat->Nat}{a:Act}{w:World}(sim:SimB n Oth β A st M a w){argTypes:Array TypeId}{args:Array Value}{t e:TypeId}{ie:TI}{base:Option Addr}{sLen sCap:Nat}{xv:Value}(ty:TypeId)
    (h:AppArgs P c argTypes args t e ie base sLen sCap xv) {x:LV} (hx:LRel w (λb o=>M b o\/Oth b o) β x xv) {rows':List (List AV)} (hs:vz ie.size x=some rows'):
    ((sLen=0/\sCap=0/\∀x,base=some x->x.spot=none)->room rows'.length ie.bytes->∃v w' r st' M',(Builtin.append_ argTypes ty args).run P w=.ok v w'/\Owned ie.size st r rows' st'/\SimB n Oth β A st' M' a w'/\Chg M w M' w'/\VRel w' (λb o=>M' b o\/Oth b o) r v)∧
    (∀rows b,0<ie.size->VRel w (λb o=>M b o\/Oth b o) (.lst ie.size rows (some b)) (.slice base sLen sCap)->st.tok b=some (rows.length*ie.size)->room (rows++rows').length ie.bytes->
      ∃v w' r st' M',(Builtin.append_ argTypes ty args).run P w=.ok v w'/\Owned ie.size (st.sT b none) r (rows++rows') st'/\SimB n Oth β A st' M' a w'/\Chg M w M' w'/\VRel w' (λb o=>M' b o\/Oth b o) r v):=by
  obtain⟨hlen,hk',new,hnr,hone,hns,hnew⟩:=H6 (P:=P) hx hs;constructor
  · rintro⟨rfl,rfl,hspot⟩ hroom
    by_cases hn:rows'=[]
    · subst hn
      refine⟨_,w,.emp,st,M,Kb ty h (w':=w) hlen (hnew w rfl) φ (λa ha=>?_) λ_=>rfl,Owned.nil _ _,sim,Chg.refl M w,VRel.emp _ hspot⟩;simp_all[storeCells]
    · have hpos:0<rows'.length:=List.length_pos_iff.2 hn
      obtain⟨newCap,rest,h1,_,h2,h3⟩:=Kc ty h (old:=#[]) hlen (hnew w.drew rfl) (by cases base<;>simp[Builtin.firstCells,loadCells,loadCellsFrom]) θ (by simpa using hroom);simp only[Fbg]at h1 h2 h3;obtain⟨st',M',ho,hsim,hchg,hv⟩:=sim.appendNew (cs:=#[]++new++rest) (e:=e) (cap:=newCap) hk' hn (λi x hx=>by obtain⟨v,hv,hvr⟩:=hnr.getElem? hx;grind) h1 (by grind[Nat.sub_mul]);grind
  · intro rows b hpos hsv htb hroom
    obtain⟨rfl,rfl,hcap,hne,hk,⟨c0,e0,fr0,hblk,hcsz⟩,f,hf⟩:=zfz hsv;have hkk:∀row∈rows++rows',row.length=ie.size:=λrow hr=>δ;obtain⟨c1,e1,fr1,hb1,hunf,htop,hMtop⟩:=sim.sto.tok b _ htb;rw[hblk]at hb1;cases hb1
    -- the first cell
    have hfirst:¬M b 0:=by
      cases rows with
      |nil=>grind
      | cons r rs=>
        have hr:r.length=ie.size:=hk r φ;cases r with
        |nil=>grind
        | cons y ys=>
          have:=(hf 0 (y::ys) 0 y rfl rfl).2.1;grind
    have hold:∀p,p<rows.length*ie.size->w.cell? ⟨b,p,none⟩=some (f p)/\¬(M b p\/Oth b p)/\xp (f p)=true/\∀x,rows.flatten[p]?=some x->VRel w (λb o=>M b o\/Oth b o) x (f p):=λp hp=>by
      have hlt:p<rows.flatten.length:=by rw[Dy hk];omega
      obtain⟨i,j,row,h1,h2,h3⟩:=Vk hk (Fac hlt);grind
    have holdR:Reads w (λb o=>M b o\/Oth b o) rows.flatten ((List.range' 0 (rows.length*ie.size)).map f):=by refine⟨by rw[Dy hk];simp,λp x y hp hy=>?_⟩;grind
    by_cases hstay:rows.length+rows'.length<=sCap
    · have hle:(rows.length+rows'.length)*ie.size<=sCap*ie.size:=Fa1 _ hstay
      have hdist:(rows.length+rows'.length)*ie.size=rows.length*ie.size+rows'.length*ie.size:=Fch _ _ _;have h9:new.toList.length=rows'.length*ie.size:=θ;have h10:rows.length*ie.size+0+new.toList.length<=c0.size:=θ;obtain⟨w',hrun,hw⟩:=H7 (P:=P) w b (rows.length*ie.size) new.toList 0 w c0 e0 fr0 hblk hunf h10 hone;simp only[Nat.add_zero]at hw;have happ:=Kb (P:=P) ty h (w':=w') hlen (hnew w rfl) hstay (λa ha=>by cases ha;rw[vw];grind) (λhh=>by cases hh)
      let M':Nat->Nat->Prop:=λb' o=>M b' o/\¬(b'=b/\o<(rows.length+rows'.length)*ie.size)
      obtain⟨c',hblk',hl',hs'⟩:=hw.blk _ _ _ hblk;have hcellb:∀o,o<rows.length*ie.size->w'.cell? ⟨b,o,none⟩=w.cell? ⟨b,o,none⟩:=λo ho=>by simp only[World.cell?,hblk',hblk];rw[<-Fde,hl',Faw,Fap δ,Fea];simp[ho]
      have hcelln:∀j v,new[j]?=some v->w'.cell? ⟨b,rows.length*ie.size+j,none⟩=some v:=λj v hv=>by have hj:=(Fbt.1 hv).1;simp only[World.cell?,hblk'];have hm:min (rows.length*ie.size) c0.size=rows.length*ie.size:=θ;have:c'.toList[rows.length*ie.size+j]?=some v:=δ;grind
      have hkeep:Keeps w (λb o=>M b o\/Oth b o) w' (λb o=>M' b o\/Oth b o):=
        { cell:=λb' o' v hv hT=>by
            by_cases he:b'=b
            · grind
            · rw[Fw (hw.other b' he)]
              exact hv
          out:=λb' o' v hv hT hT'=>hT (hT'.imp (λh=>h.1) id)
          shp:=λb' c e fr hc=>by
            by_cases he:b'=b
            · grind
            · exact⟨c,fr,by rw[hw.other b' he];exact hc,rfl⟩}
      have hobjb:st.obj b=none:=by
        cases ho:st.obj b with
        |none=>rfl
        |some x=>exact absurd ((sim.sto.obj b x ho).2 0) hfirst
      have hbxb:∀k l,A.bx k=some l->β k≠b:=λk l hl=>sim.sep k b δ (.inr δ)
      have hsim:SimB n Oth β A ((st.sT b none).sT b (some ((rows++rows').length*ie.size))) M' a w':=
        { tsz:=sim.tsz
          dfr:=sim.dfr.step λD _ _ h2=>⟨hw.other D λe=>(h2 _).1 (e▸hMtop _ (Fal _)),λo hm=>(h2 o).1 hm.1⟩
          tm:=λi=>(sim.tm i).keep hkeep
          bx:=λk l hl=>⟨(sim.bx k l hl).1.same hkeep (hw.other _ (hbxb k l hl)),λo=>⟨(sim.bx k l hl).2 o,λhh=>hbxb k l hl hh.1⟩⟩
          inj:=sim.inj
          sep:=λk b' hk hb=>by
            refine sim.sep k b' hk ?_;by_cases he:b'=b
            · grind
            simp_all[Store.sT,q9]
          sto:=
            { obj:=λb' x hx=>by
                have hx':st.obj b'=some x:=hx;have he:b'≠b:=λe=>δ;exact⟨ObjRel.same (sim.sto.obj b' x hx').1 hkeep (hw.other b' he),λo=>⟨(sim.sto.obj b' x hx').2 o,λhh=>he hh.1⟩⟩
              tok:=λb' top ht=>by
                by_cases he:b'=b
                · subst he
                  simp only[Store.sT,Fb6,cond_true,Faj]at ht;grind
                · simp only[Store.sT,q9 he,cond_false]at ht
                  obtain⟨c,e,fr,h1,h2,h3,h4⟩:=sim.sto.tok b' top ht;exact⟨c,e,fr,ψa,h2,h3,λo ho=>⟨h4 o ho,λhh=>he hh.1⟩⟩
              mlt:=λb' o hm=>by rw[hw.size];exact sim.sto.mlt b' o hm.1
              olt:=λb' o hm=>by rw[hw.size];exact sim.sto.olt b' o hm
              dis:=λb' o hO hM=>sim.sto.dis b' o hO hM.1}}
      have hchg:Chg M w M' w':=
        { size:=by rw[hw.size];simp
          keep:=λb' o hb hm=>by
            by_cases he:b'=b
            · grind
            · exact Fw (hw.other b' he) o
          blk:=λb' hb hm=>hw.other b' λe=>hm (rows.length*ie.size) δ
          shp:=hkeep.shp
          sub:=λb' o hm _=>hm.1
          tape:=hw.tape
          os:=hw.os
          output:=hw.output}
      refine⟨_,w',.lst ie.size (rows++rows') (some b),_,M',happ,.inr ⟨by simp[hne],b,⟨hobjb,by simp[Store.sT]⟩,rfl,rfl⟩,hsim,hchg,?_⟩;rw[<-Fae];have hget:∀p x,(rows++rows').flatten[p]?=some x->∃v,w'.cell? ⟨b,p,none⟩=some v/\¬(M' b p\/Oth b p)/\xp v=true/\VRel w' (λb o=>M' b o\/Oth b o) x v:=λp x hp=>by
        rw[Fd5]at hp;by_cases hlt:p<rows.length*ie.size
        · rw[Fap (by rw[Dy hk];exact hlt)]at hp
          obtain⟨h1,h2,h4,h3⟩:=hold p hlt;exact⟨f p,δ,λhh=>h2 (hh.imp (λh=>h.1) id),h4,(h3 x hp).keep hkeep⟩
        · rw[Fa2 (by rw[Dy hk];omega),Dy hk]at hp
          obtain⟨v,hv,hvr⟩:=hnr.getElem? hp;have hpl:=(Fax.1 hp).1;rw[Dy hk']at hpl;have:=hcelln _ v (by simpa using hv);have e:rows.length*ie.size+(p-rows.length*ie.size)=p:=θ;rw[e]at this;refine⟨v,this,λhh=>?_,hone v (Fa3 hv),hvr.keep hkeep⟩;rcases hh with hh|hh
          · exact hh.2 ⟨rfl,θ⟩
          · exact sim.sto.dis b p hh (hMtop p θ)
      have hlt2:∀(i:Nat) (row:List AV) (j:Nat) (x:AV),(rows++rows')[i]?=some row->row[j]?=some x->(rows++rows').flatten[i*ie.size+j]?=some x:=λi row j x h1 h2=>Iy hkk h1 h2;refine VRel.lst _ _ b 0 sCap ie.size (λj=>(w'.cell? ⟨b,j,none⟩).getD undef) (by rw[Fae];exact hstay) (λi row hr=>hkk row (Fa3 hr)) (λt ht=>?_) (λi row j x h1 h2=>?_) (λi row j x h1 h2=>?_) λi row j x h1 h2=>?_
      · cases ht;exact⟨rfl,rfl,by simp[hne],c',e0,fr0,hblk',by rw[hs'];exact hcsz⟩
      · obtain⟨v,h3,h4,h6,h5⟩:=hget _ x (hlt2 i row j x h1 h2)
        simp only[Fbg,h3,Option.getD_some];exact⟨Tv,h4⟩
      · obtain⟨v,h3,h4,h6,h5⟩:=hget _ x (hlt2 i row j x h1 h2)
        simp only[h3,Option.getD_some];exact h6
      grind
    · have hold2:(Builtin.firstCells ie.size rows.length (.slice (some ⟨b,0,none⟩) rows.length sCap)).run P w.drew=.ok (((List.range' 0 (rows.length*ie.size)).map f).toArray) w.drew:=by
        have:=Kt (P:=P) ⟨b,0,none⟩ w.drew f (rows.length*ie.size) 0 #[] (λp _ hp=>by rw[vw,Fbg];exact(hold p θ).1);simp only[Builtin.firstCells,loadCells];simpa using this
      obtain⟨newCap,rest,h1,_,h2,h3⟩:=Kc ty h hlen (hnew w.drew rfl) hold2 θ (by simpa using hroom)
      have htokless:SimB n Oth β A (st.sT b none) M a w:=
        { sim with
          sep:=λk b' hk hb=>sim.sep k b' hk (hb.imp id λh=>by
            by_cases he:b'=b
            · subst he;rw[htb];simp
            · simpa [Store.sT,q9 he]using h)
          sto:=sim.sto.weaken ⟨λ_ _ h=>h,λb' x hx=>by
            by_cases he:b'=b
            · subst he;simp[Store.sT]at hx
            · simpa [Store.sT,q9 he]using hx⟩}
      obtain⟨st',M',ho,hsim,hchg,hv⟩:=htokless.appendNew (cs:=((List.range' 0 (rows.length*ie.size)).map f).toArray++new++rest) (e:=e) (cap:=newCap) hkk (by simp[hne]) (λi x hx=>by
        rw[Fd5]at hx;obtain⟨v,hv,hvr⟩:=(holdR.append hnr).getElem? hx;refine⟨v,getElem?_append3 (by simpa using hv),hvr,?_⟩;rcases Fat.1 (Fa3 hv)with hm|hm
        · simp only[Fag]at hm
          obtain⟨p,hp,rfl⟩:=hm;exact(hold p (by simpa using hp)).2.2.1
        · exact hone v hm) (by rw[Fae];exact h1) (by simp only[Array.size_append,hns,h2,List.size_toArray,Fas,List.length_range'];have:=Fa1 ie.size h1;rw[Nat.sub_mul,<-Fch];omega)
      rw[Fae]at hv;exact⟨_,_,_,st',M',h3,ho,hsim,hchg,hv⟩
end
section
variable {P:Program} {c:Cfg} {K:Fr->Store->Prop} {A:Fr} {st:Store} {Oth M:BB}
theorem Hm{w:World}{b:Nat}{cs:Array Value}{e:TypeId}{fr:Nat×Nat}(h:w.heap[b]?=some (.cells cs e fr))(hf:D5 fr cs.size):
    ∃fr',D5 fr' cs.size/\(w.freeze ⟨b,cs.size,none⟩ 1).heap[b]?=some (.cells cs e fr')/\∀i,i≠b->(w.freeze ⟨b,cs.size,none⟩ 1).heap[i]?=w.heap[i]?:=by
  obtain⟨lo,hi⟩:=fr;refine⟨if lo==hi then(cs.size,cs.size+1)else(min lo cs.size,max hi (cs.size+1)),?_,?_,λi hi=>?_⟩
  · grind[D5]
  · simp_all[World.freeze,Fc5]
  simp_all[World.freeze,Fc5,Ne.symm]
theorem zbu{w:World}{b:Nat}{cs:Array Value}{e:TypeId}{fr:Nat×Nat}(h:w.heap[b]?=some (.cells cs e fr))(hf:D5 fr cs.size)(b' o:Nat):
    (w.freeze ⟨b,cs.size,none⟩ 1).cell? ⟨b',o,none⟩=w.cell? ⟨b',o,none⟩:=by grind[Hm,World.cell?]
theorem gi(w:World)(a:Addr)(n:Nat):(w.freeze a n).heap.size=w.heap.size:=by grind[World.freeze]
def Mv{w:World}{b:Nat}{cs:Array Value}{e:TypeId}{fr:Nat×Nat}(h:w.heap[b]?=some (.cells cs e fr))(hf:D5 fr cs.size)(T:BB):
    Keeps w T (w.freeze ⟨b,cs.size,none⟩ 1) T where
  cell b' o x hc _:=by rw[zbu h hf];exact hc
  out _ _ _ _ hT:=hT
  shp b' c' e' f' hw:=by obtain⟨fr',_,h2,h3⟩:=Hm h hf;grind
def zbt{w:World}{b:Nat}{cs:Array Value}{e:TypeId}{fr:Nat×Nat}(h:w.heap[b]?=some (.cells cs e fr))(hf:D5 fr cs.size){T:BB}{l:List AV}{b':Nat}(hb:b'≠b)(hr:CellsRel w T l b'):
    CellsRel (w.freeze ⟨b,cs.size,none⟩ 1) T l b':=by
  obtain⟨fr',h1,h2,h3⟩:=Hm h hf;obtain⟨c',e',f',h4,h5,h6,h7⟩:=hr;exact⟨c',e',f',δ,h5,h6,λi x y hx hy=>(h7 i x y hx hy).keep (Mv h hf T)⟩
theorem SimB.freeze{n:SN}{β:Nat->Nat}{a:Act}{w:World}(s:SimB n Oth β A st M a w){b:Nat}{cs:Array Value}{e:TypeId}{fr:Nat×Nat}(h:w.heap[b]?=some (.cells cs e fr))(hf:D5 fr cs.size)(hno:∃o,¬M b o):
    SimB n Oth β A st M a (w.freeze ⟨b,cs.size,none⟩ 1) where
  tsz:=s.tsz
  dfr:=s.dfr.step λD hD _ h2=>by grind[Hm]
  tm i:=(s.tm i).keep (Mv h hf _)
  bx k l hk:=⟨zbt h hf (λe=>by obtain⟨o,ho⟩:=hno;exact ho (e▸(s.bx k l hk).2 o)) (s.bx k l hk).1,(s.bx k l hk).2⟩
  inj:=s.inj
  sep:=s.sep
  sto:=
    { obj:=λb' x hx=>by
        refine⟨?_,(s.sto.obj b' x hx).2⟩;have hr:=(s.sto.obj b' x hx).1;cases x with
        |cells l=>exact zbt h hf (λe=>by obtain⟨o,ho⟩:=hno;exact ho (e▸(s.sto.obj b' _ hx).2 o)) hr
        | ghost o gh=>
          obtain⟨⟨h1,hc⟩,h2⟩:=hr;have hb:b'≠b:=λhh=>by subst hh;rw[h]at h1;cases h1;cases hc
          obtain⟨fr',_,_,h6⟩:=Hm h hf;exact⟨⟨δ,hc⟩,λp hp=>(h2 p hp).keep (Mv h hf _)⟩
        | iter m since seen last=>
          have h1:w.heap[b']?=_:=hr;have hb:b'≠b:=λhh=>δ;obtain⟨fr',_,_,h6⟩:=Hm h hf;show _=_;grind
        | map es bs clock=>
          obtain⟨ms,h1,h2,h3,h4⟩:=hr;have hb:b'≠b:=λhh=>δ;obtain⟨fr',_,_,h6⟩:=Hm h hf;exact⟨ms,δ,h2,λi x y hx hy=>⟨(h3 i x y hx hy).1.keep (Mv h hf _),(h3 i x y hx hy).2.keep (Mv h hf _)⟩,h4⟩
      tok:=λb' top ht=>by obtain⟨c',e',f',h1,h2,h3⟩:=s.sto.tok b' top ht;grind[Hm]
      mlt:=λb' o hm=>by rw[gi];exact s.sto.mlt b' o hm
      olt:=λb' o hm=>by rw[gi];exact s.sto.olt b' o hm
      dis:=s.sto.dis}
def ymn{w:World}{b:Nat}{cs:Array Value}{e:TypeId}{fr:Nat×Nat}(h:w.heap[b]?=some (.cells cs e fr))(hf:D5 fr cs.size)(hM:∃o,M b o):Chg M w M (w.freeze ⟨b,cs.size,none⟩ 1) where
  size:=by rw[gi];simp
  keep b' o _ _:=zbu h hf b' o
  blk b' _ hno:=by grind[Hm]
  shp b' c' e' f' hw:=(Mv h hf λ_ _=>False).shp b' c' e' f' hw
  sub _ _ h _:=h
  tape:=ξ
  os:=ξ
  output:=ξ
theorem yny{o:Oper}{s t:TypeId}{x:Operand}(ho:o.op=.convert s t x)(hI:qe P c.I)(h:Vx P c o s t x K A st):AOp P c.N o K A st:=by
  unfold Vx at h;split at h
  · rename_i k rows b hx
    cases hb:Nat.beq s t with
    |false=>grind
    |true=>
    rw[hb]at h;simp only[cond_true]at h;obtain rfl:=(wj _ _).1 hb;obtain⟨i,hi,h⟩:=zy h;split at h
    · rename_i e hty
      obtain⟨ie,hie,h⟩:=zy h;cases hu8:(fq ie.ty&&Nat.beq k 1)with
      |false=>grind
      |true=>
      rw[hu8]at h;simp only[cond_true]at h;obtain⟨top,htop,h⟩:=zy h;obtain⟨hu8,hk1⟩:=Fbf.1 hu8;have hk1:=(wj _ _).1 hk1;have hiety:ie.ty=.int .u8:=by grind[fq]
      rintro Oth M a w ⟨β,sim⟩;obtain⟨cs,e',fr,h1,h2,h3,h4⟩:=sim.sto.tok b top htop;have hv:∃n cap,a.eval x=.slice (some ⟨b,0,none⟩) n cap/\∃o,¬M b o:=by
        have hr:=qq sim.env hx;generalize a.eval x=v at hr;cases hr with
        | lst _ _ b' off cap _ f hcap hk htok hc h0 hx'=>
          obtain⟨rfl,rfl,hne,_⟩:=htok b rfl;refine⟨_,_,rfl,?_⟩;cases rows with
          |nil=>grind
          | cons r rs=>
            have hr1:=hk 0 r rfl;cases r with
            |nil=>grind
            |cons y ys=>exact⟨_,λhm=>(hc 0 _ 0 y rfl rfl).2 (.inl hm)⟩
      obtain⟨n,cap,hv,hnoM⟩:=hv;have hsh:w.shape? b=some (e',cs.size):=by simp[World.shape?,h1]
      have hrun:(execOp a.eval o).run P w=.ok (.value (a.eval x)) (w.freeze ⟨b,cs.size,none⟩ 1):=by simp[execOp,ho,hv,convert,yv (jv (hI _ _ hi) hty),yv (Lv (hI _ _ hie) hiety),markStringish,hsh]
      have sim':=sim.freeze h1 h2 hnoM;unfold Oper.wp;rw[hrun,Oper.upon_value];have hvr:LRel (w.freeze ⟨b,cs.size,none⟩ 1) (λb o=>M b o\/Oth b o) β (.av (.lst k rows (some b))) (a.eval x):=by have:=sim'.ev x;grind
      have hchg:Chg M w M (w.freeze ⟨b,cs.size,none⟩ 1):=ymn h1 h2 ⟨top,h4 top (Fal _)⟩;unfold xe at h;cases hd:o.dst with
      |none=>rw[hd]at h;exact⟨A,st,M,h,⟨β,sim'⟩,hchg⟩
      | some d=>
        rw[hd]at h;obtain⟨hlt,h⟩:=Ay h;exact⟨_,st,M,h,⟨β,sim'.put hlt hvr⟩,hchg⟩
    grind
  · exact Wi hI h
  · exact Wi hI h
  grind[Po]
end
section
variable {P:Program} {c:Cfg} {K:Fr->Store->Prop} {A:Fr} {st:Store}
theorem yn2{o:Oper}{cl:Call}(ho:o.op=.call cl)(hcl:cl.callee=.builtin .append)(hI:qe P c.I)
    (h:optK cl.argTypes[0]? λt=>optK (c.I t) λi=>optK cl.args[0]? λs=>optK cl.args[1]? λx=>match i.ty with
      |.slice e=>bif (cl.argTypes[1]?.bind c.I).any N6 then
          appendK P c st e (A.ev s) (A.ev x) λr st'=>xe A c.n o.dst (.av r) λA'=>K A' st' else vcX P c o K A st
      |_=>False):AOp P c.N o K A st:=by
  obtain⟨t,ht,h⟩:=zy h;obtain⟨i,hi,h⟩:=zy h;obtain⟨s,hs,h⟩:=zy h;obtain⟨x,hx,h⟩:=zy h;split at h
  · rename_i e hty
    cases hb:(cl.argTypes[1]?.bind c.I).any N6 with
    |false=>rw[hb]at h;exact Wi hI h
    |true=>
    rw[hb]at h;simp only[cond_true]at h;replace h:=h.out;rintro Oth M a w ⟨β,sim⟩;have ht1:∃t1 e1,cl.argTypes[1]?=some t1/\P.underlying t1=some (.slice e1):=by
      cases h1:cl.argTypes[1]? with
      |none=>grind
      | some t1=>
        rw[h1]at hb;simp only[Option.bind_some]at hb;cases h2:c.I t1 with
        |none=>grind
        | some j=>
          rw[h2]at hb;simp only[Option.any_some]at hb;unfold N6 at hb;split at hb
          · rename_i e1 h3;exact⟨t1,e1,rfl,jv (hI _ _ h2) h3⟩
          grind
    have hrun:(execOp a.eval o).run P w=((Builtin.append_ cl.argTypes o.type (cl.args.map a.eval)).run P w).andThen λv w'=>.ok (.value v) w':=by simp_all[execOp,resolve,invoke,builtin]
    have fin:∀v w',(∃r st' M',(xe A c.n o.dst (.av r) λA'=>K A' st')/\VRel w' (λb o=>M' b o\/Oth b o) r v/\SimB c.N Oth β A st' M' a w'/\Chg M w M' w')->
        ∃A' st' M',K A' st'/\Sim c.N Oth A' st' M' (a.put o.dst v) w'/\Chg M w M' w':=by
      rintro v w' ⟨r,st',M',hk,hv,hs,hchg⟩;unfold xe at hk;cases hd:o.dst with
      |none=>rw[hd]at hk;exact⟨A,st',M',hk,⟨β,hs⟩,hchg⟩
      | some d=>
        rw[hd]at hk;obtain⟨hlt,hk⟩:=Ay hk;exact⟨_,st',M',hk,⟨β,hs.put hlt hv⟩,hchg⟩
    have h1:(cl.args.map a.eval)[1]?=some (a.eval x):=δ;unfold Oper.wp;rw[hrun];rcases h with h|⟨s',x',hes,hex,h⟩;rotate_left
    · have hvs:=qq sim.env hes
      have hvx:=qq sim.env hex;have h0:(cl.args.map a.eval)[0]?=some (a.eval s):=δ;obtain⟨ie,hie⟩:=h.has;obtain⟨v,w',hr,hp⟩:=h.out ie hie _ _ w _ _ _ o.type _ t sim.inner (hvs.mono Ip) (hvx.mono Ip) ht ht1 (jv (hI _ _ hi) hty) (hI _ _ hie) h0 h1;rw[hr];exact fin v w' (sim.post v w' hp)
    unfold ln at h;obtain⟨ie,hie,h⟩:=zy h;split at h
    · rename_i hev
      obtain⟨rows,hrows,hroom,h⟩:=zy h;have hsv:a.eval s=.slice none 0 0:=VRel.eq_s (qq sim.env hev);have h0:(cl.args.map a.eval)[0]?=some (.slice none 0 0):=δ;obtain⟨v,w',r,st',M',hr,hown,hsim,hchg,hv⟩:=(lm (c:=c) sim o.type ⟨ht,ht1,jv (hI _ _ hi) hty,hI _ _ hie,h0,h1⟩ (sim.ev x) hrows).1 ⟨rfl,rfl,λx h=>ω⟩ hroom;rw[hr];exact fin v w' ⟨r,st',M',h r st' hown,hv,hsim,hchg⟩
    · rename_i hev
      obtain⟨rows,hrows,hroom,h⟩:=zy h;have hsv:∃ad,a.eval s=.slice ad 0 0/\∀x,ad=some x->x.spot=none:=by
        have:=qq sim.env hev;generalize a.eval s=v at this;cases this with
        |emp ad h=>grind
      obtain⟨ad,hsv,hspot⟩:=hsv;have h0:(cl.args.map a.eval)[0]?=some (.slice ad 0 0):=δ;obtain⟨v,w',r,st',M',hr,hown,hsim,hchg,hv⟩:=(lm (c:=c) sim o.type ⟨ht,ht1,jv (hI _ _ hi) hty,hI _ _ hie,h0,h1⟩ (sim.ev x) hrows).1 ⟨rfl,rfl,hspot⟩ hroom;rw[hr];exact fin v w' ⟨r,st',M',h r st' hown,hv,hsim,hchg⟩
    · rename_i k rows b hev
      cases hkb:(Nat.beq k ie.size&&Nat.blt 0 ie.size)with
      |false=>grind
      |true=>
      rw[hkb]at h;simp only[cond_true]at h;rw[Fay]at hkb;have hpos:0<ie.size:=Fbj hkb.2;obtain rfl:=(wj _ _).1 hkb.1;obtain⟨rows',hrows,htok,hroom,h⟩:=zy h;have hvr:=qq sim.env hev;obtain⟨base,sLen,sCap,hsv⟩:∃base sLen sCap,a.eval s=.slice base sLen sCap:=by generalize a.eval s=v at hvr;cases hvr<;>simp
      rw[hsv]at hvr;have h0:(cl.args.map a.eval)[0]?=some (.slice base sLen sCap):=δ;obtain⟨v,w',r,st',M',hr,hown,hsim,hchg,hv⟩:=(lm (c:=c) sim o.type ⟨ht,ht1,jv (hI _ _ hi) hty,hI _ _ hie,h0,h1⟩ (sim.ev x) hrows).2 rows b hpos hvr htok hroom;rw[hr];exact fin v w' ⟨r,st',M',h r st' hown,hv,hsim,hchg⟩
    grind
  grind
def s7{o:Oper}{x:LV}{v:Value}{a:Act}{w:World}{Oth M:BB}{β:Nat->Nat}(sim:SimB c.N Oth β A st M a w)(hv:LRel w (λb o=>M b o\/Oth b o) β x v)
    (h:xe A c.n o.dst x λA'=>K A' st):∃A' st' M',K A' st'/\Sim c.N Oth A' st' M' (a.put o.dst v) w/\Chg M w M' w:=by
  unfold xe at h;cases hd:o.dst with
  |none=>rw[hd]at h;exact⟨A,st,M,h,⟨β,sim⟩,Chg.refl _ _⟩
  | some d=>
    rw[hd]at h;obtain⟨hlt,h⟩:=Ay h;exact⟨_,st,M,h,⟨β,sim.put hlt hv⟩,Chg.refl _ _⟩
set_option maxHeartbeats 1000000 in
theorem yaj(w:World){t e:TypeId}(hu:P.underlying t=some (.slice e))(ad:Option Addr)(n cap d:Nat):(Op.equalIn (d+1) t (.slice ad n cap) (.slice none 0 0)).run P w=.ok ad.isNone w:=by cases ad<;>simp[Op.equalIn,yv hu]
theorem rj(w:World){t e:TypeId}(hu:P.underlying t=some (.slice e))(ad:Option Addr)(n cap:Nat):
    (binOp .eql t (.slice ad n cap) (.slice none 0 0)).run P w=.ok (.bool ad.isNone) w/\(binOp .neq t (.slice ad n cap) (.slice none 0 0)).run P w=.ok (.bool !ad.isNone) w:=by grind[yaj,binOp,Op.equal,Op.maxDepth,Sem.run_bind,Result.andThen_ok,Sem.run_pure]
theorem yn1{o:Oper}{op:BinOp}{t yt:TypeId}{x y:Operand}(ho:o.op=.binOp op t x y yt)(hI:qe P c.I)
    (h:V9 c o op t x y yt K A st):AOp P c.N o K A st:=by
  unfold V9 at h;split at h
  · rename_i k rows tok hx hy
    obtain⟨i,hi,h⟩:=zy h;rintro Oth M a w ⟨β,sim⟩;have hyv:a.eval y=.slice none 0 0:=VRel.eq_s (qq sim.env hy);have hxv:∃ad n cap,a.eval x=.slice ad n cap/\(ad.isNone=true->rows=[]):=by
      rcases Nk (qq sim.env hx)with⟨_,cap,hv,h2,_⟩|⟨b,off,cap,hv,_⟩
      · grind
      grind
    obtain⟨ad,n,cap,hxv,hnil⟩:=hxv;cases hty:i.ty with
    | slice e=>
      rw[hty]at h;have hu:=jv (hI _ _ hi) hty;cases op with
      | eql=>
        have hrun:(execOp a.eval o).run P w=.ok (.value (.bool ad.isNone)) w:=by simp_all[execOp,eqGuard,rj]
        unfold Oper.wp;rw[hrun,Oper.upon_value];exact s7 sim (x:=kl ad.isNone) (VRel.s _) (h _ hnil)
      | neq=>
        have hrun:(execOp a.eval o).run P w=.ok (.value (.bool !ad.isNone)) w:=by simp_all[execOp,eqGuard,rj]
        unfold Oper.wp;rw[hrun,Oper.upon_value];exact s7 sim (x:=kl !ad.isNone) (VRel.s _) (h _ hnil)
      |_=>grind
    |_=>grind
  grind[Po]
def zem(hI:qe P c.I){o:Oper}(h:Di P c o K A st):AOp P c.N o K A st:=by
  unfold Di at h;cases hx:isX o.op with
  |true=>rw[hx]at h;exact Wi hI h
  |false=>
  rw[hx]at h;replace h:F4 P c o K A st:=h;unfold F4 at h;cases ho:o.op with
  |alloc t=>grind[Gm,yn3]
  |box t x=>grind[yn0]
  |buildSlice t n ps=>simp only[ho]at h;exact zen ho hI h
  | store t p x=>
    simp only[ho]at h;cases hd:o.dst with
    |some d=>grind
    |none=>rw[hd]at h;exact ynv ho hd hI h
  |binOp op t x y yt=>grind[yn1]
  |convert s t x=>grind[yny]
  | call cl=>
    simp only[ho]at h;grind[ynz,ynx,yn2,Po]
  |_=>grind[Po]
def Cfg.noDepth(c:Cfg):c.F.depth.isSome=true->1<=0:=λh=>ω
def zdt{c:Cfg}{f:FuncId}{args:Array Value}{w:World}{R:Ending->World->Prop}(h:Calls P f args w R):CallsIn c.F 0 P f args w R:=
  (callsIn_wide (n:=0)).2 h
def ya4{c:Cfg}{row:String}{args:Array Value}{w:World}{R:Value->World->Prop}(h:Rows P row args w R):RowsIn c.F 0 P row args w R:=
  λx cs _=>let⟨v,w',r,s⟩:=h x cs;⟨v,w',r,stepsIn_wide.2 s⟩
def Oper.wpIn_F{o:Oper}(hd:∀cl,o.op≠.defer cl){a:Act}{w:World}{K:Act->World->Prop}{Q:Exit->Act->World->Prop}(h:o.wp P a w K Q):o.wpIn c.F 0 P a w K Q:=by
  refine⟨λ_ _=>Tv,?_⟩;rw[Oper.semAt_eq _ _ _ hd];unfold Oper.wp at h;generalize(execOp a.eval o).run P w=r at*;cases r with
  | ok x w'=>
    cases x<;>simp only[Oper.upon,Oper.uponIn]at h⊢<;>
      first
        |exact h
        |exact⟨c.noDepth,zdt h⟩
        |exact⟨c.noDepth,ya4 h⟩
        |exact h.elim
  |halt x w'=>cases x<;>trivial<;>exact h
def ye5{o:Oper}(h:Di P c o K A st)(cl:Call):o.op≠.defer cl:=by intro e;unfold Di at h;rw[e]at h;have h:F4 P c o K A st:=h;unfold F4 at h;simp only[e]at h;obtain⟨d,_,h⟩:=zy h;obtain⟨_,h⟩:=Ay h;exact h.elim
def zey{o:Oper}{l:Nat}(h:Wo A o.op=some l):∃cl f fv cap,o.op=.call cl/\cl.callee=.value f/\A.ev f=.av (.s (.func (.yield l) fv cap))/\fv=#[]/\cap=#[]:=by
  unfold Wo at h;split at h
  · rename_i cl hop
    split at h
    · rename_i f hcl
      split at h
      · rename_i l' fv cap hev
        cases hb:(Nat.beq fv.size 0&&Nat.beq cap.size 0)with
        |false=>grind
        | true=>
          simp_all
      · cases h
    · cases h
  · cases h
def ya6{l:Nat}{f:FuncId}{tmps:Array Value}{assign body:Code}{w:World}{R:Ending->World->Prop}(h:RoundIn Fence.wide 0 P l f tmps assign body w R):RoundIn c.F 0 P l f tmps assign body w R:=h
def yn4(hI:qe P c.I){o:Oper}(h:Lt P c o K A st):you P c o K A st:=by
  unfold Lt at h;split at h;rotate_left
  · exact λOth M a w sim=>Oper.wpIn_F (ye5 h) (zem hI h Oth M a w sim)
  · rename_i l hl
    obtain⟨cl,f,fv,cap,ho,hcl,hf,rfl,rfl⟩:=zey hl;rintro Oth M a w ⟨β,sim⟩;obtain⟨vs,hvs,h⟩:=zy h;unfold lv at hvs;rw[ho]at hvs;have hfv:a.eval f=.func (.yield l) #[] #[]:=VRel.eq_s (qq sim.env hf);obtain⟨hm1,hm2⟩:=Mo hvs;have hr1:Reads w (λb o=>M b o\/Oth b o) vs (cl.args.map a.eval).toList:=by refine⟨by simp[hm1],λi x y hx hy=>?_⟩;obtain⟨z,hz,hzz⟩:=hm2 i x hx;have hz':cl.args[i]?=some z:=δ;rw[Fcv,Far,hz]at hy;simp at hy;subst hy;exact qq sim.env (Np hzz)
    have hrun:(execOp a.eval o).run P w=(Instr.yield l (cl.args.map a.eval)).run P w:=by grind[execOp,resolve,Deferred.ofValue,invoke]
    obtain⟨fn,tmps,assign,body,hy,hround⟩:=h.out _ _ w (cl.args.map a.eval) sim.inner ⟨hr1.1,λi x y hx hy=>(hr1.2 i x y hx hy).mono Ip⟩;refine⟨λ_ _=>Tv,?_⟩;rw[Oper.semAt_eq _ _ _ δ,hrun,hy,Oper.uponIn_round];refine⟨c.noDepth,ya6 (hround.mono ?_)⟩;rintro e w' ⟨v,rfl,hp⟩;obtain⟨r,st',M',hk,hv,hs,hchg⟩:=sim.post v w' hp;show∃A' st' M',_;unfold xe at hk;cases hd:o.dst with
    |none=>rw[hd]at hk;exact⟨A,st',M',hk,⟨β,hs⟩,hchg⟩
    | some d=>
      rw[hd]at hk;obtain⟨hlt,hk⟩:=Ay hk;exact⟨_,st',M',hk,⟨β,hs.put hlt hv⟩,hchg⟩
end
def N7(c:Cfg)(o:Oper)(A:Fr)(K:Fr->Prop):Prop:=xe A c.n o.dst .und K
def Cg(P:Program)(c:Cfg)(ops:Array Oper)(K:Fr->Store->Prop):List Oper->Fr->Store->Prop
  |[],A,st=>K A st
  | o::rest,A,st=>
    match o.guard with
    |none=>Lt P c o (Cg P c ops K rest) A st
    | some (j,want)=>optK ((ops[j]?).bind (·.dst)) λt=>
      match A.t t with
      |.av (.s (.bool b))=>Cv b
          (bif want then Lt P c o (Cg P c ops K rest) (A.put t (kl true)) st else N7 c o (A.put t (kl true)) λA'=>Cg P c ops K rest A' st)
          (bif want then N7 c o (A.put t (kl false)) λA'=>Cg P c ops K rest A' st else Lt P c o (Cg P c ops K rest) (A.put t (kl false)) st)
      |.und=>N7 c o A λA'=>Cg P c ops K rest A' st
      |_=>False
structure AWp(P:Program)(c:Cfg)(code:Code)(Q:Exit->Fr->Store->Prop)(A:Fr)(st:Store):Prop where
  out:∀Oth M a w,Sim c.N Oth A st M a w->code.wpIn c.F 0 P (λe a' w'=>∃A' st' M',Q e A' st'/\Sim c.N Oth A' st' M' a' w'/\Chg M w M' w') a w
structure ADraw(P:Program)(c:Cfg)(ops:Array Oper)(K:Fr->Store->Prop)(A:Fr)(st:Store):Prop where
  out:∀id,AWp P c (.region id ops true) (λe A' st'=>match e with|.normal=>K A' st'|_=>False) A st
def Re(next:Fr->Store->Prop)(Q:Exit->Fr->Store->Prop):Exit->Fr->Store->Prop
  |.normal=>next
  |e=>Q e
def Sv(id:Nat)(Q:Exit->Fr->Store->Prop):Exit->Fr->Store->Prop
  |.exit id'=>bif Nat.beq id' id then Q .normal else Q (.exit id')
  |e=>Q e
def ye6(Q:Exit->Fr->Store->Prop):Exit->Fr->Store->Prop
  |.goto _=>λ_ _=>False
  |e=>Q e
def vc(P:Program)(c:Cfg):Code->(Exit->Fr->Store->Prop)->Fr->Store->Prop
  |.skip,Q,A,st=>Q .normal A st
  | .region _ ops draw,Q,A,st=>match draw with
    |false=>Cg P c ops (Q .normal) ops.toList A st
    |true=>ADraw P c ops (Q .normal) A st
  |.seq a b,Q,A,st=>vc P c a (Re (vc P c b Q) Q) A st
  | .cond x a b,Q,A,st=>match A.ev x with
    |.av (.s (.bool t))=>Cv t (vc P c a Q A st) (vc P c b Q A st)
    |_=>False
  |.block id b,Q,A,st=>vc P c b (Sv id Q) A st
  |.loop b,Q,A,st=>AWp P c (.loop b) Q A st
  |.exit id,Q,A,st=>Q (.exit id) A st
  |.scope b,Q,A,st=>vc P c b (ye6 Q) A st
  |.label _,Q,A,st=>Q .normal A st
  |.ret,Q,A,st=>Q .ret A st
  |_,_,_,_=>False
section
variable {P:Program} {c:Cfg}
theorem Fr.put_self{A:Fr}{d:Nat}{x:LV}(h:A.t d=x):A.put d x=A:=by
  unfold Fr.put
  congr
  grind[q9]
theorem zbm{ops:Array Oper}{tmps:Array Value}{j t:Nat}{b:Bool}(hd:(ops[j]?).bind (·.dst)=some t)(h:tmps.getD t undef=.bool b):yielded ops tmps j=some b:=by unfold yielded;rw[hd];simp only[Option.bind_some];rw[Fbi]at h;grind[undef]
theorem zbl{ops:Array Oper}{tmps:Array Value}{j t:Nat}(hd:(ops[j]?).bind (·.dst)=some t)(h:tmps.getD t undef=undef):yielded ops tmps j=none:=by
  unfold yielded;rw[hd];simp only[Option.bind_some];rw[Fbi]at h;cases ht:tmps[t]? with
  |none=>rfl
  |some v=>rw[ht]at h;simp at h;subst h;rfl
theorem Pv{o:Oper}{a:Act}{w:World}{K K':Act->World->Prop}{Q Q':Exit->Act->World->Prop}(hk:∀a w,K a w->K' a w)(hn:∀e a w,e≠.normal->¬Q e a w)(h:o.wpIn c.F 0 P a w K Q):o.wpIn c.F 0 P a w K' Q':=by
  refine⟨h.1,?_⟩;have h:=h.2;generalize(o.semAt c.F.round a.eval).run P w=r at*;have nq:∀(e:Exit) (a:Act) (w:World) {p:Prop},e≠.normal->Q e a w->p:=λe a w p hne h=>(hn e a w hne h).elim;cases r with
  | ok x w'=>
    cases x<;>simp only[Oper.uponIn]at h⊢<;>
      first
        |exact hk _ _ h
        |exact⟨h.1,CallsIn.mono h.2 (λe w'' he=>by
            cases e with
            |returned v=>exact hk _ _ he
            |panicked ch=>exact nq _ _ _ φ he
            |outgrown=>obtain⟨a2,w2,h2⟩:=he;exact nq _ _ _ φ h2)⟩
        |exact⟨h.1,RowsIn.mono h.2 λ_ _ he=>hk _ _ he⟩
        |exact⟨h.1,RoundIn.mono h.2 (λe w'' he=>by
            cases e with
            |returned v=>exact hk _ _ he
            |panicked ch=>exact nq _ _ _ φ he
            |outgrown=>obtain⟨a2,w2,h2⟩:=he;exact nq _ _ _ φ h2)⟩
        |exact h
  |halt x w'=>cases x<;>simp only[Oper.uponIn]at h⊢<;>grind
def mw(hI:qe P c.I)(ops:Array Oper)(K:Fr->Store->Prop):∀(l:List Oper) (A:Fr) (st:Store),Cg P c ops K l A st->
    ∀Oth M a w,Sim c.N Oth A st M a w->wpListIn c.F 0 P ops (λe a' w'=>e=.normal/\∃A' st' M',K A' st'/\Sim c.N Oth A' st' M' a' w'/\Chg M w M' w') l a w:=by
  intro l;induction l with
  |nil=>intro A st h Oth M a w sim;exact⟨rfl,A,st,M,h,sim,Chg.refl M w⟩
  | cons o rest ih=>
    intro A st h Oth M a w sim
    have mono:∀(M':BB) (w':World) (a':Act) (A':Fr) (st':Store),Cg P c ops K rest A' st'->Sim c.N Oth A' st' M' a' w'->Chg M w M' w'->
        wpListIn c.F 0 P ops (λe a' w'=>e=.normal/\∃A' st' M',K A' st'/\Sim c.N Oth A' st' M' a' w'/\Chg M w M' w') rest a' w':=by
      intro M' w' a' A' st' h1 h2 h3;have:=ih A' st' h1 Oth M' a' w' h2;clear h h1
      -- weaken the post
      have wm:∀(l:List Oper) (a w0) (Q Q':Exit->Act->World->Prop),(∀e a w,Q e a w->Q' e a w)->(∀e a w,e≠.normal->¬Q e a w)->wpListIn c.F 0 P ops Q l a w0->wpListIn c.F 0 P ops Q' l a w0:=by
        intro l;induction l with
        |nil=>intro a w0 Q Q' hq _ h;exact hq _ _ _ h
        | cons o l ihl=>
          intro a w0 Q Q' hq hn h;unfold wpListIn at h⊢;split
          · rename_i hw
            rw[if_pos hw]at h;grind[Pv]
          grind
      refine wm rest a' w' _ _ ?_ ?_ this
      · rintro e a w ⟨he,A',st',M'',h4,h5,h6⟩
        exact⟨he,A',st',M'',h4,h5,h3.trans h6⟩
      grind
    -- an operation that is carried out
    have go:∀A1,Lt P c o (Cg P c ops K rest) A1 st->Sim c.N Oth A1 st M a w->Region.wanted o (yielded ops a.tmps)=true->
        wpListIn c.F 0 P ops (λe a' w'=>e=.normal/\∃A' st' M',K A' st'/\Sim c.N Oth A' st' M' a' w'/\Chg M w M' w') (o::rest) a w:=by
      intro A1 h1 sim1 hw;unfold wpListIn;rw[if_pos hw];exact Pv (λa' w' ⟨A',st',M',h3,h4,h5⟩=>mono M' w' a' A' st' h3 h4 h5) (λ_ _ _ _ h=>h) (yn4 hI h1 Oth M a w sim1)
    have skip:∀A1,(N7 c o A1 λA'=>Cg P c ops K rest A' st)->Sim c.N Oth A1 st M a w->Region.wanted o (yielded ops a.tmps)=false->
        wpListIn c.F 0 P ops (λe a' w'=>e=.normal/\∃A' st' M',K A' st'/\Sim c.N Oth A' st' M' a' w'/\Chg M w M' w') (o::rest) a w:=by
      intro A1 h1 sim1 hw;unfold wpListIn;rw[if_neg δ];refine⟨λ_ _=>Tv,?_⟩;obtain⟨β,sim1⟩:=sim1;unfold N7 xe at h1;cases hd:o.dst with
      |none=>rw[hd]at h1;exact mono M w _ A1 st h1 ⟨β,sim1⟩ (Chg.refl _ _)
      | some d=>
        rw[hd]at h1;obtain⟨hlt,h1⟩:=Ay h1;exact mono M w _ _ st h1 ⟨β,sim1.put hlt (x:=.und) rfl⟩ (Chg.refl _ _)
    unfold Cg at h;cases hg:o.guard with
    | none=>
      grind[Region.wanted]
    | some jw=>
      obtain⟨j,want⟩:=jw;rw[hg]at h;obtain⟨t,ht,h⟩:=zy h;have hwant:∀y,yielded ops a.tmps j=y->Region.wanted o (yielded ops a.tmps)=(y==some want):=λy hy=>by simp[Region.wanted,hg,hy]
      split at h
      · rename_i b hb
        have htv:a.tmps.getD t undef=.bool b:=by obtain⟨β,s⟩:=sim;have:=s.tm t;rw[hb]at this;exact VRel.eq_s this
        have hw:=hwant _ (zbm ht htv);cases b with
        | true=>
          rw[Fr.put_self (A:=A) (x:=kl true) hb]at h;cases want with
          |true=>exact go A h sim δ
          |false=>exact skip A h sim δ
        | false=>
          rw[Fr.put_self (A:=A) (x:=kl false) hb]at h;cases want with
          |true=>exact skip A h sim δ
          |false=>exact go A h sim δ
      · rename_i hb
        have htv:a.tmps.getD t undef=undef:=by obtain⟨β,s⟩:=sim;have:=s.tm t;rw[hb]at this;exact this
        grind[zbl]
      grind
end
end Go.V
