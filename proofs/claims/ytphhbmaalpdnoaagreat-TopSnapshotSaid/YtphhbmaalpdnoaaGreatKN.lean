/- Ground of laws of throngtop: contracts and plain lemmas; no condition beyond the row's own. -/
import Derived.SizedLaws
import Derived.OpenShut
import Derived.Deep.Slices
import Derived.RowKit3
import Derived.Carry
import Derived.ProofKit
import Derived.Test.YtphhbmaalpdnoaaGreatKC
set_option linter.unusedSimpArgs false
set_option linter.unusedVariables false
set_option linter.defProp false
namespace Go.V
open Go.ChangeShapes Go.WideShapes Go.ChangeAt Go.RowKit Go.Deep
def T0:Nat->Nat->Prop:=λ_ _=>False
def CellsOK(w:World)(ys:List AV)(cs:List Value):Prop:=ys.length=cs.length/\∀(i:Nat) (y:AV) (v:Value),ys[i]?=some y->cs[i]?=some v->VRel w T0 y v/\qw v=true
theorem CellsOK.nil(w:World):CellsOK w [] []:=⟨rfl,λi y v h=>θi⟩
theorem CellsOK.one{w:World}{y:AV}{v:Value}(h:VRel w T0 y v)(h1:qw v=true):CellsOK w [y] [v]:=
  ⟨rfl,λi y' v' hy hv=>by
    cases i with
    |zero=>simp at hy hv;subst hy hv;exact⟨h,h1⟩
    |succ i=>simp at hy⟩
theorem CellsOK.app{w:World}{ys ys':List AV}{cs cs':List Value}(h:CellsOK w ys cs)(h':CellsOK w ys' cs'):CellsOK w (ys++ys') (cs++cs'):=by
  refine⟨by simp[h.1,h'.1],λi y v hy hv=>?_⟩;by_cases hi:i<ys.length
  · rw[Fau hi]at hy
    rw[Fau (by rw[<-h.1];exact hi)]at hv;exact h.2 i y v hy hv
  · rw[Fa0 θ]at hy
    rw[Fa0 (by rw[<-h.1];omega)]at hv;rw[<-h.1]at hv;exact h'.2 _ y v hy hv
structure Codec(P:Program)(t:TypeId)(α:Type)(f:α->List AV)(ok:α->Prop):Prop where
  out:∀{H:Type} (enc:TypeId×Value->H) (w:World) (base:Nat) (held:Bool) (fuel:Nat) (cs:List Value) (x:DataW H×List MemPlace),
    DataW.trod enc P w base (λ_=>true) held fuel t cs=some x->(∀n∈x.1.weights P t,n<=reachBytes)->∃a:α,ok a/\CellsOK w (f a) cs
theorem Codec.weaken{P:Program}{t:TypeId}{α:Type}{f:α->List AV}{ok ok':α->Prop}(C:Codec P t α f ok)(h:∀a,ok a->ok' a):Codec P t α f ok':=
  ⟨λenc w base held fuel cs x hx hw=>by obtain⟨a,h1,h2⟩:=C.out enc w base held fuel cs x hx hw;exact⟨a,h a h1,h2⟩⟩
section
variable {P:Program} {t e:TypeId}
theorem Codec.int{k:IntKind}(ht:P.underlying t=some (.int k)):Codec P t Int (λn=>[.s (.int k n)]) (λn=>(Lit.int k n).wf=true):=by refine⟨λ{H} enc w base held fuel cs x hx hw=>?_⟩;obtain⟨n,rfl,_,hw⟩:=DataW.trod_int ht hx;exact⟨n,hw,CellsOK.one (VRel.s _) rfl⟩
theorem Codec.byte(ht:P.underlying t=some (.int .u8)):Codec P t UInt8 (λb=>[.s (.int .u8 b.toNat)]) (λ_=>True):=by
  refine⟨λ{H} enc w base held fuel cs x hx hw=>?_⟩;obtain⟨n,rfl,_,hw⟩:=DataW.trod_int ht hx;have hb:0<=n/\n<=255:=by simp[Lit.wf,IntKind.min,IntKind.max,IntKind.signed,IntKind.bits]at hw;omega
  refine⟨UInt8.ofNat n.toNat,Tv,?_⟩;have e:((UInt8.ofNat n.toNat).toNat:Int)=n:=by rw[UInt8.toNat_ofNat'];omega
  rw[e];exact CellsOK.one (VRel.s _) rfl
theorem Codec.slice{α:Type}{f:α->List AV}{ok:α->Prop}{k:Nat}(ht:P.underlying t=some (.slice e))(hk:P.cellsOf e=k)(h0:0<k)(hb:0<P.bytesOf e)(C:Codec P e α f ok):
    Codec P t (List α) (λl=>[.lst k (l.map f) none]) (λl=>(∀a∈l,ok a)/\l.length<=140737488355328):=by
  refine⟨λ{H} enc w base held fuel cs x hx hw=>?_⟩;skip;rcases open_slice ht hx with⟨rfl,rfl⟩|⟨a,len,cap,m,n,D,Pl,rfl,hbase,hl,hmax,hme,rfl,hel⟩
  · exact⟨[],⟨(λa h=>ω),φ⟩,CellsOK.one (VRel.nil _ _) rfl⟩
  · simp only[if_true]at hme
    subst hme;have hlen:len<=140737488355328:=by
      have h1:=hw ((((List.range len).map D).length+((List.range (m-len)).map λj=>D (len+j)).length)*P.bytesOf e) (by simp[DataW.weights,ht]);simp at h1;have h2:len<=(len+(m-len))*P.bytesOf e:=by have:len+(m-len)<=(len+(m-len))*P.bytesOf e:=Nat.le_mul_of_pos_right _ hb;omega
      have h3:reachBytes<140737488355328:=ψ;omega
    have hwi:∀i,i<len->∀n∈(D i).weights P e,n<=reachBytes:=by
      intro i hi n hn;refine hw n ?_;simp only[DataW.weights,ht,Fa6,Fat];right;left;have key:∀(l:List (DataW H)) (d:DataW H),d∈l->n∈d.weights P e->n∈DataW.weightsAll P e l:=by
        intro l;induction l with
        |nil=>intro d hd;cases hd
        | cons y l ih=>
          intro d hd hnd;simp only[DataW.weightsAll,Fat];rcases Fa6.1 hd with rfl|hd
          · exact .inl hnd
          · exact .inr (ih d hd hnd)
      exact key _ (D i) (Fai.2 ⟨i,Fbe.2 hi,rfl⟩) hn
    have each:∀j,j<=len->∃l:List α,l.length=j/\∀i (h:i<l.length),ok l[i]/\∃cs',w.cells? base (a.add (i*k)) k=some cs'/\CellsOK w (f l[i]) cs':=by
      intro j;induction j with
      |zero=>intro _;exact⟨[],rfl,λi h=>θi⟩
      | succ j ih=>
        intro hj;obtain⟨l,hll,hli⟩:=ih θ;obtain⟨cs',h1,h2⟩:=hel j θ;rw[hk]at h1;obtain⟨y,hy1,hy2⟩:=C.out enc w base held n cs' _ h2 (hwi j θ);refine⟨l++[y],by simp[hll],λi hi=>?_⟩;by_cases hij:i<l.length
        · rw[Fbo hij];exact hli i hij
        · have:i=l.length:=by simp at hi;omega
          subst this;rw[Fdb (Fak _)];simp only[Nat.sub_self,Fcp];rw[hll];exact⟨hy1,cs',h1,hy2⟩
    obtain⟨l,hll,hli⟩:=each len (Fak _);refine⟨l,⟨λy hy=>?_,θ⟩,CellsOK.one ?_ rfl⟩
    · obtain⟨i,hi,rfl⟩:=Faj hy
      exact(hli i hi).1
    by_cases hm:m=0
    · have:len=0:=θ
      subst this;have:l=[]:=Far hll;subst this;rw[hm];exact VRel.nil _ _
    · obtain⟨b,off,spot⟩:=a
      have hspot:spot=none:=by
        obtain⟨cs',h1,_⟩:=hel 0 θ;rw[hk]at h1;have h2:=World.cells?_some h1;have h3:=h2.2.2 0 h0;have h4:0<cs'.length:=by rw[h2.2.1];exact h0
        rw[Fac h4]at h3;cases spot with
        |none=>rfl
        | some s=>
          simp only[Nat.zero_mul,World.cell?,Addr.add,if_true]at h3;split at h3
          · simp at h3
          · cases h3
      subst hspot;have hrow:∀i (h:i<l.length),(f l[i]).length=k:=λi h=>by obtain⟨cs',h1,h2⟩:=(hli i h).2;rw[h2.1];exact(World.cells?_some h1).2.1
      have hget:∀(i:Nat) (row:List AV),(l.map f)[i]?=some row->∃h:i<l.length,row=f l[i]:=λi row h=>by
        rw[Faq]at h;have hi:i<l.length:=by
          by_cases hi:i<l.length
          · exact hi
          · rw[Fby θ]at h;cases h
        rw[Fac hi]at h;simp at h;exact⟨hi,h.symm⟩
      have hcell:∀(i:Nat) (row:List AV) (j:Nat) (y:AV),(l.map f)[i]?=some row->row[j]?=some y->∃v,w.cell? ⟨b,off+(i*k+j),none⟩=some v/\VRel w T0 y v/\qw v=true:=by
        intro i row j y h1 h2;obtain⟨hi,rfl⟩:=hget i row h1;obtain⟨cs',h3,h4⟩:=(hli i hi).2;have h5:=World.cells?_some h3;have hj:j<cs'.length:=by rw[<-h4.1];exact(Fa2.1 h2).1
        have h6:=h5.2.2 j (by rw[<-h5.2.1];exact hj);rw[Fac hj]at h6;refine⟨cs'[j],?_,h4.2 j y _ h2 (Fac hj)⟩;rw[<-h6];simp only[wx,Nat.add_assoc]
      have hlen2:(l.map f).length=len:=by simp[hll]
      have res:VRel w T0 (.lst k (l.map f) none) (.slice (some ⟨b,off,none⟩) (l.map f).length m):=
        VRel.lst (l.map f) none b off m k (λp=>(w.cell? ⟨b,off+p,none⟩).getD undef) (by rw[hlen2];exact hl) (λi row h=>by obtain⟨hi,rfl⟩:=hget i row h;exact hrow i hi) (λ_ h=>ω)
          (λi row j y h1 h2=>by obtain⟨v,h3,_⟩:=hcell i row j y h1 h2;rw[h3];exact⟨rfl,λh=>h⟩)
          (λi row j y h1 h2=>by obtain⟨v,h3,_,h4⟩:=hcell i row j y h1 h2;rw[h3];exact h4)
          (λi row j y h1 h2=>by obtain⟨v,h3,h4,_⟩:=hcell i row j y h1 h2;rw[h3];exact h4)
      rw[hlen2]at res;exact res
theorem qo{H:Type}{enc:TypeId×Value->H}{w:World}{base:Nat}{held:Bool}{fuel:Nat}{cs:List Value}{x:DataW H×List MemPlace}{fs:Array Field}(ht:P.underlying t=some (.struct fs))
    (hx:DataW.trod enc P w base (λ_=>true) held fuel t cs=some x) (hw:∀n∈x.1.weights P t,n<=reachBytes) {α:Type} {g:α->List AV} {ok:α->Prop} (i o s:Nat) {fld:Field} (hf:fs[i]?=some fld) (ho:fld.offset=o) (hs:P.cellsOf fld.type=s)
    (C:Codec P fld.type α g ok):∃a,ok a/\CellsOK w (g a) ((cs.drop o).take s):=by
  obtain⟨xs,n,_,rfl,_,hlen,hall⟩:=DataW.trod_struct ht hx;have h1:=hall i fld hf;have hi:i<xs.length:=by rw[hlen];exact(Fbq.1 hf).1
  rw[Fac hi,ho,hs]at h1;refine C.out enc w base held n _ _ h1 λm hm=>hw m ?_;simp only[DataW.weights,ht];refine DataW.weights_mem_each (j:=i) ?_ ?_ m hm
  · simp[hf]
  · simp[hi]
theorem H6{H:Type}{enc:TypeId×Value->H}{w:World}{base:Nat}{held:Bool}{fuel:Nat}{cs:List Value}{x:DataW H×List MemPlace}{fs:Array Field}(ht:P.underlying t=some (.struct fs))
    (hx:DataW.trod enc P w base (λ_=>true) held fuel t cs=some x):cs.length=P.cellsOf t:=by
  obtain⟨_,_,_,_,h,_⟩:=DataW.trod_struct ht hx;exact h
theorem CellsOK.cons{w:World}{ys ys':List AV}{cs:List Value}{o s o':Nat}(h:CellsOK w ys ((cs.drop o).take s))(ho:o'=o+s)(h':CellsOK w ys' (cs.drop o')):CellsOK w (ys++ys') (cs.drop o):=by
  have e:cs.drop o=(cs.drop o).take s++cs.drop o':=by rw[ho,<-List.drop_drop,Fbs]
  rw[e];exact h.app h'
theorem CellsOK.stop{w:World}{cs:List Value}{o:Nat}(h:cs.length=o):CellsOK w [] (cs.drop o):=by rw[Fc2 θ];exact CellsOK.nil w
end
theorem yg8{H:Type}{enc:TypeId×Value->H}{P:Program}{f:Func}{s:ChangeSpec}{vf fresh handsOn again:Bool}{W W':World}{args:Array Value}{v:Value}{ds gs:List (DataW H)}{before pa pv:List MemPlace}
    (hW:DataW.Whole enc P f.params.toList s.vars vf W args.toList ds gs before)
    (hres:∀(b:Nat) (sp:Nat->Bool) (hd:Bool),DataW.TrodAll enc P W' b sp hd f.resultTypes.toList (v.resultList f.resultTypes.size) (s.fn H (ds++gs)).results [])
    (hargs:∀sp:Nat->Bool,(∀p∈before,sp p.block=true)->DataW.TrodAll enc P W' 0 sp true f.params.toList args.toList (s.fn H (ds++gs)).args pa)
    (hvars:∀sp:Nat->Bool,(∀p∈before,sp p.block=true)->DataW.TrodVars enc P W' sp s.vars (s.fn H (ds++gs)).vars pv)
    (hps:before=pa++pv) (hk:W.keptBut W' (·∈before)) (hfz:∀b off,b<W.heap.size->W'.frozen? ⟨b,off,none⟩=W.frozen? ⟨b,off,none⟩)
    (hok:∀(j:Nat) (t:TypeId) (r:Value),f.resultTypes[j]?=some t->(v.resultList f.resultTypes.size)[j]?=some r->Value.okWide P W' .any 0 t r):
    s.post enc P f vf fresh handsOn again W args v W':=by
  have hlt:∀p∈before,p.block<W.heap.size:=hW.lt;have hold:∀p∈before,(λb=>decide (b<W.heap.size)) p.block=true:=λp hp=>by simpa using hlt p hp
  refine⟨ds,gs,before,[],pa,pv,hW,hres _ _ _,hargs _ hold,hvars _ hold,World.keptBut_mono (λp hp=>⟨hp,?_⟩) hk,λ_=>?_⟩
  · rw[hps,Fat]at hp
    exact Or.inr hp
  · obtain⟨_,_,_,_,_,hz,hn⟩:=hW
    refine⟨hok,_,_,([]++pa)++pv,⟨[]++pa,pv,trodAll_append (hargs _ (λ_ _=>rfl)) (hres _ _ _),hvars _ (λ_ _=>rfl),rfl,?_,?_⟩,?_⟩
    · intro b off hp
      have hp':MemPlace.cell b off∈before:=by rw[hps];simpa using hp
      rw[hfz b off (hlt _ hp')];exact hz b off hp'
    · intro ha
      have:=hn ha;rw[hps]at this;simpa using this
    · intro p hp _
      rw[hps];simpa using hp
theorem Below.kept{W W':World}(h:Below W.heap.size W W')(may:MemPlace->Prop):W.keptBut W' may:=by
  refine⟨h.os,h.output,λi hi=>?_⟩;rw[h.block i hi];obtain⟨o,ho⟩:∃o,W.heap[i]?=some o:=⟨_,Fb4 hi⟩
  rw[ho];cases o with
  |cells c t fr=>exact⟨rfl,rfl,rfl,λ_ _=>rfl⟩
  |map es clock=>exact .inr ⟨rfl,rfl⟩
  |_=>rfl
theorem Below.froz{W W':World}(h:Below W.heap.size W W'):∀b off,b<W.heap.size->W'.frozen? ⟨b,off,none⟩=W.frozen? ⟨b,off,none⟩:=by intro b off hb;simp only[World.frozen?,h.block b hb]
theorem yra {P : Program} {f : FuncId} {v : Value} {x : AV} {W : World} {R : AV -> Prop} {fn : Func} {code : Code} (h1 : P.funcs[f]? = some fn) (h2 : fn.body = some code) (h3 : (fn.name == "runtime.NumGoroutine") = false)
    (h:ACalls P f [x] Store.empty λr _=>R r) (hx:VRel W T0 x v):Calls P f #[v] W λe W'=>∃r u,e=.returned u/\R r/\(∃T,VRel W' T r u)/\Below W.heap.size W W':=by
  have hs:StoreOK Store.empty (λ_ _=>False) (λ_ _=>False) W:=
    ⟨λb x h=>by simp[Store.empty]at h,λb x h=>by simp[Store.empty]at h,λ_ _ h=>h.elim,λ_ _ h=>h.elim,λ_ _ h=>h.elim⟩
  have hr:Reads W (λb o=>(λ_ _=>False:Nat->Nat->Prop) b o\/(λ_ _=>False:Nat->Nat->Prop) b o) [x] #[v].toList:=
    Reads.cons (hx.mono λb o h=>by rcases h with h|h<;>exact h) Reads.nil
  have h4:=h.out (λ_ _=>False) (λ_ _=>False) W #[v] hs hr;have hrun:(callFunc f #[v]).run P W=.ok (.enter f #[v]) W:=by
    have hne : ¬ fn.name = "runtime.NumGoroutine" := by simpa using h3
    simp[callFunc,run_program,h1,hne,h2]
  rw[hrun]at h4;refine Calls.mono h4 λe W' ⟨u,he,r,st',M',hR,hv,_,hc⟩=>⟨r,u,he,hR,⟨_,hv⟩,?_⟩
  exact⟨hc.os,hc.tape,hc.output,hc.size,λb hb=>hc.blk b hb λ_ h=>h⟩
end Go.V
