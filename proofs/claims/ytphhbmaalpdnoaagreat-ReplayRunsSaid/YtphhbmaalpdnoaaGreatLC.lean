/- Lemmas of thronglaw29; no conditions. -/
import Derived.SizedLaws
import Derived.OpenShut
import Derived.Deep.Slices
import Derived.RowKit3
import Derived.Carry
import Derived.ProofKit
import Derived.Test.YtphhbmaalpdnoaaGreatKC
set_option linter.unusedSimpArgs false
set_option linter.unusedVariables false
set_option linter.defProp false
open List renaming length→Γ
open Option renaming some→Δ,none→Θ
namespace Go.V
open Go.ChangeShapes Go.WideShapes Go.ChangeAt Go.RowKit Go.Deep
def T0:Nat->Nat->Prop:=λ_ _=>False
def CellsOK(w:World)(a:List AV)(b:List Value):Prop:=Γ a=Γ b/\∀(i:Nat) (y:AV) (v:Value),a[i]?=Δ y->b[i]?=Δ v->VRel w T0 y v/\xq v=true
theorem CellsOK.nil(w:World):CellsOK w [] []:=⟨rfl,λi y v h=>θk⟩
theorem CellsOK.one{w:World}{y:AV}{v:Value}(h:VRel w T0 y v)(c:xq v=true):CellsOK w [y] [v]:=
  ⟨rfl,λi d f a b=>by
    cases i with
    |zero=>simp at a b;subst a b;exact⟨h,c⟩
    |succ i=>simp at a⟩
def CellsOK.app{w:World}{f a:List AV}{k c:List Value}(h:CellsOK w f k)(j:CellsOK w a c):CellsOK w (f++a) (k++c):=by
  refine⟨by simp[h.1,j.1],λi y v d b=>?_⟩;by_cases g:i<Γ f
  . rw[Far g]at d
    rw[Far (by rw[<-h.1];exact g)]at b;exact h.2 i y v d b
  . rw[Fa0 Z]at d
    rw[Fa0 (by rw[<-h.1];omega)]at b;rw[<-h.1]at b;exact j.2 _ y v d b
structure Codec(P:Program)(t:TypeId)(α:Type)(f:α->List AV)(ok:α->Prop):Prop where
  out:∀{H:Type} (enc:TypeId×Value->H) (w:World) (base:Nat) (held:Bool) (fuel:Nat) (cs:List Value) (x:DataW H×List MemPlace),
    DataW.trod enc P w base (λ_=>true) held fuel t cs=Δ x->(∀n∈x.1.weights P t,n<=reachBytes)->∃a:α,ok a/\CellsOK w (f a) cs
def Codec.weaken{P:Program}{t:TypeId}{α:Type}{f:α->List AV}{ok b:α->Prop}(C:Codec P t α f ok)(h:∀a,ok a->b a):Codec P t α f b:=
  ⟨λi w g c d o x j k=>by obtain⟨a,n,l⟩:=C.out i w g c d o x j k;exact⟨a,h a n,l⟩⟩
section
variable {P:Program} {t e:TypeId}
theorem Codec.int{k:IntKind}(c:P.underlying t=Δ (.int k)):Codec P t Int (λn=>[.s (.int k n)]) (λn=>(Lit.int k n).wf=true):=by refine⟨λ{H} enc w base held fuel d x b a=>?_⟩;obtain⟨n,rfl,_,a⟩:=DataW.trod_int c b;exact⟨n,a,CellsOK.one (VRel.s _) rfl⟩
def Codec.byte(d:P.underlying t=Δ (.int .u8)):Codec P t UInt8 (λb=>[.s (.int .u8 b.toNat)]) (λ_=>True):=by
  refine⟨λ{H} enc w base held fuel g x c a=>?_⟩;obtain⟨n,rfl,_,a⟩:=DataW.trod_int d c;have f:0<=n/\n<=255:=by simp[Lit.wf,IntKind.min,IntKind.max,IntKind.signed,IntKind.bits]at a;omega
  refine⟨UInt8.ofNat n.toNat,O,?_⟩;have e:((UInt8.ofNat n.toNat).toNat:Int)=n:=by rw[UInt8.toNat_ofNat'];omega
  rw[e];exact CellsOK.one (VRel.s _) rfl
theorem Codec.slice{α:Type}{f:α->List AV}{ok:α->Prop}{k:Nat}(X:P.underlying t=Δ (.slice e))(hk:P.cellsOf e=k)(h0:0<k)(hb:0<P.bytesOf e)(C:Codec P e α f ok):
    Codec P t (List α) (λl=>[.lst k (l.map f) Θ]) (λl=>(∀a∈l,ok a)/\Γ l<=140737488355328):=by
  refine⟨λ{H} enc w base held fuel cs x hx hw=>?_⟩;skip;rcases open_slice X hx with⟨rfl,rfl⟩|⟨a,len,ε,m,n,D,Pl,rfl,hbase,hl,hmax,L,rfl,Q⟩
  . exact⟨[],⟨(λa h=>ω),φ⟩,CellsOK.one (VRel.nil _ _) rfl⟩
  . simp only[if_true]at L
    subst L;have hlen:len<=140737488355328:=by
      have o:=hw ((((List.range len).map D).length+((List.range (m-len)).map λj=>D (len+j)).length)*P.bytesOf e) (by simp[DataW.weights,X]);simp at o;have u:len<=(len+(m-len))*P.bytesOf e:=by have:len+(m-len)<=(len+(m-len))*P.bytesOf e:=Nat.le_mul_of_pos_right _ hb;omega
      have A:reachBytes<140737488355328:=ψ;omega
    have W:∀i,i<len->∀n∈(D i).weights P e,n<=reachBytes:=by
      intro i z n hn;refine hw n ?_;simp only[DataW.weights,X,Fa7,Faw];right;left;have key:∀(l:List (DataW H)) (d:DataW H),d∈l->n∈d.weights P e->n∈DataW.weightsAll P e l:=by
        intro l;induction l with
        |nil=>intro d R;cases R
        | cons y l T=>
          intro d R K;simp only[DataW.weightsAll,Faw];rcases Fa7.1 R with rfl|R
          . exact .inl K
          . exact .inr (T d R K)
      exact key _ (D i) (Fag.2 ⟨i,Fbe.2 z,rfl⟩) hn
    have each:∀j,j<=len->∃l:List α,Γ l=j/\∀i (h:i<Γ l),ok l[i]/\∃g,w.cells? base (a.add (i*k)) k=Δ g/\CellsOK w (f l[i]) g:=by
      intro j;induction j with
      |zero=>intro _;exact⟨[],rfl,λi h=>θk⟩
      | succ j T=>
        intro S;obtain⟨l,B,E⟩:=T Z;obtain⟨g,o,u⟩:=Q j Z;rw[hk]at o;obtain⟨y,V,U⟩:=C.out enc w base held n g _ u (W j Z);refine⟨l++[y],by simp[B],λi z=>?_⟩;by_cases M:i<Γ l
        . rw[Fb1 M];exact E i M
        . have:i=Γ l:=by simp at z;omega
          subst this;rw[Fef (Fai _)];simp only[Nat.sub_self,Fdc];rw[B];exact⟨V,g,o,U⟩
    obtain⟨l,B,E⟩:=each len (Fai _);refine⟨l,⟨λy hy=>?_,Z⟩,CellsOK.one ?_ rfl⟩
    . obtain⟨i,z,rfl⟩:=Faj hy
      exact(E i z).1
    by_cases hm:m=0
    . have:len=0:=Z
      subst this;have:l=[]:=Fa2 B;subst this;rw[hm];exact VRel.nil _ _
    . obtain⟨b,off,G⟩:=a
      have hspot:G=Θ:=by
        obtain⟨g,o,_⟩:=Q 0 Z;rw[hk]at o;have u:=World.cells?_some o;have A:=u.2.2 0 h0;have I:0<Γ g:=by rw[u.2.1];exact h0
        rw[Fac I]at A;cases G with
        |none=>rfl
        | some s=>
          simp only[Nat.zero_mul,World.cell?,Addr.add,if_true]at A;split at A
          . simp at A
          . cases A
      subst hspot;have hrow:∀i (h:i<Γ l),(f l[i]).length=k:=λi h=>by obtain⟨g,o,u⟩:=(E i h).2;rw[u.1];exact(World.cells?_some o).2.1
      have hget:∀(i:Nat) (c:List AV),(l.map f)[i]?=Δ c->∃h:i<Γ l,c=f l[i]:=λi c h=>by
        rw[Fau]at h;have z:i<Γ l:=by
          by_cases z:i<Γ l
          . exact z
          . rw[Fb4 Z]at h;cases h
        rw[Fac z]at h;simp at h;exact⟨z,h.symm⟩
      have hcell:∀(i:Nat) (c:List AV) (j:Nat) (y:AV),(l.map f)[i]?=Δ c->c[j]?=Δ y->∃v,w.cell? ⟨b,off+(i*k+j),Θ⟩=Δ v/\VRel w T0 y v/\xq v=true:=by
        intro i c j y o u;obtain⟨z,rfl⟩:=hget i c o;obtain⟨g,A,I⟩:=(E i z).2;have h5:=World.cells?_some A;have S:j<Γ g:=by rw[<-I.1];exact(Fa1.1 u).1
        have h6:=h5.2.2 j (by rw[<-h5.2.1];exact S);rw[Fac S]at h6;refine⟨g[j],?_,I.2 j y _ u (Fac S)⟩;rw[<-h6];simp only[wu,Nat.add_assoc]
      have hlen2:(l.map f).length=len:=by simp[B]
      have res:VRel w T0 (.lst k (l.map f) Θ) (.slice (Δ ⟨b,off,Θ⟩) (l.map f).length m):=
        VRel.lst (l.map f) Θ b off m k (λp=>(w.cell? ⟨b,off+p,Θ⟩).getD undef) (by rw[hlen2];exact hl) (λi c h=>by obtain⟨z,rfl⟩:=hget i c h;exact hrow i z) (λ_ h=>ω)
          (λi c j y o u=>by obtain⟨v,A,_⟩:=hcell i c j y o u;rw[A];exact⟨rfl,λh=>h⟩)
          (λi c j y o u=>by obtain⟨v,A,_,I⟩:=hcell i c j y o u;rw[A];exact I)
          (λi c j y o u=>by obtain⟨v,A,I,_⟩:=hcell i c j y o u;rw[A];exact I)
      rw[hlen2]at res;exact res
def wj{H:Type}{l:TypeId×Value->H}{w:World}{d:Nat}{c:Bool}{k:Nat}{A:List Value}{x:DataW H×List MemPlace}{z:Array Field}(u:P.underlying t=Δ (.struct z))
    (D:DataW.trod l P w d (λ_=>true) c k t A=Δ x) (E:∀n∈x.1.weights P t,n<=reachBytes) {α:Type} {g:α->List AV} {ok:α->Prop} (i o s:Nat) {b:Field} (p:z[i]?=Δ b) (I:b.offset=o) (G:P.cellsOf b.type=s)
    (C:Codec P b.type α g ok):∃a,ok a/\CellsOK w (g a) ((A.drop o).take s):=by
  obtain⟨B,n,_,rfl,_,f,h⟩:=DataW.trod_struct u D;have y:=h i b p;have v:i<Γ B:=by rw[f];exact(Fbt.1 p).1
  rw[Fac v,I,G]at y;refine C.out l w d c n _ _ y λm K=>E m ?_;simp only[DataW.weights,u];refine DataW.weights_mem_each (j:=i) ?_ ?_ m K
  . simp[p]
  . simp[v]
def M7{H:Type}{d:TypeId×Value->H}{w:World}{c:Nat}{a:Bool}{b:Nat}{f:List Value}{x:DataW H×List MemPlace}{j:Array Field}(i:P.underlying t=Δ (.struct j))
    (g:DataW.trod d P w c (λ_=>true) a b t f=Δ x):Γ f=P.cellsOf t:=by
  obtain⟨_,_,_,_,h,_⟩:=DataW.trod_struct i g;exact h
theorem CellsOK.cons{w:World}{d b:List AV}{a:List Value}{o s c:Nat}(h:CellsOK w d ((a.drop o).take s))(f:c=o+s)(g:CellsOK w b (a.drop c)):CellsOK w (d++b) (a.drop o):=by
  have e:a.drop o=(a.drop o).take s++a.drop c:=by rw[f,<-Fdb,Fcb]
  rw[e];exact h.app g
def CellsOK.stop{w:World}{a:List Value}{o:Nat}(h:Γ a=o):CellsOK w [] (a.drop o):=by rw[Fcy Z];exact CellsOK.nil w
end
def ykj{H:Type}{i:TypeId×Value->H}{P:Program}{f:Func}{s:ChangeSpec}{wt fresh h u:Bool}{W w:World}{c:Array Value}{v:Value}{B A:List (DataW H)}{a pa pv:List MemPlace}
    (E:DataW.Whole i P f.params.toList s.vars wt W c.toList B A a)
    (n:∀(b:Nat) (o:Nat->Bool) (L:Bool),DataW.TrodAll i P w b o L f.resultTypes.toList (v.resultList f.resultTypes.size) (s.fn H (B++A)).results [])
    (g:∀o:Nat->Bool,(∀p∈a,o p.block=true)->DataW.TrodAll i P w 0 o true f.params.toList c.toList (s.fn H (B++A)).args pa)
    (d:∀o:Nat->Bool,(∀p∈a,o p.block=true)->DataW.TrodVars i P w o s.vars (s.fn H (B++A)).vars pv)
    (k:a=pa++pv) (K:W.keptBut w (·∈a)) (D:∀b off,b<W.heap.size->w.frozen? ⟨b,off,Θ⟩=W.frozen? ⟨b,off,Θ⟩)
    (C:∀(j:Nat) (t:TypeId) (r:Value),f.resultTypes[j]?=Δ t->(v.resultList f.resultTypes.size)[j]?=Δ r->Value.okWide P w .any 0 t r):
    s.post i P f wt fresh h u W c v w:=by
  have z:∀p∈a,p.block<W.heap.size:=E.lt;have hold:∀p∈a,(λb=>decide (b<W.heap.size)) p.block=true:=λp l=>by simpa using z p l
  refine⟨B,A,a,[],pa,pv,E,n _ _ _,g _ hold,d _ hold,World.keptBut_mono (λp l=>⟨l,?_⟩) K,λ_=>?_⟩
  . rw[k,Faw]at l
    exact Or.inr l
  . obtain⟨_,_,_,_,_,G,I⟩:=E
    refine⟨C,_,_,([]++pa)++pv,⟨[]++pa,pv,trodAll_append (g _ (λ_ _=>rfl)) (n _ _ _),d _ (λ_ _=>rfl),rfl,?_,?_⟩,?_⟩
    . intro b off l
      have y:MemPlace.cell b off∈a:=by rw[k];simpa using l
      rw[D b off (z _ y)];exact G b off y
    . intro M
      have:=I M;rw[k]at this;simpa using this
    . intro p l _
      rw[k];simpa using l
def Below.kept{W d:World}(h:Below W.heap.size W d)(a:MemPlace->Prop):W.keptBut d a:=by
  refine⟨h.os,h.output,λi b=>?_⟩;rw[h.block i b];obtain⟨o,f⟩:∃o,W.heap[i]?=Δ o:=⟨_,Fby b⟩
  rw[f];cases o with
  |cells c t fr=>exact⟨rfl,rfl,rfl,λ_ _=>rfl⟩
  |map es clock=>exact .inr ⟨rfl,rfl⟩
  |_=>rfl
def Below.froz{W a:World}(h:Below W.heap.size W a):∀b off,b<W.heap.size->a.frozen? ⟨b,off,Θ⟩=W.frozen? ⟨b,off,Θ⟩:=by intro b off c;simp only[World.frozen?,h.block b c]
def ytt {P : Program} {f : FuncId} {v : Value} {x : AV} {W : World} {R : AV -> Prop} {d : Func} {c : Code} (D : P.funcs[f]? = Δ d) (C : d.body = Δ c) (B : (d.name == "runtime.NumGoroutine") = false)
    (h:ACalls P f [x] Store.empty λr _=>R r) (l:VRel W T0 x v):Calls P f #[v] W λe i=>∃r u,e=.returned u/\R r/\(∃T,VRel i T r u)/\Below W.heap.size W i:=by
  have p:StoreOK Store.empty (λ_ _=>False) (λ_ _=>False) W:=
    ⟨λb x h=>by simp[Store.empty]at h,λb x h=>by simp[Store.empty]at h,λ_ _ h=>h.elim,λ_ _ h=>h.elim,λ_ _ h=>h.elim⟩
  have w:Reads W (λb o=>(λ_ _=>False:BB) b o\/(λ_ _=>False:BB) b o) [x] #[v].toList:=
    Reads.cons (l.mono λb o h=>by rcases h with h|h<;>exact h) Reads.nil
  have j:=h.out (λ_ _=>False) (λ_ _=>False) W #[v] p w;have hrun:(callFunc f #[v]).run P W=.ok (.enter f #[v]) W:=by
    have g : ¬ d.name = "runtime.NumGoroutine" := by simpa using B
    simp[callFunc,run_program,D,g,C]
  rw[hrun]at j;refine Calls.mono j λe i ⟨u,y,r,k,E,A,n,_,a⟩=>⟨r,u,y,A,⟨_,n⟩,?_⟩
  exact⟨a.os,a.tape,a.output,a.size,λb z=>a.blk b z λ_ h=>h⟩
end Go.V
