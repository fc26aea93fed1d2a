/- Lemmas of thronglaw29; no conditions. -/
import Derived.Laws.OwnMore
import Derived.Test.YtphhbmaalpdnoaaGreatKD
set_option linter.unusedSimpArgs false
set_option linter.unusedVariables false
set_option linter.defProp false
open List renaming length→Γ
open Option renaming some→Δ,none→Θ
namespace Go.V
section
variable {P:Program} {c:Cfg} {w:World} {st:Store}
def Fa{o:Oper}{t e:TypeId}{x y:Operand}(K:o.op=.makeSlice t x y){it ie:TI}(hit:c.I t=Δ it)(A:it.ty=.slice e)(a:c.I e=Δ ie)(D:Dn ie.ty=false){z:Value}(p:ie.zero=[z])
    {k j:IntKind} {n:Nat} (W:ie.bytes*n<=281474976710656) (hn:n<=9223372036854775807) {R:Ja}
    (h:∀b,Fresh st b->R (.s (.slice (Δ ⟨b,0,Θ⟩) n n)) (st.sO b (.cells (List.replicate n (.s z))))):AEff P c o [.s (.int k (n:Int)),.s (.int j (n:Int))] st R:=by
  refine⟨λf M w ρ L sto hr=>?_⟩;rw[K]at hr;have hr:Reads w (λb o=>M b o\/f b o) [.s (.int k (n:Int)),.s (.int j (n:Int))] [ρ x,ρ y]:=θ1;obtain⟨u,v,C,i,g⟩:=Hg hr;simp only[Fck,and_true]at C;rw[<-C.1]at i;rw[<-C.2]at g;have i:=VRel.eq_s i;have g:=VRel.eq_s g;have V:=jz (L _ _ hit) A;have a:=L _ _ a;obtain⟨d,H,U,S,Q,G,E⟩:=a.info;rcases a.zag d Q H G with⟨q,_⟩|⟨_,q⟩
  . rw[D]at q;cases q
  rw[p]at q;simp only[Fck,and_true]at q;subst q;have B:d.size=1:=by rw[U,<-a.zsz,p];rfl
  have l:z.cells=#[z]:=by rw[p]at E;exact Array.toList_inj.1 E
  have hrun:(execOp ρ o).run P w=.ok (.value (.slice (Δ ⟨w.heap.size,0,Θ⟩) n n)) (w.alloc (.cells (madeCells z.cells (n*1)) e)):=by have:=run_make w t e d z V H G k j (n:Int) (n:Int) Z Z (by rw[S];have X:=Int.ofNat_le.2 W;exact X) Z;rw[B,Faz]at this;unfold execOp;rw[K];dsimp only;rw[i,g];simp only[Sem.run_bind,this,Result.andThen_ok,Sem.run_pure]
  rw[hrun,l,Fem];obtain⟨h3,h4,h5⟩:=Hl sto (madeCells #[z] n) e (by
    rw[toList_madeCells_one];have:=Reads.map_s (w:=w) (T:=λb o=>M b o\/f b o) (List.replicate n z)
    rwa [List.map_replicate]at this)
  exact⟨_,_,_,h _ h3,.s _,h4,h5⟩
end
end Go.V
