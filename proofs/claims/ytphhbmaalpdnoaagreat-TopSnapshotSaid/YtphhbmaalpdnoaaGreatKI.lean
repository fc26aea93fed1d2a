/- Ground of laws of throngtop: contracts and plain lemmas; no condition beyond the row's own. -/
import Derived.Laws.OwnMore
import Derived.Test.YtphhbmaalpdnoaaGreatKD
set_option linter.unusedSimpArgs false
set_option linter.unusedVariables false
set_option linter.defProp false
namespace Go.V
section
variable {P:Program} {c:Cfg} {w:World} {st:Store}
theorem I7{o:Oper}{t e:TypeId}{x y:Operand}(ho:o.op=.makeSlice t x y){it ie:TI}(hit:c.I t=some it)(hty:it.ty=.slice e)(hie:c.I e=some ie)(hag:Cy ie.ty=false){z:Value}(hz:ie.zero=[z])
    {k k':IntKind} {n:Nat} (hb:ie.bytes*n<=281474976710656) (hn:n<=9223372036854775807) {R:Ja}
    (h:∀b,Fresh st b->R (.s (.slice (some ⟨b,0,none⟩) n n)) (st.sO b (.cells (List.replicate n (.s z))))):AEff P c o [.s (.int k (n:Int)),.s (.int k' (n:Int))] st R:=by
  refine⟨λOth M w ρ hI sto hr=>?_⟩;rw[ho]at hr;have hr:Reads w (λb o=>M b o\/Oth b o) [.s (.int k (n:Int)),.s (.int k' (n:Int))] [ρ x,ρ y]:=θr;obtain⟨u,v,he,h1,h2⟩:=O0 hr;simp only[Fcf,and_true]at he;rw[<-he.1]at h1;rw[<-he.2]at h2;have h1:=VRel.eq_s h1;have h2:=VRel.eq_s h2;have ht:=ja (hI _ _ hit) hty;have hie:=hI _ _ hie;obtain⟨inf,i1,i2,i3,z0,i4,i5⟩:=hie.info;rcases hie.zag inf z0 i1 i4 with⟨q,_⟩|⟨_,q⟩
  · rw[hag]at q;cases q
  rw[hz]at q;simp only[Fcf,and_true]at q;subst q;have hs1:inf.size=1:=by rw[i2,<-hie.zsz,hz];rfl
  have hzc:z.cells=#[z]:=by rw[hz]at i5;exact Array.toList_inj.1 i5
  have hrun:(execOp ρ o).run P w=.ok (.value (.slice (some ⟨w.heap.size,0,none⟩) n n)) (w.alloc (.cells (madeCells z.cells (n*1)) e)):=by have:=run_make w t e inf z ht i1 i4 k k' (n:Int) (n:Int) θ θ (by rw[i3];have h9:=Int.ofNat_le.2 hb;exact h9) θ;rw[hs1,Fa8]at this;unfold execOp;rw[ho];dsimp only;rw[h1,h2];simp only[Sem.run_bind,this,Result.andThen_ok,Sem.run_pure]
  rw[hrun,hzc,Nat.mul_one];obtain⟨h3,h4,h5⟩:=Hg sto (madeCells #[z] n) e (by
    rw[toList_madeCells_one];have:=Reads.map_s (w:=w) (T:=λb o=>M b o\/Oth b o) (List.replicate n z)
    rwa [List.map_replicate]at this)
  exact⟨_,_,_,h _ h3,.s _,h4,h5⟩
end
end Go.V
