/- Lemmas of thronglaw29; no conditions. -/
import Derived.Test.YtphhbmaalpdnoaaGreatKE
set_option linter.unusedSimpArgs false
set_option linter.unusedVariables false
set_option linter.defProp false
open List renaming length→Γ
open Option renaming some→Δ,none→Θ
namespace Go.V
section
variable {P:Program} {c:Cfg} {st:Store}
structure SrcN(P:Program)(st:Store)(k m n:Nat)(x:AV)(xs:List AV):Prop where
  out:∀(Oth M:BB) (w:World) (xv:Value),StoreOK st Oth M w->VRel w (λb o=>M b o\/Oth b o) x xv->
    (Builtin.lenOf xv).run P w=.ok m w/\∃new:Array Value,Reads w (λb o=>M b o\/Oth b o) xs new.toList/\(∀v∈new.toList,xq v=true)/\new.size=n*k/\(Builtin.firstCells k n xv).run P w=.ok new w
theorem SrcN.obj{k m n o b cp:Nat}{l:List AV}(z:st.obj b=Δ (.cells l))(E:o+n*k<=Γ l)(B:∀y∈(l.drop o).take (n*k),y.one=true):SrcN P st k m n (.s (.slice (Δ ⟨b,o,Θ⟩) m cp)) ((l.drop o).take (n*k)):=by
  refine⟨λh M w C sto a=>?_⟩;have a:=VRel.eq_s a;subst a;obtain⟨f,e,G,A,_,t,d⟩:=(sto.obj b _ z).1;have hreads:Reads w (λb o=>M b o\/h b o) ((l.drop o).take (n*k)) ((List.range' 0 (n*k)).map λi=>f.getD (o+i) undef):=by
    refine⟨χ,λi x y g j=>?_⟩;have u:i<n*k:=by have:=(Fa1.1 g).1;simp at this;omega
    rw[Fb2 u,Fct]at g;simp[u]at j;subst j;refine d (o+i) x _ g ?_;simp[show o+i<f.size by omega]
  refine⟨by simp[Builtin.lenOf],((List.range' 0 (n*k)).map λi=>f.getD (o+i) undef).toArray,by simpa using hreads,by simpa using zcv hreads B,φ,?_⟩;have:=Lo (P:=P) ⟨b,o,Θ⟩ w (λi=>f.getD (o+i) undef) (n*k) 0 #[] (λp v D=>by rw[wu];simp only[World.cell?,A];have:o+p<f.size:=Z;simp[this]);simp only[Builtin.firstCells,loadCells];simpa using this
theorem SrcN.rows{k:Nat}{x:AV}{rows:List (List AV)}(h:vw k (.av x)=Δ rows):SrcN P st k (Γ rows) (Γ rows) x rows.flatten:=by refine⟨λj M w l sto b=>?_⟩;obtain⟨i,n,a,g,f,e,d⟩:=I8 (β:=λ_=>0) (x:=.av x) b h;exact⟨i,a,g,f,e,d w rfl⟩
def zif{o:Oper}{k:Call}{t e:TypeId}{x y:Operand}(ho:o.op=.call k)(hcl:k.callee=.builtin .copy)(hargs:k.args=#[x,y])(C:k.argTypes[0]?=Δ t)
    {it ie:TI} (hit:c.I t=Δ it) (A:it.ty=.slice e) (a:c.I e=Δ ie) {b off d i m n:Nat} {l xs:List AV} {src:AV} (f:SrcN P st ie.size m n src xs) (T:n=min m d) (G:st.obj b=Δ (.cells l)) (hl:off+n*ie.size<=Γ l)
    {R:Ja} (h:R (.s (.int .i64 (n:Int))) (st.sO b (.cells (zu l off xs)))):AEff P c o [.s (.slice (Δ ⟨b,off,Θ⟩) d i),src] st R:=by
  refine⟨λj M w ρ H sto g=>?_⟩;have hops:o.op.operands=#[x,y]:=ψw;rw[hops]at g;have g:Reads w (λb o=>M b o\/j b o) [.s (.slice (Δ ⟨b,off,Θ⟩) d i),src] [ρ x,ρ y]:=by simpa using g
  have V:=VRel.eq_s (g.2 0 _ (ρ x) rfl rfl);have U:=g.2 1 _ (ρ y) rfl rfl;have S:=jz (H _ _ hit) A;have a:=H _ _ a;obtain⟨g1,p,g2,g3,X,W⟩:=f.out j M w (ρ y) sto U;obtain⟨⟨cs,e0,fr,B,z,E,D⟩,hM⟩:=sto.obj b _ G;obtain⟨K,v,u⟩:=Kb (P:=P) w b off p.toList 0 w cs e0 fr B (.inl z) (by rw[Fco,X];omega) g3;have hund:=yy S;have hmin:Nat.min m d=n:=T.symm;have hrun:(execOp ρ o).run P w=.ok (.value (.int .i64 (n:Int))) K:=by simp[execOp,ho,resolve,hcl,invoke,builtin,hargs,Builtin.copy_,C,hund,V,g1,hmin,vx a,W,v,goInt]
  rw[hrun];obtain⟨Q,L⟩:=Cp sto G g2 (by exact u);exact⟨_,_,M,h,.s _,Q,L⟩
end
end Go.V
