/- Ground of laws of throngtop: contracts and plain lemmas; no condition beyond the row's own. -/
import Derived.Test.YtphhbmaalpdnoaaGreatKE
set_option linter.unusedSimpArgs false
set_option linter.unusedVariables false
set_option linter.defProp false
namespace Go.V
section
variable {P:Program} {c:Cfg} {st:Store}
structure SrcN(P:Program)(st:Store)(k m n:Nat)(x:AV)(xs:List AV):Prop where
  out:∀(Oth M:Nat->Nat->Prop) (w:World) (xv:Value),StoreOK st Oth M w->VRel w (λb o=>M b o\/Oth b o) x xv->
    (Builtin.lenOf xv).run P w=.ok m w/\∃new:Array Value,Reads w (λb o=>M b o\/Oth b o) xs new.toList/\(∀v∈new.toList,qw v=true)/\new.size=n*k/\(Builtin.firstCells k n xv).run P w=.ok new w
theorem SrcN.obj{k m n o b cp:Nat}{l:List AV}(ho:st.obj b=some (.cells l))(hl:o+n*k<=l.length)(h1:∀y∈(l.drop o).take (n*k),y.one=true):SrcN P st k m n (.s (.slice (some ⟨b,o,none⟩) m cp)) ((l.drop o).take (n*k)):=by
  refine⟨λOth M w xv sto hxv=>?_⟩;have hxv:=VRel.eq_s hxv;subst hxv;obtain⟨cs,e,fr,hb,_,hlen,hrel⟩:=(sto.obj b _ ho).1;have hreads:Reads w (λb o=>M b o\/Oth b o) ((l.drop o).take (n*k)) ((List.range' 0 (n*k)).map λi=>cs.getD (o+i) undef):=by
    refine⟨χ,λi x y hx hy=>?_⟩;have hi:i<n*k:=by have:=(Fa2.1 hx).1;simp at this;omega
    rw[Fb5 hi,Fcu]at hx;simp[hi]at hy;subst hy;refine hrel (o+i) x _ hx ?_;simp[show o+i<cs.size by omega]
  refine⟨by simp[Builtin.lenOf],((List.range' 0 (n*k)).map λi=>cs.getD (o+i) undef).toArray,by simpa using hreads,by simpa using zbh hreads h1,φ,?_⟩;have:=Mg (P:=P) ⟨b,o,none⟩ w (λi=>cs.getD (o+i) undef) (n*k) 0 #[] (λp hp0 hp=>by rw[wx];simp only[World.cell?,hb];have:o+p<cs.size:=θ;simp[this]);simp only[Builtin.firstCells,loadCells];simpa using this
theorem SrcN.rows{k:Nat}{x:AV}{rows:List (List AV)}(h:Ab k (.av x)=some rows):SrcN P st k rows.length rows.length x rows.flatten:=by refine⟨λOth M w xv sto hxv=>?_⟩;obtain⟨h1,h2,new,h3,h4,h5,h6⟩:=Ma (β:=λ_=>0) (x:=.av x) hxv h;exact⟨h1,new,h3,h4,h5,h6 w rfl⟩
theorem zg0{o:Oper}{cl:Call}{t e:TypeId}{x y:Operand}(ho:o.op=.call cl)(hcl:cl.callee=.builtin .copy)(hargs:cl.args=#[x,y])(hat:cl.argTypes[0]?=some t)
    {it ie:TI} (hit:c.I t=some it) (hty:it.ty=.slice e) (hie:c.I e=some ie) {b off d cap m n:Nat} {l xs:List AV} {src:AV} (hsrc:SrcN P st ie.size m n src xs) (hn:n=min m d) (hb:st.obj b=some (.cells l)) (hl:off+n*ie.size<=l.length)
    {R:Ja} (h:R (.s (.int .i64 (n:Int))) (st.sO b (.cells (zp l off xs)))):AEff P c o [.s (.slice (some ⟨b,off,none⟩) d cap),src] st R:=by
  refine⟨λOth M w ρ hI sto hr=>?_⟩;have hops:o.op.operands=#[x,y]:=ψl;rw[hops]at hr;have hr:Reads w (λb o=>M b o\/Oth b o) [.s (.slice (some ⟨b,off,none⟩) d cap),src] [ρ x,ρ y]:=by simpa using hr
  have h1:=VRel.eq_s (hr.2 0 _ (ρ x) rfl rfl);have h2:=hr.2 1 _ (ρ y) rfl rfl;have ht:=ja (hI _ _ hit) hty;have hie:=hI _ _ hie;obtain⟨g1,new,g2,g3,g4,g5⟩:=hsrc.out Oth M w (ρ y) sto h2;obtain⟨⟨cs,e0,fr,hb0,huf,hlen,hrel⟩,hM⟩:=sto.obj b _ hb;obtain⟨w',hw1,hw2⟩:=Kq (P:=P) w b off new.toList 0 w cs e0 fr hb0 (.inl huf) (by rw[Fco,g4];omega) g3;have hund:=yn ht;have hmin:Nat.min m d=n:=hn.symm;have hrun:(execOp ρ o).run P w=.ok (.value (.int .i64 (n:Int))) w':=by simp[execOp,ho,resolve,hcl,invoke,builtin,hargs,Builtin.copy_,hat,hund,h1,g1,hmin,kh hie,g5,hw1,goInt]
  rw[hrun];obtain⟨k1,k2⟩:=Co sto hb g2 (by exact hw2);exact⟨_,_,M,h,.s _,k1,k2⟩
end
end Go.V
