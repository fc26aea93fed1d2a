/- Ground of laws of thronglaw25: contracts and plain lemmas; no condition beyond the row's own. -/
import Derived.Test.YtdfpifbbcigelaaGreatKE
set_option linter.unusedSimpArgs false
set_option linter.unusedVariables false
namespace Go.V
section
variable {P:Program} {c:Cfg} {st:Store}
structure SrcOK(P:Program)(st:Store)(k m:Nat)(x:AV)(xs:List AV):Prop where
  out:∀(Oth M:Nat->Nat->Prop) (w:World) (xv:Value),StoreOK st Oth M w->VRel w (λb o=>M b o\/Oth b o) x xv->
    (Builtin.lenOf xv).run P w=.ok m w/\∃new:Array Value,Reads w (λb o=>M b o\/Oth b o) xs new.toList/\(∀v∈new.toList,qo v=true)/\new.size=m*k/\∀w',w'.heap=w.heap->(Builtin.firstCells k m xv).run P w'=.ok new w'
theorem SrcOK.obj{k m o b cp:Nat}{l:List AV}(ho:st.obj b=some (.cells l))(hl:o+m*k<=l.length)(h1:∀y∈(l.drop o).take (m*k),y.one=true):SrcOK P st k m (.s (.slice (some ⟨b,o,none⟩) m cp)) ((l.drop o).take (m*k)):=by
  refine⟨λOth M w xv sto hxv=>?_⟩
  have hxv:=VRel.eq_s hxv
  subst hxv
  obtain⟨cs,e,fr,hb,_,hlen,hrel⟩:=(sto.obj b _ ho).1
  have hreads:Reads w (λb o=>M b o\/Oth b o) ((l.drop o).take (m*k)) ((List.range' 0 (m*k)).map λi=>cs.getD (o+i) undef):=by
    refine⟨by simp;omega,λi x y hx hy=>?_⟩
    have hi:i<m*k:=by
      have:=(Faf.1 hx).1
      simp at this;omega
    rw[Fb7 hi,Fcj]at hx
    simp[hi]at hy
    subst hy
    refine hrel (o+i) x _ hx ?_
    rw[Fa5 (by omega)]
    simp[show o+i<cs.size by omega]
  refine⟨by simp[Builtin.lenOf],((List.range' 0 (m*k)).map λi=>cs.getD (o+i) undef).toArray,by simpa using hreads,by simpa using lw hreads h1,by simp,λw' hw=>?_⟩
  have:=Ir (P:=P) ⟨b,o,none⟩ w' (λi=>cs.getD (o+i) undef) (m*k) 0 #[] (λp hp0 hp=>by
    rw[ve,V8 hw]
    simp only[World.cell?,hb]
    have:o+p<cs.size:=by omega
    simp[this])
  simp only[Builtin.firstCells,loadCells]
  simpa using this
theorem ut{e:TypeId}{ie:TI}(hie:c.I e=some ie){b n cap:Nat}{l:List AV}{x:AV}{m:Nat}{xs:List AV}(ho:st.obj b=some (.cells l))(hcap:cap*ie.size<=l.length)(hn:n<=cap)
    (hx:SrcOK P st ie.size m x xs) (hroom:room (n+m) ie.bytes) {K:Ja}
    (h1:n+m<=cap->K (.s (.slice (some ⟨b,0,none⟩) (n+m) cap)) (st.sO b (.cells (zu l (n*ie.size) xs))))
    (h2:cap<n+m->∀b' cap',Fresh st b'->n+m<=cap'->cap'<=9223372036854775807->K (.s (.slice (some ⟨b',0,none⟩) (n+m) cap')) (st.sO b' (.cells (l.take (n*ie.size)++xs++List.replicate ((cap'-(n+m))*ie.size) .any)))):
    AppX P c st e (.s (.slice (some ⟨b,0,none⟩) n cap)) x K:=by
  refine⟨⟨ie,hie⟩,λie' hie' Oth M w sv xv argTypes ty args t sto hs hxv hat ht1 hu hti h0 h1'=>?_⟩
  rw[hie]at hie'
  cases hie'
  have hs:=VRel.eq_s hs
  subst hs
  have A:AppArgs P c argTypes args t e ie (some ⟨b,0,none⟩) n cap xv:=⟨hat,ht1,hu,hti,h0,h1'⟩
  obtain⟨hl1,new,hnew,hone,hnsz,hfc⟩:=hx.out Oth M w xv sto hxv
  have hnn:n*ie.size<=l.length:=Fda (Fa7 _ hn) hcap
  by_cases hc:n+m<=cap
  · obtain⟨⟨cs,e0,fr,hb0,huf,hlen,hrel⟩,hM⟩:=sto.obj b _ ho
    have hfit:n*ie.size+new.toList.length<=cs.size:=by
      rw[Fb4,hnsz,<-Fb2,<-hlen]
      exact Fda (Fa7 _ hc) hcap
    obtain⟨w',hw1,hw2⟩:=Hd (P:=P) w b (n*ie.size) new.toList 0 w cs e0 fr hb0 (.inl huf) hfit hone
    have hrun:=Kv (w':=w') ty A hl1 (hfc w rfl) hc (λa ha=>by
      cases ha
      rw[ve,Fbd];exact hw1) (λh=>by cases h)
    obtain⟨k1,k2⟩:=Ai sto ho hnew hw2
    exact⟨_,_,hrun,_,_,M,h1 hc,.s _,k1,k2⟩
  · have hc:cap<n+m:=by omega
    obtain⟨old,hold1,hold2,hold3⟩:=pp (P:=P) (cap:=cap) (sto.obj b _ ho).1 hnn
    obtain⟨newCap,rest,g1,g0,g2,g3⟩:=H3 ty A hl1 (hfc w.drew rfl) (hold3 w.drew rfl) hc hroom
    have gd:Grow w w.drew:=Grow.drew w
    have sto1:=sto.grow gd
    obtain⟨f1,f2,f3⟩:=D8 sto1 (old++new++rest) e (l:=l.take (n*ie.size)++xs++List.replicate rest.size .any) (by
      rw[Fbb,Fbb]
      refine((hold1.append hnew).append ⟨by simp,λi x y hx hy=>?_⟩).keep (gd.keeps _)
      rw[Fb3]at hx
      split at hx
      · cases hx;exact .any _
      · cases hx)
    have e1:w.drew.heap.size=w.heap.size:=rfl
    rw[g2]at f2
    exact⟨_,_,g3,_,_,_,h2 hc _ newCap f1 g1 g0,.s _,f2,(gd.chg M).trans f3⟩
end
section
variable {P:Program} {c:Cfg} {st:Store}
theorem ygj{e:TypeId}{ie:TI}(hie:c.I e=some ie){a:Option Addr}{x:AV}{m:Nat}{xs:List AV}(hx:SrcOK P st ie.size m x xs)(hroom:room m ie.bytes)(hne:0<m){K:Ja}
    (h2:∀b' cap',Fresh st b'->m<=cap'->cap'<=9223372036854775807->K (.s (.slice (some ⟨b',0,none⟩) m cap')) (st.sO b' (.cells (xs++List.replicate ((cap'-m)*ie.size) .any)))):
    AppX P c st e (.s (.slice a 0 0)) x K:=by
  refine⟨⟨ie,hie⟩,λie' hie' Oth M w sv xv argTypes ty args t sto hs hxv hat ht1 hu hti h0 h1'=>?_⟩
  rw[hie]at hie'
  cases hie'
  have hs:=VRel.eq_s hs
  subst hs
  have A:AppArgs P c argTypes args t e ie a 0 0 xv:=⟨hat,ht1,hu,hti,h0,h1'⟩
  obtain⟨hl1,new,hnew,hone,hnsz,hfc⟩:=hx.out Oth M w xv sto hxv
  obtain⟨newCap,rest,g1,g0,g2,g3⟩:=H3 (old:=#[]) ty A hl1 (hfc w.drew rfl) (by cases a<;>simp[Builtin.firstCells,loadCells,loadCellsFrom]) (by omega) (by simpa using hroom)
  have gd:Grow w w.drew:=Grow.drew w
  have sto1:=sto.grow gd
  obtain⟨f1,f2,f3⟩:=D8 sto1 (#[]++new++rest) e (l:=xs++List.replicate rest.size .any) (by
    rw[Fbb,Fbb]
    refine((show Reads w _ xs ([]++new.toList)from hnew).append ⟨by simp,λi x y hx hy=>?_⟩).keep (gd.keeps _)
    rw[Fb3]at hx
    split at hx
    · cases hx;exact .any _
    · cases hx)
  rw[g2]at f2
  simp only[Fbd]at g1 g3 f2
  exact⟨_,_,g3,_,_,_,h2 _ newCap f1 g1 g0,.s _,f2,(gd.chg M).trans f3⟩
theorem zac{o:Oper}{cl:Call}{t e:TypeId}{x:Operand}(ho:o.op=.call cl)(hcl:cl.callee=.builtin .clear)(hargs:cl.args=#[x])(hat:cl.argTypes[0]?=some t)
    {it ie:TI} (hit:c.I t=some it) (hty:it.ty=.slice e) (hie:c.I e=some ie) {b off m cap:Nat} {l:List AV} (hm:m=1) (hb:st.obj b=some (.cells l)) (hn:off+ie.size<=l.length) (hone:∀v∈ie.zero,qo v=true)
    {R:Ja} (h:R (.tup []) (st.sO b (.cells (zu l off (ie.zero.map AV.s))))):AEff P c o [.s (.slice (some ⟨b,off,none⟩) m cap)] st R:=by
  subst hm
  refine⟨λOth M w ρ hI sto hr=>?_⟩
  have hops:o.op.operands=#[x]:=by rw[ho];simp[Op.operands,Call.operands,hcl,hargs]
  rw[hops]at hr
  have hr:Reads w (λb o=>M b o\/Oth b o) [.s (.slice (some ⟨b,off,none⟩) 1 cap)] [ρ x]:=by simpa using hr
  obtain⟨u,he,h1⟩:=Iz hr
  simp only[Fcr,and_true]at he
  rw[<-he]at h1
  have h1:=VRel.eq_s h1
  have ht:=xf (hI _ _ hit) hty
  have hie:=hI _ _ hie
  obtain⟨⟨cs,e0,fr,hb0,huf,hlen,hrel⟩,hM⟩:=sto.obj b _ hb
  obtain⟨z,hz1,hz2⟩:=Iq (P:=P) hie w
  have hzs:z.cells.size=ie.size:=by rw[<-hie.zsz,<-hz2];simp
  have hzc:(Builtin.zeroCells z.cells 1).toList=ie.zero:=by
    rw[<-hz2]
    unfold Builtin.zeroCells
    apply Fdr
    · simp
    · intro i h1 h2
      simp at h1 h2⊢
      rw[Nat.mod_eq_of_lt h1,getElem!_pos z.cells i h1]
  obtain⟨w',hw1,hw2⟩:=Hd (P:=P) w b off ie.zero 0 w cs e0 fr hb0 (.inl huf) (by rw[hie.zsz,<-hlen];omega) hone
  have hund:=yf (P:=P) ht
  have hrun:(execOp ρ o).run P w=.ok (.value (.tuple #[])) w':=by
    simp[execOp,ho,resolve,hcl,invoke,builtin,hargs,Builtin.clear_,hat,hund,h1,hz1,hzc,hw1]
  rw[hrun]
  obtain⟨k1,k2⟩:=Ai sto hb (Reads.map_s (w:=w) (T:=λb o=>M b o\/Oth b o) ie.zero) (by rw[Fel]at hw2;exact hw2)
  exact⟨_,_,M,h,j8 Reads.nil,k1,k2⟩
theorem yg5{o:Oper}{t e:TypeId}{x lo hi mx:Operand}(ho:o.op=.slice t x (some lo) (some hi) (some mx)){it ie:TI}(hit:c.I t=some it)(hty:it.ty=.slice e)(hie:c.I e=some ie)
    {b off len cap i j m:Nat} {k k' k'':IntKind} (h1:i<=j) (h2:j<=m) (h3:m<=cap) (h4:i<m) {R:Ja} (h:R (.s (.slice (some ⟨b,off+i*ie.size,none⟩) (j-i) (m-i))) st):
    AEff P c o [.s (.slice (some ⟨b,off,none⟩) len cap),.s (.int k (i:Int)),.s (.int k' (j:Int)),.s (.int k'' (m:Int))] st R:=by
  refine⟨λOth M w ρ hI sto hr=>?_⟩
  have hops:o.op.operands=#[x,lo,hi,mx]:=by rw[ho];simp[Op.operands]
  rw[hops]at hr
  have hr:Reads w (λb o=>M b o\/Oth b o) [.s (.slice (some ⟨b,off,none⟩) len cap),.s (.int k (i:Int)),.s (.int k' (j:Int)),.s (.int k'' (m:Int))] [ρ x,ρ lo,ρ hi,ρ mx]:=by simpa using hr
  have e1:=VRel.eq_s (hr.2 0 _ (ρ x) rfl rfl)
  have e2:=VRel.eq_s (hr.2 1 _ (ρ lo) rfl rfl)
  have e3:=VRel.eq_s (hr.2 2 _ (ρ hi) rfl rfl)
  have e4:=VRel.eq_s (hr.2 3 _ (ρ mx) rfl rfl)
  have ht:=xf (hI _ _ hit) hty
  have hie:=hI _ _ hie
  have hm:¬m=i:=by omega
  have hund:=yf (P:=P) ht
  have hrun:(execOp ρ o).run P w=.ok (.value (.slice (some ⟨b,off+i*ie.size,none⟩) (j-i) (m-i))) w:=by
    simp[execOp,ho,e1,e2,e3,e4,Instr.sliceAt,Instr.slice,hund,Instr.sliceBounds,Instr.sliceBound,asIntOf,h1,h2,h3,jh hie,hm,ve]
  rw[hrun]
  exact⟨_,st,M,h,.s _,sto,Chg.refl _ _⟩
end
section
variable {α:Type} {f:α->List AV} {k:Nat}
end
theorem ya9{g:Gnd}(hg:zn g){t:Nat}(ht:(t:Int)<g.W*g.H){p:Vc}(hp:qm p.1 p.2){r:Int}(hr:0<r/\r<=81920)(h:xm g t p r):near (tx g t+32768,ty g t+32768) p 147456=true:=by
 have hb:=Ie hg ht
 obtain⟨h3,h4⟩:=hp
 rw[Ok (by dsimp only;omega) (by dsimp only;omega) (by omega) (by omega) (by decide)]
 dsimp only
 unfold xm at h
 have o1:0<=off p.1 (tx g t):=by unfold off;split<;>(try split)<;>omega
 have o2:0<=off p.2 (ty g t):=by unfold off;split<;>(try split)<;>omega
 have d1:-(32768+off p.1 (tx g t))<=tx g t+32768-p.1/\tx g t+32768-p.1<=32768+off p.1 (tx g t):=by unfold off;split<;>(try split)<;>omega
 have d2:-(32768+off p.2 (ty g t))<=ty g t+32768-p.2/\ty g t+32768-p.2<=32768+off p.2 (ty g t):=by unfold off;split<;>(try split)<;>omega
 generalize off p.1 (tx g t)=ex at*
 generalize off p.2 (ty g t)=ey at*
 generalize tx g t+32768-p.1=dx at*
 generalize ty g t+32768-p.2=dy at*
 have hrr:r*r<=81920*81920:=Fbk hr.2 hr.2 (by omega) (by decide)
 have ex2:=Fay o1 o1
 have ey2:=Fay o2 o2
 have bx:ex<81920:=Ik o1 (by decide) (by omega)
 have by':ey<81920:=Ik o2 (by decide) (by omega)
 have sq:∀d m:Int,0<=m->-m<=d->d<=m->d*d<=m*m:=λd m hm h1 h2=>by
  by_cases hd:0<=d
  ·exact Fbk h2 h2 hd hm
  ·have:(-d)*(-d)<=m*m:=Fbk (by omega) (by omega) (by omega) hm
   rwa [Fdg]at this
 have s1:=sq dx (32768+ex) (by omega) d1.1 d1.2
 have s2:=sq dy (32768+ey) (by omega) d2.1 d2.2
 have e1:(32768+ex)*(32768+ex)=1073741824+65536*ex+ex*ex:=by
  rw[Fd5,Fdt,Fdt,Fcm ex 32768];omega
 have e2:(32768+ey)*(32768+ey)=1073741824+65536*ey+ey*ey:=by
  rw[Fd5,Fdt,Fdt,Fcm ey 32768];omega
 rw[e1]at s1
 rw[e2]at s2
 refine decide_eq_true ?_
 omega
instance(a b:Bld):Decidable (xu a b):=inferInstanceAs (Decidable (_/\_))
def bdB(w:Wld)(c:Cmd):Bld:=⟨w.next,c.P,c.T.tmod w.G.W,c.T.tdiv w.G.W,c.W,c.H⟩
open Classical in
noncomputable def qs(g:Gnd)(l:List Bld)(b:Bld):Int:=if¬onP g b then 3 else if∃x∈l,xu x b then 12 else if¬Az g b then 5 else if 256<=l.length then 4 else 0
def Dr(w:Wld)(b:Bld):Prop:=∃t:Nat,((t:Int)<w.G.W*w.G.H/\jt w.G b t)/\∃u∈w.U,u.inn=0/\xm w.G t u.pos (zp u.kind)
open Classical in
noncomputable def bdE(w:Wld)(c:Cmd):Int:=if¬(0<=c.T/\c.T<w.G.W*w.G.H)then 3 else if 1099511627776<=w.next then 4 else if qs w.G w.B (bdB w c)=0 then(if Dr w (bdB w c)then 5 else 0)else qs w.G w.B (bdB w c)
def bdW(w:Wld)(c:Cmd):Wld:={w with B:=w.B++[bdB w c],next:=w.next+1}
def yf4:Bld:=⟨0,0,0,0,0,0⟩
def Cd(l:List Bld)(id:Int):Option Nat:=l.findIdx? λb=>decide (b.id=id)
def drE(w:Wld)(c:Cmd):Int:=match Cd w.B c.N with|none=>3|some i=>if(w.B.getD i yf4).owner=c.P then 0 else 6
def drW(w:Wld)(c:Cmd):Wld:=match Cd w.B c.N with|none=>w|some i=>{w with B:=w.B.eraseIdx i}
section
variable {k i:Nat}
theorem rg{α:Type}{f:α->List AV}(hf:∀x,(f x).length=k){l:List α}(hi:i<l.length)(L:List AV):
  zu ((rws f l).flatten++L) (i*k) (rws f (l.drop (i+1))).flatten=(rws f (l.eraseIdx i)).flatten++(f l[l.length-1]++L):=by
 have e1:(rws f l).flatten++L=(rws f (l.take i)).flatten++((rws f (l.drop i)).flatten++L):=by
  rw[<-Fas,<-F9,Fb8]
 have h1:(rws f (l.take i)).flatten.length=i*k:=by rw[kr hf,Fao,Fdu (by omega)]
 rw[e1,Cn h1,List.eraseIdx_eq_take_drop_succ,F9]
 simp only[Fas]
 congr 1
 congr 1
 have h2:(rws f (l.drop (i+1))).flatten.length=(l.length-(i+1))*k:=by rw[kr hf,Fck]
 have e2:l.drop i=(l.drop i).dropLast++[l[l.length-1]]:=by
  have hne:l.drop i≠[]:=by
   intro h
   have:=congrArg List.length h
   rw[Fck]at this
   simp at this;omega
  have h:=(Fed hne).symm
  have e:(l.drop i).getLast hne=l[l.length-1]:=by
   have e4:i+((l.drop i).length-1)=l.length-1:=by rw[Fck];omega
   rw[List.getLast_eq_getElem,List.getElem_drop]
   simp only[e4]
  rw[e]at h
  exact h
 have e3:(rws f (l.drop i)).flatten=(rws f (l.drop i).dropLast).flatten++f l[l.length-1]:=by
  conv=>lhs;rw[e2]
  rw[F9]
  show _++(f _++[])=_
  rw[Fbp]
 have h3:(rws f (l.drop i).dropLast).flatten.length=(l.length-(i+1))*k:=by
  rw[kr hf,List.length_dropLast,Fck]
  congr 1
 rw[e3,h2,<-h3,Fas,Fd8]
theorem rh{α:Type}{l:List α}(hi:i<l.length):(l.eraseIdx i).length=l.length-1:=by rw[List.length_eraseIdx,if_pos hi]
theorem rn{α:Type}{f:α->List AV}(hf:∀x,(f x).length=k){l:List α}(hi:i<=l.length)(L:List AV):(((rws f l).flatten++L).drop (i*k)).take ((l.length-i)*k)=(rws f (l.drop i)).flatten:=by
 have e1:(rws f l).flatten++L=(rws f (l.take i)).flatten++((rws f (l.drop i)).flatten++L):=by
  rw[<-Fas,<-F9,Fb8]
 have h1:(rws f (l.take i)).flatten.length=i*k:=by rw[kr hf,Fao,Fdu (by omega)]
 have h2:(rws f (l.drop i)).flatten.length=(l.length-i)*k:=by rw[kr hf,Fck]
 rw[e1,<-h1,Fd8,<-h2,List.take_left]
end
section
variable {r P N:Int} {w:Wld}
def Cx(m r:Int):Prop:=0<=r/\r<=9223372036854775807/\r*r<=m/\(r=9223372036854775807\/m<(r+1)*(r+1))
theorem yaf{m:Int}(h:Cx m r){k:Int}(hk:0<=k)(hk2:k<9223372036854775807):k<r↔(k+1)*(k+1)<=m:=by
 obtain⟨h0,h1,h2,h3⟩:=h
 constructor
 ·intro hkr
  exact Int.le_trans (Fbk (show k+1<=r by omega) (show k+1<=r by omega) (by omega) h0) h2
 ·intro hm
  refine Int.not_le.1 λhle=>?_
  rcases h3 with h3|h3
  ·omega
  ·have:=Fbk (show r+1<=k+1 by omega) (show r+1<=k+1 by omega) (by omega) (by omega)
   omega
theorem yae{m r':Int}(h:Cx m r)(h':Cx m r'):r=r':=by
 obtain⟨h0,h1,h2,h3⟩:=h
 obtain⟨g0,g1,g2,g3⟩:=h'
 have a:¬r<r':=λhlt=>by
  rcases h3 with h3|h3
  ·omega
  ·have:=Fbk (show r+1<=r' by omega) (show r+1<=r' by omega) (by omega) g0
   omega
 have b:¬r'<r:=λhlt=>by
  rcases g3 with h3|h3
  ·omega
  ·have:=Fbk (show r'+1<=r by omega) (show r'+1<=r by omega) (by omega) h0
   omega
 omega
def Ce(p q:Vc):Prop:=17180131329<=sqr (qq p q)
instance(p q:Vc):Decidable (Ce p q):=inferInstanceAs (Decidable (_<=_))
theorem zv4{p q:Vc}(h:Cx (sqr (qq p q)) r):131072<r↔Ce p q:=by
 have:=yaf h (k:=131072) (by decide) (by decide)
 unfold Ce
 exact this
def jv(w:Wld)(P N:Int):Int:=if xj w P N=0 then(if xi (uAt w N).kind=0 then 7 else 0)else xj w P N
def I5(x u:Unt):Int:=if 0<xi u.kind then 7 else if Ce u.pos x.pos then 8 else 0
def ldA(w:Wld)(P N id:Int):Int:=if xj w P id=0 then I5 (uAt w N) (uAt w id)else xj w P id
def ldE(w:Wld)(c:Cmd):Int:=if jv w c.P c.N=0 then(if jd (ldA w c.P c.N) c.U=0 then(if xi (uAt w c.N).kind<((zv w.U c.N).length:Int)+(c.U.length:Int)then 4 else 0)else jd (ldA w c.P c.N) c.U)else jv w c.P c.N
def ldU(n:Int)(u:Unt):Unt:={u with pos:=(0,0),goal:=-1,next:=-1,stuck:=0,inn:=n,state:=0}
def ldW(w:Wld)(c:Cmd):Wld:={w with U:=qk c.U (ldU c.N) w.U}
theorem nu{id:Int}(h:ldA w P N id=0):xj w P id=0/\I5 (uAt w N) (uAt w id)=0:=by
 unfold ldA at h
 by_cases e:xj w P id=0
 ·rw[if_pos e]at h;exact⟨e,h⟩
 ·rw[if_neg e]at h;exact absurd h e
theorem bg(h:jv w P N=0):xj w P N=0/\xi (uAt w N).kind≠0:=by
 unfold jv at h
 by_cases e:xj w P N=0
 ·rw[if_pos e]at h
  refine⟨e,λe2=>?_⟩
  rw[if_pos e2]at h
  cases h
 ·rw[if_neg e]at h;exact absurd h e
theorem yau(hm:z7 w){i:Nat}(hi:i<w.U.length)(h0:w.U[i].id≠0):((zv w.U w.U[i].id).length:Int)<=xi w.U[i].kind:=by
 have hr:yg w.U:=hm.1.2.1
 cases hl:zv w.U w.U[i].id with
 |nil=>have:=(I8 w.U[i].kind).1;simpa using this
 |cons a l=>
  have ha:a∈zv w.U w.U[i].id:=by rw[hl];simp
  unfold zv at ha
  obtain⟨u,hu,_⟩:=Fac.1 ha
  obtain⟨hu,he⟩:=Fbo.1 hu
  have he:u.inn=w.U[i].id:=by simpa using he
  obtain⟨x,hx,e1,_,e3,_⟩:=hm.2.2 u hu (by rw[he];exact h0)
  obtain⟨k,hk,rfl⟩:=Fai hx
  have hki:k=i:=by
   by_cases h1:k<i
   ·have:=D6 hr h1 hi;omega
   ·by_cases h2:i<k
    ·have:=D6 hr h2 hk;omega
    ·omega
  subst hki
  rw[he,hl]at e3
  exact e3
theorem zx7{n:Int}{q m:Nat}(h0:0<=n)(h1:n<2^m)(h2:n+q*2^m<18446744073709551616):xp .or .u64 (q*2^m) n=q*2^m+n:=by
 obtain⟨a,rfl⟩:=Fca h0
 have e:((q:Int)*2^m)=((q*2^m:Nat):Int):=by simp
 have h1':a<2^m:=by exact_mod_cast h1
 rw[e]at h2⊢
 have h3:a+q*2^m<18446744073709551616:=by omega
 rw[(ue (q*2^m) a (by omega) (by omega)).2,Nat.or_comm,mg a q m h1',Bc (by omega) (by omega)]
 simp
 omega
theorem zr0{k:Nat}(hk:k<=62):IntKind.u64.wrap (1*2^(min ((k:Int)).toNat IntKind.u64.bits))=2^k:=by
 have:(min ((k:Int)).toNat IntKind.u64.bits)=k:=by
  show min ((k:Int)).toNat 64=k
  omega
 rw[this,Int.one_mul]
 have h:(2:Int)^k<=2^62:=by exact_mod_cast Nat.pow_le_pow_right (by decide) hk
 have h0:(0:Int)<2^k:=Int.pow_pos (by decide)
 have h2:(2:Int)^62=4611686018427387904:=by decide
 exact Bc (by omega) (by omega)
def Ga(m r:Int)(k:Nat):Prop:=∃q:Nat,r=q*2^k/\r+2^k<=9223372036854775808/\r*r<=m/\(m<(r+2^k)*(r+2^k)\/r+2^k=9223372036854775808)
theorem zv6{m:Int}(hm:0<=m):Ga m 0 63:=⟨0,by simp,by decide,by simpa using hm,.inr (by decide)⟩
theorem zv8{m:Int}(h:Ga m r 0):Cx m r:=by
 obtain⟨q,e,h1,h2,h3⟩:=h
 have e1:(2:Int)^0=1:=rfl
 rw[e1]at h1 h3 e
 exact⟨by omega,by omega,h2,h3.symm.imp (λh=>by omega) id⟩
theorem zv9{m:Int}{k:Nat}(h:Ga m r (k+1)):xp .or .u64 r (2^k)=r+2^k/\0<=r/\(0:Int)<2^k/\r+2^k<9223372036854775808:=by
 obtain⟨q,e,h1,h2,h3⟩:=h
 have h0:(0:Int)<2^k:=Int.pow_pos (by decide)
 have e2:(2:Int)^(k+1)=2*2^k:=by rw[Int.pow_succ,Fcm]
 have hr:0<=r:=by rw[e];exact Fay (by omega) (by omega)
 rw[e2]at h1
 refine⟨?_,hr,h0,by omega⟩
 rw[e]
 refine zx7 (by omega) (by rw[e2];omega) ?_
 rw[<-e];omega
theorem zv7{m:Int}{k:Nat}(h:Ga m r (k+1))(hn:m<(r+2^k)*(r+2^k)):Ga m r k:=by
 obtain⟨q,e,h1,h2,h3⟩:=h
 have e2:(2:Int)^(k+1)=2*2^k:=by rw[Int.pow_succ,Fcm]
 have h0:(0:Int)<2^k:=Int.pow_pos (by decide)
 rw[e2]at h1
 refine⟨2*q,?_,by omega,h2,.inl hn⟩
 rw[e,e2]
 push_cast
 rw[<-Fdn,Fcm (q:Int) 2]
theorem zv5{m:Int}{k:Nat}(h:Ga m r (k+1))(hn:(r+2^k)*(r+2^k)<=m):Ga m (r+2^k) k:=by
 obtain⟨q,e,h1,h2,h3⟩:=h
 have e2:(2:Int)^(k+1)=2*2^k:=by rw[Int.pow_succ,Fcm]
 have h0:(0:Int)<2^k:=Int.pow_pos (by decide)
 rw[e2]at h1 h3
 have e3:r+2^k+2^k=r+2*2^k:=by omega
 refine⟨2*q+1,?_,by omega,hn,by rw[e3];exact h3⟩
 rw[e,e2]
 push_cast
 rw[Fd5,Int.one_mul,<-Fdn,Fcm (q:Int) 2]
end
section
variable {t i:Nat} {w:Wld} {tile id:Int} {u:Unt}
def ye(g:Gnd)(t:Nat):Vc:=(tx g t+32768,ty g t+32768)
theorem Mi{g:Gnd}(hg:zn g)(ht:t<g.T.length):(ye g t).ok:=by
 have ha:=qi hg
 have:=Ie hg (t:=t) (by omega)
 unfold ye Vc.ok ya
 dsimp only
 omega
def qh(w:Wld)(k tile:Int)(n:Nat):List Nat:=Im w.G (zx w.G w.B (yu k) (xx k)) (xx k) tile n
theorem ga(g:Gnd)(f:Nat->Bool)(x y k:Int):∀d t,t∈ko g f x y k d->t<g.T.length/\f t=true
 |0,t,h=>by cases h
 |d+1,t,h=>by
  rcases Fal.1 (show t∈ko g f x y k d++Ao g f x y k d from h)with h|h
  ·exact ga g f x y k d t h
  ·unfold Ao Dk at h
   obtain⟨h1,h2⟩:=Fbo.1 h
   exact⟨Fa4.1 (Fbo.1 h1).1,h2⟩
theorem Si{k:Int}{n:Nat}(h:t∈qh w k tile n):t<w.G.T.length/\zx w.G w.B (yu k) (xx k) t=true:=ga _ _ _ _ _ _ _ (List.mem_of_mem_take h)
theorem zrt(w:Wld)(k tile:Int)(n:Nat):(qh w k tile n).length<=n:=by
 unfold qh Im
 rw[Fao]
 exact Nat.min_le_left _ _
open Classical in
noncomputable def Ab(w:Wld)(u:Unt)(tile:Int):Option Nat:=(qh w u.kind tile 64).find? λt=>decide (qf w u.id u.kind (ye w.G t))
open Classical in
theorem zx1{j:Nat}(hj:j<(qh w u.kind tile 64).length)(hno:∀i,(h:i<(qh w u.kind tile 64).length)->i<j->¬qf w u.id u.kind (ye w.G (qh w u.kind tile 64)[i]))(hy:qf w u.id u.kind (ye w.G (qh w u.kind tile 64)[j])):Ab w u tile=some (qh w u.kind tile 64)[j]:=by
 unfold Ab
 rw[List.find?_eq_some_iff_getElem]
 exact⟨decide_eq_true hy,j,hj,rfl,λi hi=>by
  rw[Fby,decide_eq_false_iff_not]
  exact hno i (by omega) hi⟩
open Classical in
theorem zx2(hno:∀i,(h:i<(qh w u.kind tile 64).length)->¬qf w u.id u.kind (ye w.G (qh w u.kind tile 64)[i])):Ab w u tile=none:=by
 unfold Ab
 rw[Fcu]
 intro t ht
 obtain⟨i,hi,rfl⟩:=Fai ht
 rw[decide_eq_true_iff]
 exact hno i hi
open Classical in
theorem lq(h:Ab w u tile=some t):t∈qh w u.kind tile 64/\qf w u.id u.kind (ye w.G t):=by
 unfold Ab at h
 exact⟨Fc6 h,by have:=Feg h;exact of_decide_eq_true this⟩
def wo(u:Unt)(p:Vc):Unt:={u with pos:=p,inn:=0}
noncomputable def unl(tile:Int):List Int->Wld->Option Wld
 |[],w=>some w
 |id::l,w=>match yw w.U id with
  |none=>none
  |some i=>match Ab w (w.U.getD i unt0) tile with
   |none=>none
   |some t=>unl tile l {w with U:=w.U.set i (wo (w.U.getD i unt0) (ye w.G t))}
theorem Rv{l:List Int}(hi:i<w.U.length)(hf:yw w.U id=some i)(ho:Ab w w.U[i] tile=none):unl tile (id::l) w=none:=by
 show(match yw w.U id with|none=>none|some i=>_)=_
 rw[hf]
 dsimp only
 rw[show w.U.getD i unt0=w.U[i] by simp[Fa6,hi],ho]
theorem Ru{l:List Int}(hi:i<w.U.length)(hf:yw w.U id=some i)(ho:Ab w w.U[i] tile=some t):unl tile (id::l) w=unl tile l {w with U:=w.U.set i (wo w.U[i] (ye w.G t))}:=by
 show(match yw w.U id with|none=>none|some i=>_)=_
 rw[hf]
 dsimp only
 rw[show w.U.getD i unt0=w.U[i] by simp[Fa6,hi],ho]
open Classical in
noncomputable def ulE(w:Wld)(c:Cmd):Int:=
 if jv w c.P c.N=0 then
  (if 0<=c.T/\c.T<w.G.W*w.G.H then
   (if Ce (ye w.G c.T.toNat) (uAt w c.N).pos then 8 else(match unl c.T (zv w.U c.N) w with|none=>5|some _=>0))
  else 3)
 else jv w c.P c.N
noncomputable def ulW(w:Wld)(c:Cmd):Wld:=(unl c.T (zv w.U c.N) w).getD w
def Bl(L:List Ent)(u:Unt):List Ent:=if u.inn=0 then qb L u.id++[(u.id,u.pos)]else qb L u.id
theorem ydn(L:List Ent)(u:Unt):(Bl L u).length<=L.length+1:=by
 have:(qb L u.id).length<=L.length:=Fbz _ _
 unfold Bl
 split
 ·rw[Fag,Fa1];omega
 ·omega
theorem ydm{L:List Ent}(hok:∀e∈L,e.2.ok)(hp:u.pos.ok):∀e∈Bl L u,e.2.ok:=λe he=>by
 unfold Bl at he
 split at he
 ·rcases Fal.1 he with he|he
  ·exact hok e (mem_dropId.1 he).1
  ·simp at he;subst he;exact hp
 ·exact hok e (mem_dropId.1 he).1
theorem l4{L:List Ent}(hF:Bx w L)(hr:yg w.U)(hi:i<w.U.length)(hid:w.U[i].id=u.id):Bx {w with U:=w.U.set i u} (Bl L u):=by
 have old:∀e,e∈qb L u.id↔∃j,∃hj:j<w.U.length,j≠i/\w.U[j].inn=0/\e=(w.U[j].id,w.U[j].pos):=λe=>by
  rw[mem_dropId,hF e]
  constructor
  ·rintro⟨⟨x,hx,h0,rfl⟩,hne⟩
   obtain⟨j,hj,rfl⟩:=Fai hx
   exact⟨j,hj,λe=>hne (by subst e;exact hid),h0,rfl⟩
  ·rintro⟨j,hj,hji,h0,rfl⟩
   refine⟨⟨w.U[j],Faa hj,h0,rfl⟩,λe=>hji ?_⟩
   have e:w.U[j].id=u.id:=e
   by_cases h1:j<i
   ·have:=Dj hr h1 hi;omega
   ·by_cases h2:i<j
    ·have:=Dj hr h2 hj;omega
    ·omega
 intro e
 have key:(∃y∈w.U.set i u,y.inn=0/\e=(y.id,y.pos))↔(u.inn=0/\e=(u.id,u.pos))\/∃j,∃hj:j<w.U.length,j≠i/\w.U[j].inn=0/\e=(w.U[j].id,w.U[j].pos):=by
  constructor
  ·rintro⟨y,hy,h0,he⟩
   obtain⟨j,hj,rfl⟩:=Fai hy
   rw[Fa8]at hj
   rw[Fcf]at h0 he
   split at h0
   ·rename_i hh
    rw[if_pos hh]at he
    exact .inl ⟨h0,he⟩
   ·rename_i hh
    rw[if_neg hh]at he
    exact .inr ⟨j,hj,Ne.symm hh,h0,he⟩
  ·rintro(⟨h0,he⟩|⟨j,hj,hji,h0,he⟩)
   ·exact⟨u,List.mem_set hi u,h0,he⟩
   ·refine⟨w.U[j],?_,h0,he⟩
    have hj2:j<(w.U.set i u).length:=by rw[Fa8];exact hj
    have:(w.U.set i u)[j]=w.U[j]:=by rw[Fcf,if_neg (Ne.symm hji)]
    rw[<-this]
    exact Faa hj2
 show e∈Bl L u↔∃y∈w.U.set i u,y.inn=0/\e=(y.id,y.pos)
 rw[key]
 unfold Bl
 split
 ·rename_i h0
  rw[Fal,old,Fcb]
  constructor
  ·rintro(h|h)
   ·exact .inr h
   ·exact .inl ⟨h0,h⟩
  ·rintro(h|h)
   ·exact .inr h.2
   ·exact .inl h
 ·rename_i h0
  rw[old]
  exact⟨.inr,λh=>h.resolve_left λhh=>h0 hh.1⟩
theorem l5{L:List Ent}(hn:(L.map (·.1)).Nodup)(hF:Bx w L):L.length<=w.U.length:=by
 have:=Fbu (l₂:=w.U.map (·.id)) hn (λid hid=>by
  obtain⟨e,he,rfl⟩:=Fac.1 hid
  obtain⟨u,hu,_,rfl⟩:=(hF e).1 he
  exact Fac.2 ⟨u,hu,rfl⟩)
 rw[Faq,Faq]at this
 exact this
theorem Nv{U:List Unt}(hr:yg U)(hi:i<U.length)(hid:U[i].id=u.id):yg (U.set i u):=by
 intro j hj h0
 rw[Fa8]at hj
 have:=hr j hj h0
 have id':∀k,(hk:k<U.length)->((U.set i u)[k]'(by rw[Fa8];exact hk)).id=U[k].id:=λk hk=>by
  rw[Fcf]
  split
  ·rename_i e;subst e;exact hid.symm
  ·rfl
 rw[id' _ (by omega),id' _ hj]
 exact this
theorem yc7{U:List Unt}(hr:yg U)(hi:i<U.length)(hid:U[i].id=u.id)(id:Int):yw (U.set i u) id=yw U id:=by
 have id':∀k,(hk:k<U.length)->((U.set i u)[k]'(by rw[Fa8];exact hk)).id=U[k].id:=λk hk=>by
  rw[Fcf]
  split
  ·rename_i e;subst e;exact hid.symm
  ·rfl
 cases h:yw U id with
 |some k=>
  obtain⟨hk,e⟩:=Gm h
  exact L7 (Nv hr hi hid) (by rw[Fa8];exact hk) (by rw[id' k hk];exact e)
 |none=>
  cases h2:yw (U.set i u) id with
  |none=>rfl
  |some k=>
   obtain⟨hk,e⟩:=Gm h2
   rw[Fa8]at hk
   rw[id' k hk]at e
   exact absurd e (pu h _ (Faa hk))
end
section
variable {w:Wld} {k:Nat} {kd:Int}
def mvG(g:Int)(u:Unt):Unt:={u with goal:=g,next:=-1,stuck:=0,state:=1}
def At(w:Wld)(c:Cmd)(k:Nat)(kd:Int):Int:=match(qh w kd c.T c.U.length)[k]? with|some t=>(t:Int)|none=>c.T
def mvL(w:Wld)(c:Cmd):Nat->List Unt
 |0=>w.U
 |k+1=>match yw w.U (c.U.getD k 0)with
  |some i=>(mvL w c k).set i (mvG (At w c k (w.U.getD i unt0).kind) (w.U.getD i unt0))
  |none=>mvL w c k
def mvE(w:Wld)(c:Cmd):Int:=if 0<=c.T/\c.T<w.G.W*w.G.H then jd (xj w c.P) c.U else 3
def mvW(w:Wld)(c:Cmd):Wld:={w with U:=mvL w c c.U.length}
theorem mn{c:Cmd}{i:Nat}(hk:k<c.U.length)(hf:yw w.U c.U[k]=some i)(hi:i<w.U.length):mvL w c (k+1)=(mvL w c k).set i (mvG (At w c k w.U[i].kind) w.U[i]):=by
 show(match yw w.U (c.U.getD k 0)with|some i=>_|none=>_)=_
 rw[show c.U.getD k 0=c.U[k] by simp[Fa6,hk],hf]
 dsimp only
 rw[show w.U.getD i unt0=w.U[i] by simp[Fa6,hi]]
theorem Ae(w:Wld)(c:Cmd):∀k,(mvL w c k).length=w.U.length
 |0=>rfl
 |k+1=>by
  show(match yw w.U (c.U.getD k 0)with|some i=>_|none=>_:List Unt).length=_
  cases yw w.U (c.U.getD k 0)with
  |none=>exact Ae w c k
  |some i=>dsimp only;rw[Fa8];exact Ae w c k
theorem Om(w:Wld)(c:Cmd):∀k j,(hj:j<w.U.length)->mvG 0 ((mvL w c k)[j]'(by rw[Ae];exact hj))=mvG 0 w.U[j]
 |0,j,hj=>rfl
 |k+1,j,hj=>by
  have ih:=Om w c k j hj
  have key:∀L:List Unt,(hL:j<L.length)->L=mvL w c (k+1)->mvG 0 L[j]=mvG 0 w.U[j]:=λL hL e=>by
   have e2:mvL w c (k+1)=(match yw w.U (c.U.getD k 0)with
    |some i=>(mvL w c k).set i (mvG (At w c k (w.U.getD i unt0).kind) (w.U.getD i unt0))
    |none=>mvL w c k):=rfl
   rw[e2]at e
   cases hf:yw w.U (c.U.getD k 0)with
   |none=>rw[hf]at e;subst e;exact ih
   |some i=>
    rw[hf]at e
    obtain⟨hi,_⟩:=Gm hf
    subst e
    rw[Fcf]
    split
    ·rename_i e3;subst e3
     rw[show w.U.getD i unt0=w.U[i] by simp[Fa6,hi]]
     rfl
    ·exact ih
  exact key _ (by rw[Ae];exact hj) rfl
theorem Hm{a b:Unt}(h:mvG 0 a=mvG 0 b):a.id=b.id/\a.owner=b.owner/\a.kind=b.kind/\a.pos=b.pos/\a.inn=b.inn:=by
 refine⟨?_,?_,?_,?_,?_⟩
 ·have:=congrArg Unt.id h
  exact this
 ·have:=congrArg Unt.owner h
  exact this
 ·have:=congrArg Unt.kind h
  exact this
 ·have:=congrArg Unt.pos h
  exact this
 ·have:=congrArg Unt.inn h
  exact this
theorem Vm(w:Wld)(c:Cmd)(k j:Nat)(hj:j<w.U.length):((mvL w c k)[j]'(by rw[Ae];exact hj)).id=w.U[j].id:=(Hm (Om w c k j hj)).1
theorem Vl(hr:yg w.U)(c:Cmd)(k:Nat):yg (mvL w c k):=by
 intro j hj h0
 rw[Ae]at hj
 have:=hr j hj h0
 rw[Vm w c k _ (by omega),Vm w c k _ hj]
 exact this
theorem mp{c:Cmd}{u:Unt}(h:u∈mvL w c k):∃x∈w.U,u.id=x.id/\u.owner=x.owner/\u.kind=x.kind/\u.pos=x.pos/\u.inn=x.inn:=by
 obtain⟨j,hj,rfl⟩:=Fai h
 have hj2:=hj
 rw[Ae]at hj2
 exact⟨w.U[j],Faa hj2,Hm (Om w c k j hj2)⟩
theorem mw{c:Cmd}(h:¬(0<=c.T/\c.T<w.G.W*w.G.H)):mvE w c=3:=by unfold mvE;rw[if_neg h]
theorem mv{c:Cmd}(h:0<=c.T/\c.T<w.G.W*w.G.H):mvE w c=jd (xj w c.P) c.U:=by unfold mvE;rw[if_pos h]
theorem mq{c:Cmd}(h:k<(qh w kd c.T c.U.length).length):At w c k kd=((qh w kd c.T c.U.length)[k]:Nat):=by
 unfold At
 rw[Fab h]
theorem mr{c:Cmd}(h:¬k<(qh w kd c.T c.U.length).length):At w c k kd=c.T:=by
 unfold At
 rw[Fbn (by omega)]
theorem zzt{α:Type}(f:α->AV)(cs:List (Int×α))(k:Int)(z:AV):Ct true z ((cs.map (yk f)).find? (qA k))=match yl cs k with|some v=>.tup [f v,.s (.bool true)]|none=>.tup [z,.s (.bool false)]:=by
 rw[Wm]
 unfold yl
 cases cs.find? λe=>k==e.1 with
 |none=>rfl
 |some e=>rfl
end
section
variable {w:Wld}
noncomputable def aE(w:Wld)(c:Cmd):Int:=if c.K=1 then spE w c else if c.K=2 then mvE w c else if c.K=3 then stE w c else if c.K=4 then bdE w c else if c.K=5 then drE w c else if c.K=6 then ldE w c else ulE w c
noncomputable def aW(w:Wld)(c:Cmd):Wld:=if c.K=1 then spW w c else if c.K=2 then mvW w c else if c.K=3 then stW w c else if c.K=4 then bdW w c else if c.K=5 then drW w c else if c.K=6 then ldW w c else ulW w c
theorem a1{c:Cmd}(h:c.K=1):aE w c=spE w c/\aW w c=spW w c:=by unfold aE aW;rw[h];exact⟨rfl,rfl⟩
theorem a2{c:Cmd}(h:c.K=2):aE w c=mvE w c/\aW w c=mvW w c:=by unfold aE aW;rw[h];exact⟨rfl,rfl⟩
theorem a3{c:Cmd}(h:c.K=3):aE w c=stE w c/\aW w c=stW w c:=by unfold aE aW;rw[h];exact⟨rfl,rfl⟩
theorem a4{c:Cmd}(h:c.K=4):aE w c=bdE w c/\aW w c=bdW w c:=by unfold aE aW;rw[h];exact⟨rfl,rfl⟩
theorem a5{c:Cmd}(h:c.K=5):aE w c=drE w c/\aW w c=drW w c:=by unfold aE aW;rw[h];exact⟨rfl,rfl⟩
theorem a6{c:Cmd}(h:c.K=6):aE w c=ldE w c/\aW w c=ldW w c:=by unfold aE aW;rw[h];exact⟨rfl,rfl⟩
theorem a7{c:Cmd}(h:c.K=7):aE w c=ulE w c/\aW w c=ulW w c:=by unfold aE aW;rw[h];exact⟨rfl,rfl⟩
theorem Vy{c:Cmd}(h:vn c):c.K=1\/c.K=2\/c.K=3\/c.K=4\/c.K=5\/c.K=6\/c.K=7:=Classical.byContradiction λhn=>by
 have hn:c.K≠1/\c.K≠2/\c.K≠3/\c.K≠4/\c.K≠5/\c.K≠6/\c.K≠7:=by omega
 exact Cmd.ok0 hn.1 hn.2.1 hn.2.2.1 hn.2.2.2.1 hn.2.2.2.2.1 hn.2.2.2.2.2.1 hn.2.2.2.2.2.2 h.1
theorem rt{E:Wld->Cmd->Int}{c:Cmd}(h:doE E w c=0):z7 w/\vn c/\c.P<=w.players/\E w c=0:=by
 have hb:¬(¬z7 w\/¬vn c\/w.players<c.P):=λhb=>by rw[rx hb]at h;cases h
 have h1:z7 w:=Classical.byContradiction λhh=>hb (.inl hh)
 have h2:vn c:=Classical.byContradiction λhh=>hb (.inr (.inl hh))
 have h3:c.P<=w.players:=Int.not_lt.1 λhh=>hb (.inr (.inr hh))
 refine⟨h1,h2,h3,?_⟩
 rw[ru h1 h2 h3]at h
 exact h
theorem dt{tile:Int}:∀(l:List Int) (w x:Wld),yg w.U->unl tile l w=some x->x.tick=w.tick/\x.players=w.players/\x.next=w.next/\x.G=w.G/\x.B=w.B/\∃h:x.U.length=w.U.length,∀j,(hj:j<w.U.length)->x.U[j].id=w.U[j].id/\x.U[j].owner=w.U[j].owner/\x.U[j].kind=w.U[j].kind/\(x.U[j]=w.U[j]\/∃t,t<w.G.T.length/\x.U[j].pos=ye w.G t)
 |[],w,x,hr,h=>by
  have:w=x:=Option.some.inj h
  subst this
  exact⟨rfl,rfl,rfl,rfl,rfl,rfl,λj hj=>⟨rfl,rfl,rfl,.inl rfl⟩⟩
 |id::l,w,x,hr,h=>by
  cases hf:yw w.U id with
  |none=>
   have:unl tile (id::l) w=none:=by
    show(match yw w.U id with|none=>none|some i=>_)=_
    rw[hf]
   rw[this]at h;cases h
  |some i=>
   obtain⟨hi,_⟩:=Gm hf
   cases ho:Ab w w.U[i] tile with
   |none=>rw[Rv hi hf ho]at h;cases h
   |some t=>
    rw[Ru hi hf ho]at h
    have ht:=(Si (lq ho).1).1
    obtain⟨h0,h1,h2,h3,h4,h5,h6⟩:=dt l _ x (Nv hr hi (u:=wo w.U[i] (ye w.G t)) rfl) h
    have hl:(w.U.set i (wo w.U[i] (ye w.G t))).length=w.U.length:=Fa8
    refine⟨h0,h1,h2,h3,h4,h5.trans hl,λj hj=>?_⟩
    obtain⟨k1,k2,k3,k4⟩:=h6 j (by rw[hl];exact hj)
    by_cases e:i=j
    ·subst e
     have e9:(w.U.set i (wo w.U[i] (ye w.G t)))[i]'(by rw[hl];exact hj)=wo w.U[i] (ye w.G t):=List.getElem_set_self _
     dsimp only at k1 k2 k3 k4
     rw[e9]at k1 k2 k3 k4
     refine⟨k1,k2,k3,.inr ?_⟩
     rcases k4 with k4|⟨t2,k4,k5⟩
     ·exact⟨t,ht,by rw[k4];rfl⟩
     ·exact⟨t2,k4,k5⟩
    ·have e9:(w.U.set i (wo w.U[i] (ye w.G t)))[j]'(by rw[hl];exact hj)=w.U[j]:=List.getElem_set_ne e _
     dsimp only at k1 k2 k3 k4
     rw[e9]at k1 k2 k3 k4
     exact⟨k1,k2,k3,k4⟩
theorem d0{c:Cmd}(hr:yg w.U):(ulW w c).tick=w.tick/\(ulW w c).players=w.players/\(ulW w c).next=w.next/\(ulW w c).G=w.G/\(ulW w c).B=w.B/\∃h:(ulW w c).U.length=w.U.length,∀j,(hj:j<w.U.length)->(ulW w c).U[j].id=w.U[j].id/\(ulW w c).U[j].owner=w.U[j].owner/\(ulW w c).U[j].kind=w.U[j].kind/\((ulW w c).U[j]=w.U[j]\/∃t,t<w.G.T.length/\(ulW w c).U[j].pos=ye w.G t):=by
 have key:∀x:Wld,ulW w c=x->x.tick=w.tick/\x.players=w.players/\x.next=w.next/\x.G=w.G/\x.B=w.B/\∃h:x.U.length=w.U.length,∀j,(hj:j<w.U.length)->x.U[j].id=w.U[j].id/\x.U[j].owner=w.U[j].owner/\x.U[j].kind=w.U[j].kind/\(x.U[j]=w.U[j]\/∃t,t<w.G.T.length/\x.U[j].pos=ye w.G t):=λx hx=>by
  unfold ulW at hx
  cases h:unl c.T (zv w.U c.N) w with
  |none=>
   rw[h]at hx
   have:w=x:=hx
   subst this
   exact⟨rfl,rfl,rfl,rfl,rfl,rfl,λj hj=>⟨rfl,rfl,rfl,.inl rfl⟩⟩
  |some y=>
   rw[h]at hx
   have:y=x:=hx
   subst this
   exact dt _ _ _ hr h
 exact key _ rfl
theorem gk{l:List Int}{g:Unt->Unt}{U:List Unt}{u:Unt}(h:u∈qk l g U):∃x∈U,u=x\/u=g x:=by
 unfold qk at h
 obtain⟨x,hx,rfl⟩:=Fac.1 h
 refine⟨x,hx,?_⟩
 split
 ·exact .inr rfl
 ·exact .inl rfl
theorem yhj{c:Cmd}(hn:∀u∈w.U,u.pos.ok)(h:doE aE w c=0):∀u∈(aW w c).U,u.pos.ok:=by
 obtain⟨hm,hc,hp,he⟩:=rt h
 have z0:Vc.ok (0,0):=by unfold Vc.ok ya;decide
 intro u hu
 rcases Vy hc with k|k|k|k|k|k|k
 ·rw[(a1 k).2]at hu
  rcases Fal.1 (show u∈w.U++[spU w c]from hu)with hu|hu
  ·exact hn u hu
  ·rw[Fcb]at hu
   subst hu
   have:=(Cmd.ok1 k).1 hc.1
   have:=this.2
   show Vc.ok (c.X,c.Y)
   unfold qm at this
   unfold Vc.ok ya
   dsimp only
   omega
 ·rw[(a2 k).2]at hu
  obtain⟨x,hx,_,_,_,e,_⟩:=mp (show u∈mvL w c c.U.length from hu)
  rw[e];exact hn x hx
 ·rw[(a3 k).2]at hu
  obtain⟨x,hx,rfl|rfl⟩:=gk (show u∈qk c.U Di w.U from hu)
  ·exact hn _ hx
  ·exact hn x hx
 ·rw[(a4 k).2]at hu
  exact hn u hu
 ·rw[(a5 k).2]at hu
  unfold drW at hu
  cases hf:Cd w.B c.N with
  |none=>rw[hf]at hu;exact hn u hu
  |some i=>rw[hf]at hu;exact hn u hu
 ·rw[(a6 k).2]at hu
  obtain⟨x,hx,rfl|rfl⟩:=gk (show u∈qk c.U (ldU c.N) w.U from hu)
  ·exact hn _ hx
  ·exact z0
 ·rw[(a7 k).2]at hu
  obtain⟨_,_,_,_,_,hl,hf⟩:=d0 (c:=c) hm.1.2.1
  obtain⟨j,hj,rfl⟩:=Fai hu
  obtain⟨_,_,_,e|⟨t,ht,e⟩⟩:=hf j (by omega)
  ·rw[e];exact hn _ (Faa _)
  ·rw[e];exact Mi hm.1.1.2.1.1 ht
theorem ydv(w:Wld)(c:Cmd):(drW w c).tick=w.tick/\(drW w c).players=w.players/\(drW w c).next=w.next/\(drW w c).G=w.G/\(drW w c).U=w.U/\(drW w c).B.length<=w.B.length:=by
 unfold drW
 cases Cd w.B c.N with
 |none=>exact⟨rfl,rfl,rfl,rfl,rfl,Fak _⟩
 |some i=>exact⟨rfl,rfl,rfl,rfl,rfl,List.length_eraseIdx_le _ _⟩
end
instance(g:Gnd)(t:Nat)(p:Vc)(r:Int):Decidable (xm g t p r):=by unfold xm;infer_instance
instance(g:Gnd)(b:Bld):Decidable (Az g b):=by unfold Az;infer_instance
instance(g:Gnd)(b:Bld):Decidable (onP g b):=by unfold onP;infer_instance
instance(b:Bld):Decidable (yc b):=by unfold yc;infer_instance
instance(a b:Bld):Decidable (xu a b):=by unfold xu;infer_instance
instance(l:List Bld):Decidable (Ld l):=by unfold Ld;infer_instance
instance(l:List Bld):Decidable (Rc l):=by unfold Rc;infer_instance
instance(g:Gnd):Decidable (zn g):=by unfold zn;infer_instance
instance(g:Gnd)(l:List Bld):Decidable (Fo g l):=by unfold Fo;infer_instance
instance(g:Gnd)(l:List Bld)(c:Int)(p:Vc)(r:Int):Decidable (Ag g l c p r):=by unfold Ag;infer_instance
instance(w:Wld)(id k:Int)(p:Vc):Decidable (qf w id k p):=by unfold qf;infer_instance
instance(k:Int):Decidable (vy k):=by unfold vy;infer_instance
instance(g:Gnd)(t:Int):Decidable (vg g t):=by unfold vg;infer_instance
instance(w:Wld)(u:Unt):Decidable (xt w u):=by unfold xt;infer_instance
instance(w:Wld):Decidable (Gj w):=by unfold Gj;infer_instance
instance(l:List Unt):Decidable (yg l):=by unfold yg;infer_instance
instance(w:Wld):Decidable (Gz w):=by unfold Gz;infer_instance
instance(w:Wld)(u:Unt):Decidable (wu w u):=by unfold wu;infer_instance
instance(w:Wld):Decidable (z7 w):=by unfold z7;infer_instance
instance(x y:Int):Decidable (qm x y):=by unfold qm;infer_instance
instance(t:Int):Decidable (kk t):=by unfold kk;infer_instance
instance(t:Int):Decidable (idP t):=by unfold idP;infer_instance
instance(l:List Int):Decidable (Bq l):=by unfold Bq;infer_instance
instance(w:Wld):Decidable (Ds w):=by unfold Ds;infer_instance
def jf(a b:Vc):Vc:=(yy a.1 b.1,yy a.2 b.2)
def j9(v:Vc):Vc:=(nrm v.1,nrm v.2)
def Aw(v:Vc)(k:Nat):Vc:=(v.1.tdiv (2^k:Nat),v.2.tdiv (2^k:Nat))
def Nq(m:Int):Nat->Int->Int
 |0,r=>r
 |b+1,r=>Nq m b (if(r+(2^b:Nat))*(r+(2^b:Nat))<=m then r+(2^b:Nat)else r)
def j1(m:Int):Int:=Nq m 63 0
theorem zwa{m:Int}(hm:0<=m):∀(b:Nat) (r:Int),0<=r->r*r<=m->(r+(2^b:Nat)=9223372036854775808\/m<(r+(2^b:Nat))*(r+(2^b:Nat)))->r+(2^b:Nat)<=9223372036854775808->Cx m (Nq m b r):=by
 intro b
 induction b with
 |zero=>
  intro r h0 h1 h2 h3
  refine⟨h0,?_,h1,?_⟩
  ·simp only[Nat.pow_zero]at h3
   show r<=_
   omega
  ·show r=_\/_
   simp only[Nat.pow_zero]at h2
   rcases h2 with h2|h2
   ·exact .inl (by omega)
   ·exact .inr h2
 |succ b ih=>
  intro r h0 h1 h2 h3
  have hp:(2^(b+1):Nat)=2^b+2^b:=by rw[Nat.pow_succ];omega
  have hq:0<2^b:=Nat.pow_pos (by decide)
  rw[hp]at h2 h3
  generalize hB:2^b=B at*
  show Cx m (Nq m b (if _ then _ else _))
  rw[hB]
  split
  ·rename_i hle
   refine ih (r+(B:Nat)) (by omega) hle ?_ (by omega)
   rw[Int.add_assoc,show((B:Nat):Int)+(B:Nat)=((B+B:Nat):Int) by omega]
   exact h2
  ·rename_i hle
   exact ih r h0 h1 (.inr (by omega)) (by omega)
theorem Iw{m:Int}(hm:0<=m):Cx m (j1 m):=zwa hm 63 0 (by decide) (by simpa using hm) (.inl (by decide)) (by decide)
theorem im{m r:Int}(hm:0<=m)(h:Cx m r):r=j1 m:=yae h (Iw hm)
def Fl(c most long:Int):Int:=if c<0 then -((-c)*most/long)else c*most/long
def je(v:Vc)(most:Int):Vc:=
 if j1 (sqr v)<=max most 0 then j9 v else(Fl (nrm v.1) (max most 0) (j1 (sqr v)),Fl (nrm v.2) (max most 0) (j1 (sqr v)))
def G6(p q:Vc)(speed:Int):Vc:=je (qq q p) speed
def wi(p:Vc)(r:Int)(q:Vc):Vc:=
 if near p q r then je (if qq p q=(0,0)then(65536,0)else qq p q) (r-j1 (sqr (qq p q)))else(0,0)
instance(w:Wld)(id k:Int)(p:Vc):Decidable (qf w id k p):=by unfold qf Ag;infer_instance
def kj(w:Wld)(u:Unt)(v:Vc):Nat->Nat->Option (Nat×Vc)
 |0,_=>none
 |n+1,k=>if Aw v k=(0,0)then none else if qf w u.id u.kind (jf u.pos (Aw v k))then some (k,jf u.pos (Aw v k))else kj w u v n (k+1)
def yj(w:Wld)(u:Unt):Wld:={w with U:=w.U.map λx=>if x.id=u.id then u else x}
def Dh(w:Wld)(u:Unt)(v:Vc):Int:=match kj w u (j9 v) 5 0 with|none=>5|some (k,_)=>(k:Int)
def jy(w:Wld)(u:Unt)(v:Vc):Wld:=match kj w u (j9 v) 5 0 with|none=>w|some (_,p)=>yj w {u with pos:=p}
def Gh(w:Wld)(u:Unt):Vc:=w.U.foldl (λv x=>if x.inn=0/\x.id≠u.id then jf v (wi u.pos (zp u.kind+zp x.kind+16384) x.pos)else v) (0,0)
def C6(w:Wld)(u:Unt):Wld:=jy w u (je (Gh w u) ((j5 u.kind).tdiv 4))
def k8(s:Int)(u:Unt):Unt:={u with goal:=-1,next:=-1,stuck:=0,state:=s}
def okU(w:Wld)(u:Unt)(t:Nat):Bool:=zx w.G w.B (yu u.kind) (xx u.kind) t
def Fc(w:Wld)(u:Unt)(own:Nat):Bool:=
 decide (u.next=-1)||decide (u.pos=ye w.G u.next.toNat)|| !okU w u u.next.toNat||(decide (u.next≠own)&& !(Dq w.G own).contains u.next)
noncomputable def Bg(w:Wld)(u:Unt)(own:Nat):Int:=
 if u.pos≠ye w.G own then own else
  (let way:=xk w.G (okU w u) (yu u.kind) (jj w.G (okU w u) (yu u.kind) u.goal.toNat) own
   if way<0 then -1 else yd w.G own way.toNat)
def vh(w:Wld)(u:Unt):Wld:=
 if Dh (yj w {u with stuck:=0}) {u with stuck:=0} (G6 u.pos (ye w.G u.next.toNat) (j5 u.kind))<5 then jy (yj w {u with stuck:=0}) {u with stuck:=0} (G6 u.pos (ye w.G u.next.toNat) (j5 u.kind))
 else if u.stuck+1=8 then yj w (k8 4 u)else yj w {u with stuck:=u.stuck+1,next:=-1}
noncomputable def Cc(w:Wld)(u:Unt):Wld:=
 if u.pos=ye w.G u.goal.toNat then yj w (k8 2 u)
 else if Fc w u (jg w.G u.pos)then
  (if Bg w u (jg w.G u.pos)<0 then yj w (k8 3 u)else vh w {u with next:=Bg w u (jg w.G u.pos)})
 else vh w u
noncomputable def xl(w:Wld)(u:Unt):Wld:=if u.goal=-1 then C6 w u else Cc w u
theorem fx(x y:Int):(x-y)*(x-y)=(y-x)*(y-x):=by
 have:y-x=-(x-y):=by omega
 rw[this,Fdg]
theorem uy{g:Gnd}(hg:zn g){l:List Bld}{c c':Int}{p q:Vc}{k k':Int}(hp:Ag g l c p (zp k))(hq:Ag g l c' q (zp k')):jx p (zp k) q (zp k')=jx q (zp k') p (zp k):=by
 have b1:=Ph hg hp
 have b2:=Ph hg hq
 have r1:=He k
 have r2:=He k'
 unfold jx
 rw[Ok (by omega) (by omega) (by omega) (by omega) (by omega),Ok (by omega) (by omega) (by omega) (by omega) (by omega),fx p.1,fx p.2,Int.add_comm (zp k)]
theorem W8{w w':Wld}{id k:Int}{p:Vc}(hG:w'.G=w.G)(hB:w'.B=w.B)(h:∀v∈w'.U,v.inn=0->v.id≠id->∃x∈w.U,x.inn=0/\x.id≠id/\x.pos=v.pos/\x.kind=v.kind)(hc:qf w id k p):qf w' id k p:=by
 refine⟨by rw[hG,hB];exact hc.1,λv hv h0 hid=>?_⟩
 obtain⟨x,hx,e1,e2,e3,e4⟩:=h v hv h0 hid
 rw[<-e3,<-e4]
 exact hc.2 x hx e1 e2
theorem oh(l:List Unt)(id:Int):zv l id=((l.map λu=>(u.inn,u.id)).filter λx=>x.1==id).map (·.2):=by
 unfold zv
 rw[List.filter_map,List.map_map]
 rfl
theorem yax{U U':List Unt}(hl:U'.length=U.length)(h:∀j,(hj:j<U.length)->(U'[j]'(by omega)).inn=U[j].inn/\(U'[j]'(by omega)).id=U[j].id)(id:Int):zv U' id=zv U id:=by
 rw[oh,oh]
 have:(U'.map λu=>(u.inn,u.id))=U.map λu=>(u.inn,u.id):=by
  apply Fdr (by rw[Faq,Faq];exact hl)
  intro j h1 h2
  rw[Faq]at h1 h2
  rw[Fbx,Fbx,(h j h2).1,(h j h2).2]
 rw[this]
theorem ip{U U':List Unt}(hl:U'.length=U.length)(h:∀j,(hj:j<U.length)->(U'[j]'(by omega)).id=U[j].id)(hr:yg U):yg U':=by
 intro j hj h0
 rw[hl]at hj
 have:=hr j hj h0
 rw[h _ (by omega),h _ hj]
 exact this
theorem yav{l:List Unt}{u:Unt}(hu:u∈l):u.id∈zv l u.inn:=by
 unfold zv
 exact Fac.2 ⟨u,Fbo.2 ⟨hu,by simp⟩,rfl⟩
theorem Vr{w:Wld}(hm:z7 w){U:List Unt}(hl:U.length=w.U.length)(h1:∀j,(hj:j<w.U.length)->mvG 0 (U[j]'(by omega))=mvG 0 w.U[j])(h2:∀j,(hj:j<w.U.length)->w.U[j].inn≠0->U[j]'(by omega)=w.U[j])(h3:∀j,(hj:j<w.U.length)->xt w (U[j]'(by omega))):z7 {w with U:=U}:=by
 obtain⟨⟨hh,hr,hu⟩,hc,hd⟩:=hm
 have same:=λj hj=>Hm (h1 j hj)
 have back:∀v∈U,∃j,∃hj:j<w.U.length,v=U[j]'(by omega):=λv hv=>by
  obtain⟨j,hj,rfl⟩:=Fai hv
  exact⟨j,by omega,rfl⟩
 have hin:=yax hl (λj hj=>⟨(same j hj).2.2.2.2,(same j hj).1⟩)
 refine⟨⟨⟨hh.1,⟨hh.2.1.1,hh.2.1.2.1,by show U.length<=_;rw[hl];exact hh.2.1.2.2⟩,hh.2.2⟩,ip hl (λj hj=>(same j hj).1) hr,λv hv=>?_⟩,λv hv h0=>?_,λv hv h0=>?_⟩
 ·obtain⟨j,hj,rfl⟩:=back v hv
  refine⟨h3 j hj,λb hb=>?_⟩
  rw[(same j hj).1]
  exact(hu _ (Faa hj)).2 b hb
 ·obtain⟨j,hj,rfl⟩:=back v hv
  obtain⟨e1,_,e3,e4,e5⟩:=same j hj
  rw[e1,e3,e4]
  refine W8 (w:=w) rfl rfl (λx hx hx0 hxi=>?_) (hc _ (Faa hj) (by rw[<-e5];exact h0))
  obtain⟨k,hk,rfl⟩:=back x hx
  obtain⟨f1,_,f3,f4,f5⟩:=same k hk
  exact⟨_,Faa hk,by rw[<-f5];exact hx0,by rw[<-f1];exact hxi,f4.symm,f3.symm⟩
 ·obtain⟨j,hj,rfl⟩:=back v hv
  have e5:=(same j hj).2.2.2.2
  rw[e5]at h0
  rw[h2 j hj h0]
  obtain⟨x,hx,g1,g2,g3,g4⟩:=hd _ (Faa hj) h0
  obtain⟨k,hk,rfl⟩:=Fai hx
  obtain⟨f1,f2,f3,f4,f5⟩:=same k hk
  refine⟨U[k]'(by omega),Faa _,by rw[f1];exact g1,⟨by rw[f5];exact g2.1,by rw[f2];exact g2.2⟩,?_,g4⟩
  show((zv U _).length:Int)<=_
  rw[hin,f3]
  exact g3
theorem p5{q:Unt->Bool}{x:Unt}(hx:q x=false):∀(U:List Unt) (i:Nat),((U.set i x).filter q).length<=(U.filter q).length
 |[],_=>Fak _
 |a::l,0=>by
  rw[List.set_cons_zero,Fcw,Fcw]
  simp only[hx,Fad,if_false]
  split
  ·rw[Fbi];omega
  ·exact Fak _
 |a::l,i+1=>by
  rw[List.set_cons_succ,Fcw,Fcw]
  have:=p5 hx l i
  split
  ·simp only[Fbi];omega
  ·exact this
theorem nf{w:Wld}(hm:z7 w){i:Nat}(hi:i<w.U.length){p:Vc}(hp:qf w w.U[i].id w.U[i].kind p):z7 {w with U:=w.U.set i {w.U[i]with pos:=p,inn:=0}}:=by
 obtain⟨⟨hh,hr,hu⟩,hc,hd⟩:=hm
 have hg:=hh.2.1.1
 have hl:(w.U.set i {w.U[i]with pos:=p,inn:=0}).length=w.U.length:=Fa8
 have get:∀j,(hj:j<w.U.length)->(w.U.set i {w.U[i]with pos:=p,inn:=0})[j]'(by omega)=if i=j then{w.U[i]with pos:=p,inn:=0}else w.U[j]:=λj hj=>Fcf ..
 have back:∀v∈w.U.set i {w.U[i]with pos:=p,inn:=0},v={w.U[i]with pos:=p,inn:=0}\/∃j,∃hj:j<w.U.length,j≠i/\v=w.U[j]:=λv hv=>by
  obtain⟨j,hj,rfl⟩:=Fai hv
  rw[hl]at hj
  rw[get j hj]
  split
  ·exact .inl rfl
  ·rename_i e;exact .inr ⟨j,hj,Ne.symm e,rfl⟩
 have idne:∀j,(hj:j<w.U.length)->j≠i->w.U[j].id≠w.U[i].id:=λj hj hne e=>by
  rcases Fep j i with q|q|q
  ·have:=Dj hr q hi;omega
  ·exact hne q
  ·have:=Dj hr q hj;omega
 have hself:xt w {w.U[i]with pos:=p,inn:=0}/\∀b∈w.B,b.id≠w.U[i].id:=⟨(hu _ (Faa hi)).1,(hu _ (Faa hi)).2⟩
 refine⟨⟨⟨hh.1,⟨hh.2.1.1,hh.2.1.2.1,by show(w.U.set i _).length<=_;rw[hl];exact hh.2.1.2.2⟩,hh.2.2⟩,Nv hr hi rfl,λv hv=>?_⟩,λv hv h0=>?_,λv hv h0=>?_⟩
 ·rcases back v hv with rfl|⟨j,hj,_,rfl⟩
  ·exact hself
  ·exact hu _ (Faa hj)
 ·rcases back v hv with rfl|⟨j,hj,hne,rfl⟩
  ·refine W8 (w:=w) rfl rfl (λx hx hx0 hxi=>?_) hp
   rcases back x hx with rfl|⟨k,hk,_,rfl⟩
   ·exact absurd rfl hxi
   ·exact⟨_,Faa hk,hx0,hxi,rfl,rfl⟩
  ·have hcj:=hc _ (Faa hj) h0
   refine⟨hcj.1,λx hx hx0 hxi=>?_⟩
   rcases back x hx with rfl|⟨k,hk,_,rfl⟩
   ·have:=hp.2 _ (Faa hj) h0 (idne j hj hne)
    rw[uy hg hp.1 hcj.1]at this
    exact this
   ·exact hcj.2 _ (Faa hk) hx0 hxi
 ·rcases back v hv with rfl|⟨j,hj,hne,rfl⟩
  ·exact absurd rfl h0
  obtain⟨x,hx,g1,g2,g3,g4⟩:=hd _ (Faa hj) h0
  obtain⟨k,hk,rfl⟩:=Fai hx
  have hle:((zv (w.U.set i {w.U[i]with pos:=p,inn:=0}) w.U[j].inn).length:Int)<=xi w.U[k].kind:=by
   have h9:=p5 (q:=λu=>u.inn==w.U[j].inn) (x:={w.U[i]with pos:=p,inn:=0}) (by
    show((0:Int)==w.U[j].inn)=false
    simpa using λe=>h0 e.symm) w.U i
   unfold zv at g3⊢
   rw[Faq]at g3⊢
   omega
  by_cases e:k=i
  ·subst e
   exact⟨{w.U[k]with pos:=p,inn:=0},List.mem_set hi _,g1,⟨rfl,g2.2⟩,hle,g4⟩
  ·refine⟨w.U[k],?_,g1,g2,hle,g4⟩
   have:(w.U.set i {w.U[i]with pos:=p,inn:=0})[k]'(by omega)=w.U[k]:=by rw[get k hk,if_neg (Ne.symm e)]
   rw[<-this]
   exact Faa _
theorem m9{tile:Int}:∀(l:List Int) (w x:Wld),z7 w->unl tile l w=some x->z7 x
 |[],w,x,hm,h=>by
  have:w=x:=Option.some.inj h
  subst this
  exact hm
 |id::l,w,x,hm,h=>by
  cases hf:yw w.U id with
  |none=>
   have:unl tile (id::l) w=none:=by
    show(match yw w.U id with|none=>none|some i=>_)=_
    rw[hf]
   rw[this]at h;cases h
  |some i=>
   obtain⟨hi,_⟩:=Gm hf
   cases ho:Ab w w.U[i] tile with
   |none=>rw[Rv hi hf ho]at h;cases h
   |some t=>
    rw[Ru hi hf ho]at h
    exact m9 l _ x (nf hm hi (lq ho).2) h
section
variable {w:Wld} {i:Nat} {u:Unt} {s:Int}
theorem Hf(hr:yg w.U)(hi:i<w.U.length)(hid:u.id=w.U[i].id):yj w u={w with U:=w.U.set i u}:=by
 unfold yj
 congr 1
 refine Fdr (by simp) λj h1 h2=>?_
 have hj:j<w.U.length:=by simpa using h1
 rw[Fbx,Fcf]
 by_cases e:i=j
 ·subst e
  rw[if_pos hid.symm,if_pos rfl]
 ·rw[if_neg e,if_neg]
  intro hx
  rcases Nat.lt_or_gt_of_ne e with h|h
  ·have:=D6 hr h hj;omega
  ·have:=D6 hr h hi;omega
theorem N9(hr:yg w.U)(hi:i<w.U.length)(hid:u.id=w.U[i].id):∃h2:i<(yj w u).U.length,(yj w u).U[i]=u:=by
 rw[Hf hr hi hid]
 exact⟨by simpa using hi,by simp⟩
theorem N8(w:Wld)(u:Unt):(yj w u).U.length=w.U.length:=by simp[yj]
theorem lc(hr:yg w.U)(hi:i<w.U.length)(hid:u.id=w.U[i].id){j:Nat}(hj:j<w.U.length)(hij:j≠i):(yj w u).U[j]'(by rw[N8];exact hj)=w.U[j]:=by
 have h:=Hf hr hi hid
 have:(yj w u).U=w.U.set i u:=by rw[h]
 simp only[this]
 rw[Fcf,if_neg (Ne.symm hij)]
theorem Ou(hm:z7 w)(hi:i<w.U.length)(h0:w.U[i].inn=0)(h1:mvG 0 u=mvG 0 w.U[i])(h2:xt w u):z7 (yj w u):=by
 have hid:u.id=w.U[i].id:=(Hm h1).1
 rw[Hf hm.1.2.1 hi hid]
 have get:∀j,(hj:j<w.U.length)->(w.U.set i u)[j]'(by simpa using hj)=if i=j then u else w.U[j]:=λj hj=>Fcf ..
 refine Vr hm (by simp) (λj hj=>?_) (λj hj hn=>?_) (λj hj=>?_)
 ·rw[get j hj]
  split
  ·rename_i e;subst e;exact h1
  ·rfl
 ·rw[get j hj]
  split
  ·rename_i e;subst e;exact absurd h0 hn
  ·rfl
 ·rw[get j hj]
  split
  ·exact h2
  ·exact(hm.1.2.2 _ (Faa hj)).1
theorem Na{v:Vc}:∀(n k:Nat) {r:Nat×Vc},kj w u v n k=some r->qf w u.id u.kind r.2/\(k<=r.1/\r.1<k+n)/\r.2=jf u.pos (Aw v r.1)
 |0,k,r,h=>by cases h
 |n+1,k,r,h=>by
  unfold kj at h
  split at h
  ·cases h
  ·split at h
   ·cases h
    exact⟨‹_›,by omega,rfl⟩
   ·obtain⟨h1,h2,h3⟩:=Na n (k+1) h
    exact⟨h1,by omega,h3⟩
theorem na(hm:z7 w)(hi:i<w.U.length)(h0:w.U[i].inn=0)(v:Vc):z7 (jy w w.U[i] v):=by
 unfold jy
 cases h:kj w w.U[i] (j9 v) 5 0 with
 |none=>exact hm
 |some r=>
  obtain⟨k,p⟩:=r
  dsimp only
  obtain⟨h1,_,_⟩:=Na 5 0 h
  rw[Hf (u:={w.U[i]with pos:=p}) hm.1.2.1 hi rfl]
  have:=nf hm hi h1
  have e:({w.U[i]with pos:=p,inn:=0}:Unt)={w.U[i]with pos:=p}:=by rw[<-h0]
  rw[e]at this
  exact this
theorem Rs(hm:z7 w)(hi:i<w.U.length):xt w w.U[i]:=(hm.1.2.2 _ (Faa hi)).1
theorem zb4(h:xt w u)(hs:s=2\/s=3\/s=4):xt w (k8 s u):=by
 obtain⟨⟨a1,a2,a3⟩,_,_,_⟩:=h
 refine⟨⟨a1,a2,a3⟩,⟨.inl rfl,.inl rfl,by show(0:Int)<=0/\(0:Int)<8;omega⟩,⟨by show 0<=s/\s<=4;omega,?_⟩,λ_=>⟨rfl,rfl⟩⟩
 show s=1↔(-1:Int)≠-1
 omega
theorem M5(h:xt w u)(hg:u.goal≠-1){nx st:Int}(hn:vg w.G nx)(hs:0<=st/\st<8):xt w {u with next:=nx,stuck:=st}:=by
 obtain⟨⟨a1,a2,a3⟩,⟨b1,b2,b3⟩,c,d⟩:=h
 exact⟨⟨a1,a2,a3⟩,⟨b1,hn,hs⟩,c,λe=>absurd e hg⟩
theorem Vs(hm:z7 w)(hi:i<w.U.length)(h0:w.U[i].inn=0)(hs:s=2\/s=3\/s=4)(hu:mvG 0 u=mvG 0 w.U[i])(hup:xt w u):z7 (yj w (k8 s u)):=
 Ou hm hi h0 (by rw[<-hu];rfl) (zb4 hup hs)
theorem nc(hm:z7 w)(hi:i<w.U.length)(h0:w.U[i].inn=0)(hu:mvG 0 u=mvG 0 w.U[i])(hup:xt w u)(hg:u.goal≠-1):z7 (vh w u):=by
 have hid:u.id=w.U[i].id:=(Hm hu).1
 have hin:u.inn=w.U[i].inn:=(Hm hu).2.2.2.2
 unfold vh
 split
 ·have hp:xt w {u with stuck:=0}:=M5 hup hg hup.2.1.2.1 (by omega)
  have hm2:z7 (yj w {u with stuck:=0}):=Ou hm hi h0 (by rw[<-hu];rfl) hp
  obtain⟨h2,e⟩:=N9 (u:={u with stuck:=0}) hm.1.2.1 hi hid
  have:=na hm2 h2 (by rw[e];exact hin.trans h0) (G6 u.pos (ye w.G u.next.toNat) (j5 u.kind))
  rw[e]at this
  exact this
 ·split
  ·exact Vs hm hi h0 (.inr (.inr rfl)) hu hup
  ·rename_i h8
   have:=hup.2.1.2.2
   exact Ou hm hi h0 (by rw[<-hu];rfl) (M5 hup hg (.inl rfl) (by omega))
theorem lz(hm:z7 w)(hi:i<w.U.length)(h0:w.U[i].inn=0):(0<=w.U[i].pos.1/\w.U[i].pos.1<w.G.W*65536)/\(0<=w.U[i].pos.2/\w.U[i].pos.2<w.G.H*65536):=by
 have:=Ph hm.1.1.2.1.1 (hm.2.1 _ (Faa hi) h0).1
 have:=this.1
 have:=this.2
 omega
theorem S9(hm:z7 w)(hi:i<w.U.length)(h0:w.U[i].inn=0):jg w.G w.U[i].pos<w.G.T.length:=(er hm.1.1.2.1.1 (lz hm hi h0)).2.1
theorem R7{g:Gnd}(hg:zn g){t:Nat}(h:t<g.T.length):vg g (t:Int):=.inr (by have:=hg.2.2.1;omega)
theorem zbo(g:Gnd)(ok:Nat->Bool)(c:Int)(d:Nat->Int)(t:Nat):xk g ok c d t=-1\/∃way:Nat,way<8/\xk g ok c d t=way/\0<qe g ok c t way:=by
 unfold xk
 split
 ·exact .inl rfl
 ·cases h:(List.range 8).find? λway=>decide (0<qe g ok c t way/\0<=d (yd g t way).toNat/\qe g ok c t way+d (yd g t way).toNat=d t)with
  |none=>exact .inl rfl
  |some way=>
   have h1:=Fc6 h
   have h2:=Feg h
   exact .inr ⟨way,by simpa using h1,rfl,(of_decide_eq_true h2).1⟩
theorem Vh(hg:zn w.G){own:Nat}(ho:own<w.G.T.length):vg w.G (Bg w u own):=by
 unfold Bg
 split
 ·exact R7 hg ho
 ·dsimp only
  rcases zbo w.G (okU w u) (yu u.kind) (jj w.G (okU w u) (yu u.kind) u.goal.toNat) own with h|⟨way,h1,h2,_⟩
  ·rw[h,if_pos (by decide)];exact .inl rfl
  ·rw[h2,if_neg (by omega)]
   rcases P7 hg (t:=own) (way:=way) h1 with h3|⟨x,h3,h4⟩
   ·rw[Fa9,h3];exact .inl rfl
   ·rw[Fa9,h3];exact R7 hg h4
theorem zzj(hm:z7 w)(hi:i<w.U.length)(h0:w.U[i].inn=0)(hg:w.U[i].goal≠-1):z7 (Cc w w.U[i]):=by
 have hu:=Rs hm hi
 unfold Cc
 split
 ·exact Vs hm hi h0 (.inl rfl) rfl hu
 ·split
  ·split
   ·exact Vs hm hi h0 (.inr (.inl rfl)) rfl hu
   ·exact nc hm hi h0 (u:={w.U[i]with next:=Bg w w.U[i] (jg w.G w.U[i].pos)}) rfl (M5 hu hg (Vh hm.1.1.2.1.1 (S9 hm hi h0)) hu.2.1.2.2) hg
  ·exact nc hm hi h0 rfl hu hg
theorem zzb(hm:z7 w)(hi:i<w.U.length)(h0:w.U[i].inn=0):z7 (xl w w.U[i]):=by
 unfold xl
 split
 ·exact na hm hi h0 _
 ·exact zzj hm hi h0 ‹_›
end
section
variable {a b m L c:Int}
theorem K7(ha:0<=a)(h:a<=b):a*a<=b*b:=Fbk h h ha (by omega)
theorem zrg{p q:Int}(hp:0<=p)(h:p<q):p*p<q*q:=
 Int.lt_of_le_of_lt (Fdd (Int.le_of_lt h) hp) (Int.mul_lt_mul_of_pos_right h (by omega))
theorem I4(a b c d:Int):a*b*(c*d)=a*c*(b*d):=by ac_rfl
theorem yel{x y s:Int}(hx:0<=x)(hy:0<=y)(hm:0<=m)(hmL:m<L)(hs:x*x+y*y<(L+1)*(L+1))(ha:a=x*m/L)(hb:b=y*m/L):a*a+b*b<(m+1)*(m+1):=by
 have hL:0<L:=by omega
 have a1:a*L<=x*m:=by rw[ha];exact Int.ediv_mul_le _ (by omega)
 have b1:b*L<=y*m:=by rw[hb];exact Int.ediv_mul_le _ (by omega)
 have a0:0<=a:=by rw[ha];exact Fcs (Fay hx hm) (by omega)
 have b0:0<=b:=by rw[hb];exact Fcs (Fay hy hm) (by omega)
 have a2:=K7 (Fay a0 (by omega:(0:Int)<=L)) a1
 have b2:=K7 (Fay b0 (by omega:(0:Int)<=L)) b1
 have e1:(a*a+b*b)*(L*L)=a*L*(a*L)+b*L*(b*L):=by
  rw[Fd5,I4 a a L L,I4 b b L L]
 have e2:x*m*(x*m)+y*m*(y*m)=(x*x+y*y)*(m*m):=by
  rw[Fd5,I4 x x m m,I4 y y m m]
 have h1:(a*a+b*b)*(L*L)<=(x*x+y*y)*(m*m):=by rw[e1,<-e2];exact Int.add_le_add a2 b2
 refine Int.not_le.1 λhle=>?_
 have h2:(m+1)*(m+1)*(L*L)<=(x*x+y*y)*(m*m):=Int.le_trans (Int.mul_le_mul_of_nonneg_right hle (Fay (by omega) (by omega))) h1
 have h3:(x*x+y*y)*(m*m)<=((L+1)*(L+1))*(m*m):=Int.mul_le_mul_of_nonneg_right (by omega) (Fay hm hm)
 have e3:(m+1)*(m+1)*(L*L)=((m+1)*L)*((m+1)*L):=I4 ..
 have e4:((L+1)*(L+1))*(m*m)=((L+1)*m)*((L+1)*m):=I4 ..
 have h4:((L+1)*m)*((L+1)*m)<((m+1)*L)*((m+1)*L):=by
  have k1:(L+1)*m<(m+1)*L:=by
   rw[Fd5,Fd5,Fcm L m];omega
  have k0:0<=(L+1)*m:=Fay (by omega) hm
  exact zrg k0 k1
 omega
def wh(v:Vc):Prop:=(-1125899906842624<=v.1/\v.1<=1125899906842624)/\(-1125899906842624<=v.2/\v.2<=1125899906842624)
theorem Ha{v:Vc}(h:wh v):sqr v=v.1*v.1+v.2*v.2/\j9 v=v/\0<=sqr v/\sqr v<(j1 (sqr v)+1)*(j1 (sqr v)+1):=by
 obtain⟨h1,h2⟩:=h
 have e:sqr v=v.1*v.1+v.2*v.2:=by unfold sqr;rw[P9 (by omega),P9 (by omega)]
 have p1:0<=v.1*v.1:=by rcases Int.le_total 0 v.1 with h|h;exact Fay h h;rw[<-Fdg];exact Fay (by omega) (by omega)
 have p2:0<=v.2*v.2:=by rcases Int.le_total 0 v.2 with h|h;exact Fay h h;rw[<-Fdg];exact Fay (by omega) (by omega)
 have b:∀x:Int,-1125899906842624<=x/\x<=1125899906842624->x*x<=1125899906842624*1125899906842624:=λx hx=>by
  rcases Int.le_total 0 x with h|h
  ·exact K7 h hx.2
  ·rw[<-Fdg];exact K7 (by omega) (by omega)
 have b1:=b _ h1
 have b2:=b _ h2
 have h0:0<=sqr v:=by omega
 refine⟨e,?_,h0,?_⟩
 ·unfold j9;rw[ji (by omega),ji (by omega)]
 ·obtain⟨r0,r1,r2,r3⟩:=Iw h0
  rcases r3 with r3|r3
  ·rw[r3]at r2;omega
  ·exact r3
theorem Kx(x:Int):x*x=(x.natAbs:Int)*x.natAbs:=by rw[<-Int.natCast_mul,Int.natAbs_mul_self]
theorem W4(hm:0<=m)(hL:0<L):((Fl c m L).natAbs:Int)=(c.natAbs:Int)*m/L:=by
 have q:∀z:Int,0<=z->0<=z*m/L:=λz hz=>Fcs (Fay hz hm) (by omega)
 unfold Fl
 split
 ·have:=q (-c) (by omega)
  rw[show(c.natAbs:Int)=-c by omega];omega
 ·have:=q c (by omega)
  rw[show(c.natAbs:Int)=c by omega];omega
theorem Pu(hm:0<=m)(hmL:m<L):(Fl c m L).natAbs<=c.natAbs:=by
 have h1:=W4 (c:=c) hm (show 0<L by omega)
 have h2:(c.natAbs:Int)*m/L<=c.natAbs:=by
  have:(c.natAbs:Int)*m<=c.natAbs*L:=Fdd (by omega) (by omega)
  exact Int.le_trans (Int.ediv_le_ediv (by omega) this) (by rw[Int.mul_ediv_cancel _ (by omega)];exact Fcx _)
 omega
theorem sx{v:Vc}(hs:wh v)(hm:0<=m):wh (je v m)/\(je v m).1*(je v m).1+(je v m).2*(je v m).2<(m+1)*(m+1):=by
 obtain⟨e,en,h0,h1⟩:=Ha hs
 have hmx:max m 0=m:=by omega
 have n1:nrm v.1=v.1:=congrArg Prod.fst en
 have n2:nrm v.2=v.2:=congrArg Prod.snd en
 have r0:=(Iw h0).1
 unfold je
 rw[hmx]
 split
 ·rename_i hle
  rw[en]
  refine⟨hs,?_⟩
  have:=K7 (show 0<=j1 (sqr v)+1 by omega) (show j1 (sqr v)+1<=m+1 by omega)
  omega
 ·rename_i hgt
  rw[n1,n2]
  have hmL:m<j1 (sqr v):=by omega
  have c1:=Pu (c:=v.1) hm hmL
  have c2:=Pu (c:=v.2) hm hmL
  refine⟨?_,?_⟩
  ·unfold wh at hs⊢
   dsimp only
   omega
  ·dsimp only
   rw[Kx (Fl v.1 _ _),Kx (Fl v.2 _ _)]
   refine yel (s:=0) (x:=v.1.natAbs) (y:=v.2.natAbs) (by omega) (by omega) hm hmL ?_ (W4 hm (by omega)) (W4 hm (by omega))
   rw[<-Kx,<-Kx]
   omega
theorem ou(x:Int)(k:Nat):(x.tdiv (2^k:Nat)).natAbs<=x.natAbs:=by
 rw[Int.natAbs_tdiv]
 exact Nat.div_le_self _ _
def qw(p:Vc):Prop:=(0<=p.1/\p.1<=8388608)/\(0<=p.2/\p.2<=8388608)
theorem Ma(ha:-2251799813685248<=a/\a<=2251799813685248)(hb:-2251799813685248<=b/\b<=2251799813685248):yy a b=a+b:=by
 unfold yy xo
 rw[ji (by omega),ji (by omega),if_neg (by omega),if_neg (by omega)]
theorem Rl{p q:Vc}(hp:qw p)(hq:qw q):qq q p=(q.1-p.1,q.2-p.2)/\wh (qq q p):=by
 obtain⟨p1,p2⟩:=hp
 obtain⟨q1,q2⟩:=hq
 have e:=cy (a:=q) (b:=p) (by omega) (by omega) (by omega) (by omega)
 refine⟨e,?_⟩
 rw[e]
 unfold wh
 dsimp only
 omega
theorem S0{p q:Vc}(hp:qw p)(hq:qw q){r:Int}(hr:0<r):-16777216<=(wi p r q).1/\(wi p r q).1<=16777216/\-16777216<=(wi p r q).2/\(wi p r q).2<=16777216:=by
 obtain⟨e,hs⟩:=Rl hq hp
 unfold wi
 split
 ·rename_i hn
  generalize hm:r-j1 (sqr (qq p q))=m
  have hv:∀w:Vc,wh w->(w.1.natAbs<=16777216/\w.2.natAbs<=16777216)->-16777216<=(je w m).1/\(je w m).1<=16777216/\-16777216<=(je w m).2/\(je w m).2<=16777216:=by
   intro w hw hb
   obtain⟨_,en,_,_⟩:=Ha hw
   have n1:nrm w.1=w.1:=congrArg Prod.fst en
   have n2:nrm w.2=w.2:=congrArg Prod.snd en
   unfold je
   split
   ·rw[en];omega
   ·rename_i hgt
    rw[n1,n2]
    have c1:=Pu (c:=w.1) (m:=max m 0) (L:=j1 (sqr w)) (by omega) (by omega)
    have c2:=Pu (c:=w.2) (m:=max m 0) (L:=j1 (sqr w)) (by omega) (by omega)
    dsimp only
    omega
  obtain⟨p1,p2⟩:=hp
  obtain⟨q1,q2⟩:=hq
  split
  ·exact hv _ (by unfold wh;decide) (by decide)
  ·refine hv _ hs ?_
   rw[e]
   dsimp only
   omega
 ·decide
theorem ya6{w:Wld}{u:Unt}(hu:qw u.pos)(h:∀x∈w.U,x.inn=0->qw x.pos)(hl:w.U.length<=4096):wh (Gh w u):=by
 have key:∀(l:List Unt) (v:Vc) (B:Nat),(∀x∈l,x.inn=0->qw x.pos)->B+l.length<=4096->(v.1.natAbs<=B*16777216/\v.2.natAbs<=B*16777216)->
   wh (l.foldl (λv x=>if x.inn=0/\x.id≠u.id then jf v (wi u.pos (zp u.kind+zp x.kind+16384) x.pos)else v) v):=by
  intro l
  induction l with
  |nil=>
   intro v B _ hB hv
   unfold wh
   simp only[List.length_nil]at hB
   simp only[List.foldl_nil]
   omega
  |cons x l ih=>
   intro v B hx hB hv
   simp only[Fbi]at hB
   rw[Fcq]
   refine ih _ (B+1) (λy hy=>hx y (Fa3 _ hy)) (by omega) ?_
   split
   ·rename_i hc
    have r1:=He u.kind
    have r2:=He x.kind
    have:=S0 hu (hx x Fbj hc.1) (r:=zp u.kind+zp x.kind+16384) (by omega)
    generalize wi u.pos (zp u.kind+zp x.kind+16384) x.pos=z at*
    have e:jf v z=(v.1+z.1,v.2+z.2):=by
     unfold jf
     rw[Ma (by omega) (by omega),Ma (by omega) (by omega)]
    rw[e]
    dsimp only
    omega
   ·exact⟨Fda hv.1 (Fa7 _ (Fd4 B)),Fda hv.2 (Fa7 _ (Fd4 B))⟩
 unfold Gh
 refine key w.U (0,0) 0 h (by omega) ⟨?_,?_⟩
 ·show(0:Int).natAbs<=_;simp
 ·show(0:Int).natAbs<=_;simp
end
section
variable {w:Wld} {i:Nat} {u:Unt}
theorem lb(w:Wld){a b:Unt}(h:a.id=b.id):yj (yj w a) b=yj w b:=by
 unfold yj
 simp only[List.map_map]
 congr 1
 refine Fb0 λx _=>?_
 simp only[Function.comp]
 by_cases e:x.id=a.id
 ·rw[if_pos e,if_pos h,if_pos (e.trans h)]
 ·rw[if_neg e]
theorem zxk(hr:yg w.U)(hi:i<w.U.length):yj w w.U[i]=w:=by
 rw[Hf hr hi rfl]
 congr 1
 exact List.set_getElem_self hi
theorem zwg(hr:yg w.U)(hi:i<w.U.length)(hid:u.id=w.U[i].id):yg (yj w u).U:=by
 refine ip (N8 w u) (λj hj=>?_) hr
 by_cases e:j=i
 ·subst e
  obtain⟨_,h⟩:=N9 hr hi hid
  rw[h];exact hid
 ·rw[lc hr hi hid hj e]
def H8(u u':Unt):Prop:=u'.id=u.id/\u'.kind=u.kind/\(u'.pos=u.pos\/∃(v:Vc) (m:Int) (k:Nat),wh v/\0<=m/\m<=j5 u.kind/\u'.pos=jf u.pos (Aw (j9 (je v m)) k))
theorem Ni(k:Int):8192<=j5 k/\j5 k<=24576:=by unfold j5;split<;>(try split)<;>(try split)<;>omega
theorem ee(hr:yg w.U)(hi:i<w.U.length){v:Vc}{m:Int}(hs:wh v)(hm:0<=m)(hm2:m<=j5 w.U[i].kind):∃u',jy w w.U[i] (je v m)=yj w u'/\H8 w.U[i] u':=by
 unfold jy
 cases h:kj w w.U[i] (j9 (je v m)) 5 0 with
 |none=>exact⟨w.U[i],(zxk hr hi).symm,rfl,rfl,.inl rfl⟩
 |some r=>
  obtain⟨k,p⟩:=r
  obtain⟨_,_,h3⟩:=Na 5 0 h
  exact⟨_,rfl,rfl,rfl,.inr ⟨v,m,k,hs,hm,hm2,h3⟩⟩
theorem Lq(hm:z7 w)(hu:u∈w.U)(h0:u.inn=0):qw u.pos:=by
 have:=Ph hm.1.1.2.1.1 (hm.2.1 u hu h0).1
 unfold qw
 omega
theorem tb{g:Gnd}(hg:zn g){t:Nat}(ht:t<g.T.length):qw (ye g t):=by
 obtain⟨⟨h1,h2⟩,⟨h3,h4⟩,h5,_⟩:=hg
 have a:=Fc9 (t:Int) (show g.W≠0 by omega)
 have b:=Fdz (t:Int) (show 0<g.W by omega)
 have c:0<=(t:Int)/g.W:=Fcs (by omega) (by omega)
 have d:(t:Int)/g.W<g.H:=Fea (by omega) (by rw[Fcm];omega)
 unfold qw ye tx ty
 dsimp only
 omega
theorem fi(hm:z7 w)(hi:i<w.U.length)(h0:w.U[i].inn=0)(hu:mvG 0 u=mvG 0 w.U[i])(ht:u.next.toNat<w.G.T.length):∃u',vh w u=yj w u'/\H8 w.U[i] u':=by
 obtain⟨f1,f2,f3,f4,f5⟩:=Hm hu
 have hmp:=Lq hm (Faa hi) h0
 have same:∀u':Unt,u'.id=u.id->u'.kind=u.kind->u'.pos=u.pos->∃u2,yj w u'=yj w u2/\H8 w.U[i] u2:=λu' a b c=>⟨u',rfl,a.trans f1,b.trans f3,.inl (c.trans f4)⟩
 unfold vh
 split
 ·obtain⟨h2,e⟩:=N9 (u:={u with stuck:=0}) hm.1.2.1 hi f1
  have hr2:=zwg (u:={u with stuck:=0}) hm.1.2.1 hi f1
  have hs:=(Rl (p:=u.pos) (q:=ye w.G u.next.toNat) (by rw[f4];exact hmp) (tb hm.1.1.2.1.1 ht)).2
  have hsp:=Ni u.kind
  obtain⟨u2,e2,k1,k2,k3⟩:=ee hr2 h2 (v:=qq (ye w.G u.next.toNat) u.pos) (m:=j5 u.kind) hs (by omega) (by rw[e];exact Fcx _)
  rw[e]at e2 k1 k2 k3
  refine⟨u2,?_,k1.trans f1,k2.trans f3,?_⟩
  ·unfold G6
   rw[e2]
   exact lb w k1.symm
  ·rw[<-f4,<-f3];exact k3
 ·split
  ·exact same _ rfl rfl rfl
  ·exact same _ rfl rfl rfl
theorem zym(hg:zn w.G){own:Nat}(ho:own<w.G.T.length)(h:¬Bg w u own<0):(Bg w u own).toNat<w.G.T.length:=by
 have:=Vh hg (u:=u) ho
 have:=hg.2.2.1
 unfold vg at*
 omega
theorem yb3(hm:z7 w)(hi:i<w.U.length)(h0:w.U[i].inn=0)(hg:w.U[i].goal≠-1):∃u',Cc w w.U[i]=yj w u'/\H8 w.U[i] u':=by
 have hu:=Rs hm hi
 have hgn:=hm.1.1.2.1.1
 unfold Cc
 split
 ·exact⟨_,rfl,rfl,rfl,.inl rfl⟩
 ·split
  ·split
   ·exact⟨_,rfl,rfl,rfl,.inl rfl⟩
   ·rename_i hn
    exact fi hm hi h0 (u:={w.U[i]with next:=Bg w w.U[i] (jg w.G w.U[i].pos)}) rfl (zym hgn (S9 hm hi h0) hn)
  ·rename_i hl
   refine fi hm hi h0 rfl ?_
   have hne:w.U[i].next≠-1:=λe=>hl (by unfold Fc;simp[e])
   have:=hu.2.1.2.1
   have:=hgn.2.2.1
   unfold vg at*
   omega
theorem zb6(hm:z7 w)(hi:i<w.U.length)(h0:w.U[i].inn=0):∃u',xl w w.U[i]=yj w u'/\H8 w.U[i] u':=by
 unfold xl
 split
 ·have hsp:=Ni w.U[i].kind
  have e:(j5 w.U[i].kind).tdiv 4=j5 w.U[i].kind/4:=Fba (by omega)
  unfold C6
  rw[e]
  exact ee hm.1.2.1 hi (ya6 (Lq hm (Faa hi) h0) (λx hx h=>Lq hm hx h) hm.1.1.2.1.2.2) (by omega) (by omega)
 ·exact yb3 hm hi h0 ‹_›
end
structure MayF(w:Wld):Prop where
 hg:zn w.G
 hB:w.B.length<=256
 hU:w.U.length<=4096
 hT:w.G.T.length<=16384
 hb:∀b∈w.B,yc b/\onP w.G b
 hk:∀u∈w.U,vy u.kind
 hr:yg w.U
 hn1:1<=w.next
 hn2:w.next<=1099511627776
theorem ku{w:Wld}(h:z7 w):MayF w:=by
 obtain⟨⟨hh,hok⟩,_⟩:=h
 have hbl:=hh.2.1.2.1
 have ha:=qi hh.2.1.1
 exact⟨hh.2.1.1,hbl.1,hh.2.1.2.2,by omega,λb hb=>⟨(hbl.2.2.1 b hb).1,(hbl.2.2.1 b hb).2.1⟩,λu hu=>(hok.2 u hu).1.1.2.2,hok.1,hh.1.2.2.1,hh.1.2.2.2⟩
theorem MayF.fits{w:Wld}(h:MayF w):w.fits:=⟨by unfold Gnd.fits;have:=h.hT;omega,by have:=h.hB;omega,by have:=h.hU;omega⟩
theorem Oy(k:Int):0<=xx k/\xx k<=3:=by unfold xx;split<;>decide
structure Scr24 where
 W:Wld
 I:List Int
 V:List Vc
def Scr24.good(s:Scr24):Prop:=(∀u∈s.W.U,u.pos.ok)/\(∀n∈s.I,ya n)/\∀v∈s.V,v.ok
theorem zbx(a b:Vc):(jf a b).ok:=by
 have h1:=Pz (nrm a.1+nrm b.1)
 have h2:=Pz (nrm a.2+nrm b.2)
 exact⟨⟨by show _<=xo _;omega,by show xo _<=_;omega⟩,⟨by show _<=xo _;omega,by show xo _<=_;omega⟩⟩
def playW(w:Wld):Prop:=z7 w/\∀u∈w.U,u.pos.ok
theorem playW.sizes{w:Wld}(h:playW w):w.G.T.length<=1000000/\w.B.length<=1000000/\w.U.length<=1000000:=by
 have f:=ku h.1
 have:=f.hB
 have:=f.hU
 have:=f.hT
 omega
theorem zbb{u u':Unt}(h:H8 u u')(hu:u.pos.ok):u'.pos.ok:=by
 rcases h.2.2 with e|⟨v,m,k,_,_,_,e⟩
 ·rw[e];exact hu
 ·rw[e];exact zbx _ _
theorem zxh{w:Wld}{u:Unt}(hw:∀x∈w.U,x.pos.ok)(hu:u.pos.ok):∀x∈(yj w u).U,x.pos.ok:=by
 intro x hx
 unfold yj at hx
 obtain⟨y,hy,rfl⟩:=Fac.1 hx
 split
 ·exact hu
 ·exact hw y hy
section
variable {w:Wld} {i:Nat}
open Classical in
noncomputable def goN(w:Wld):Nat->Wld
 |0=>w
 |i+1=>if h:i<(goN w i).U.length then(if(goN w i).U[i].inn=0 then xl (goN w i) (goN w i).U[i]else goN w i)else goN w i
noncomputable def jc(w:Wld):Wld:=goN w w.U.length
theorem zxt(h:playW w)(hi:i<w.U.length)(h0:w.U[i].inn=0):playW (xl w w.U[i])/\(xl w w.U[i]).U.length=w.U.length/\(xl w w.U[i]).G=w.G/\(xl w w.U[i]).B=w.B:=by
 obtain⟨u',h1,h2⟩:=zb6 h.1 hi h0
 refine⟨⟨zzb h.1 hi h0,?_⟩,?_,?_,?_⟩
 ·rw[h1]
  exact zxh h.2 (zbb h2 (h.2 _ (Faa hi)))
 ·rw[h1,N8]
 ·rw[h1];rfl
 ·rw[h1];rfl
theorem Pf(h:playW w):∀i,playW (goN w i)/\(goN w i).U.length=w.U.length/\(goN w i).G=w.G/\(goN w i).B=w.B
 |0=>⟨h,rfl,rfl,rfl⟩
 |i+1=>by
  obtain⟨h1,h2,h3,h4⟩:=Pf h i
  unfold goN
  by_cases hi:i<(goN w i).U.length
  ·rw[dif_pos hi]
   by_cases h0:(goN w i).U[i].inn=0
   ·rw[if_pos h0]
    obtain⟨q1,q2,q3,q4⟩:=zxt h1 hi h0
    exact⟨q1,q2.trans h2,q3.trans h3,q4.trans h4⟩
   ·rw[if_neg h0]
    exact⟨h1,h2,h3,h4⟩
  ·rw[dif_neg hi]
   exact⟨h1,h2,h3,h4⟩
theorem yb6(hi:i<(goN w i).U.length)(h0:(goN w i).U[i].inn=0):goN w (i+1)=xl (goN w i) (goN w i).U[i]:=by
 rw[goN,dif_pos hi,if_pos h0]
theorem yb5(hi:i<(goN w i).U.length)(h0:(goN w i).U[i].inn≠0):goN w (i+1)=goN w i:=by
 rw[goN,dif_pos hi,if_neg h0]
theorem yg1(h:playW w):playW (jc w)/\(jc w).U.length=w.U.length:=⟨(Pf h _).1,(Pf h _).2.1⟩
end
section
variable {x:Unt} {w:Wld}
theorem Lz{U:List Unt}{v:Unt}(h:v∈U++[x]):v∈U\/v=x:=by
 rcases Fal.1 h with h|h
 ·exact .inl h
 ·exact .inr (Fcb.1 h)
theorem zwh{U:List Unt}(hr:yg U)(hx:∀u∈U,u.id<x.id):yg (U++[x]):=by
 intro j hj h0
 have hj2:j<U.length+1:=by rw[Fag]at hj;exact hj
 by_cases e:j<U.length
 ·rw[Fbt (by omega),Fbt e]
  exact hr j e h0
 ·have ej:j=U.length:=by omega
  subst ej
  rw[Fbt (by omega),Fdq (Fak _)]
  simp only[Nat.sub_self,Fcn]
  exact hx _ (Faa (by omega))
theorem zze{c:Cmd}(hm:z7 w)(hc:vn c)(hp:c.P<=w.players)(hk:c.K=1)(h:spE w c=0):z7 (spW w c):=by
 have hn:¬Ds w:=λhf=>by unfold spE at h;rw[if_pos hf]at h;cases h
 have hcl:qf w 0 c.N (c.X,c.Y):=Classical.byContradiction λhh=>by unfold spE at h;rw[if_neg hn,if_neg hh]at h;cases h
 unfold Ds at hn
 have hn1:w.U.length<4096:=by omega
 have hn2:w.next<1099511627776:=by omega
 obtain⟨⟨hh,hr,hu⟩,hcc,hd⟩:=hm
 have hg:=hh.2.1.1
 have hN:=((Cmd.ok1 hk).1 hc.1).1
 have hl:(w.U++[spU w c]).length=w.U.length+1:=by rw[Fag];rfl
 have hnx:=hh.1.2.2.1
 have upu:∀v,xt w v->xt (spW w c) v:=λv hv=>⟨⟨⟨hv.1.1.1,by show v.id<w.next+1;have:=hv.1.1.2;omega⟩,hv.1.2⟩,hv.2⟩
 have hin:∀id,id≠0->zv (w.U++[spU w c]) id=zv w.U id:=λid hid=>by
  unfold zv
  rw[Fc5]
  have:[spU w c].filter (λu=>u.inn==id)=[]:=by
   rw[Fcw]
   have e:((spU w c).inn==id)=false:=by show((0:Int)==id)=false;simpa using λe=>hid e.symm
   rw[e]
   rfl
  rw[this,Fbp]
 refine⟨⟨⟨⟨hh.1.1,hh.1.2.1,by show 1<=w.next+1/\w.next+1<=_;omega⟩,⟨hg,hh.2.1.2.1,by show(w.U++[spU w c]).length<=_;omega⟩,λb hb=>⟨(hh.2.2 b hb).1,by show b.id<w.next+1;have:=(hh.2.2 b hb).2;omega⟩⟩,?_,λv hv=>?_⟩,λv hv h0=>?_,λv hv h0=>?_⟩
 ·exact zwh hr λu hu2=>(hu u hu2).1.1.1.2
 ·rcases Lz hv with hv|rfl
  ·exact⟨upu v (hu v hv).1,(hu v hv).2⟩
  ·refine⟨⟨⟨⟨hnx,by show w.next<w.next+1;omega⟩,⟨hc.2.1.1,hp⟩,hN⟩,⟨.inl rfl,.inl rfl,by show(0:Int)<=0/\(0:Int)<8;decide⟩,⟨by show(0:Int)<=0/\(0:Int)<=4;decide,⟨λe=>absurd (show(0:Int)=1 from e) (by decide),λe=>absurd rfl e⟩⟩,λ_=>⟨rfl,rfl⟩⟩,λb hb=>?_⟩
   have:=(hh.2.2 b hb).2
   show b.id≠w.next
   omega
 ·rcases Lz hv with hv|rfl
  ·have hv0:=hcc v hv h0
   refine⟨hv0.1,λx hx hx0 hxi=>?_⟩
   rcases Lz hx with hx|rfl
   ·exact hv0.2 x hx hx0 hxi
   ·have:=hcl.2 v hv h0 (by have:=(hu v hv).1.1.1.1;omega)
    rw[uy hg hcl.1 hv0.1]at this
    exact this
  ·refine⟨hcl.1,λx hx hx0 hxi=>?_⟩
   rcases Lz hx with hx|rfl
   ·exact hcl.2 x hx hx0 (by have:=(hu x hx).1.1.1.1;omega)
   ·exact absurd rfl hxi
 ·rcases Lz hv with hv|rfl
  ·obtain⟨x,hx,g1,g2,g3,g4⟩:=hd v hv h0
   exact⟨x,List.mem_append_left _ hx,g1,g2,by show((zv (w.U++[spU w c]) _).length:Int)<=_;rw[hin _ h0];exact g3,g4⟩
  ·exact absurd rfl h0
theorem pi{g:Gnd}{l l':List Bld}{c:Int}{p:Vc}{r:Int}(hf:Ag g l c p r)(h:∀t,t<g.T.length->yi g l' c t=false->yi g l c t=false\/¬xm g t p r):Ag g l' c p r:=
 ⟨hf.1,λt ht ho hh=>by
  rcases h t ht ho with e|e
  ·exact hf.2 t ht e hh
  ·exact e hh⟩
theorem ng(hm:z7 w){B:List Bld}{next:Int}(hnx:w.next<=next/\next<=1099511627776)(hb:Fo w.G B)(hb2:∀b∈B,b.owner<=w.players/\b.id<next)(hb3:∀b∈B,∀u∈w.U,b.id≠u.id)
  (hf:∀u∈w.U,u.inn=0->Ag w.G B (yu u.kind) u.pos (zp u.kind)):z7 {w with B:=B,next:=next}:=by
 obtain⟨⟨hh,hr,hu⟩,hcc,hd⟩:=hm
 have hn1:=hh.1.2.2.1
 refine⟨⟨⟨⟨hh.1.1,hh.1.2.1,by show 1<=next/\next<=_;omega⟩,⟨hh.2.1.1,hb,hh.2.1.2.2⟩,hb2⟩,hr,λv hv=>⟨?_,λb hb=>hb3 b hb v hv⟩⟩,λv hv h0=>⟨hf v hv h0,(hcc v hv h0).2⟩,hd⟩
 have hv0:=(hu v hv).1
 exact⟨⟨⟨hv0.1.1.1,by show v.id<next;have:=hv0.1.1.2;omega⟩,hv0.1.2⟩,hv0.2⟩
theorem zzm{c:Cmd}(hm:z7 w)(hc:vn c)(hp:c.P<=w.players)(hk:c.K=4)(h:bdE w c=0):z7 (bdW w c):=by
 unfold bdE at h
 have c1:0<=c.T/\c.T<w.G.W*w.G.H:=Classical.byContradiction λhh=>by rw[if_pos hh]at h;cases h
 rw[if_neg (not_not_intro c1)]at h
 have c2:¬1099511627776<=w.next:=λhh=>by rw[if_pos hh]at h;cases h
 rw[if_neg c2]at h
 have c3:qs w.G w.B (bdB w c)=0:=Classical.byContradiction λhh=>by rw[if_neg hh]at h;exact hh h
 rw[if_pos c3]at h
 have c4:¬Dr w (bdB w c):=λhh=>by rw[if_pos hh]at h;cases h
 unfold qs at c3
 have d1:onP w.G (bdB w c):=Classical.byContradiction λhh=>by rw[if_pos hh]at c3;cases c3
 rw[if_neg (not_not_intro d1)]at c3
 have d2:¬∃x∈w.B,xu x (bdB w c):=λhh=>by rw[if_pos hh]at c3;cases c3
 rw[if_neg d2]at c3
 have d3:Az w.G (bdB w c):=Classical.byContradiction λhh=>by rw[if_pos hh]at c3;cases c3
 rw[if_neg (not_not_intro d3)]at c3
 have d4:¬256<=w.B.length:=λhh=>by rw[if_pos hh]at c3;cases c3
 have hsz:=((Cmd.ok4 hk).1 hc.1).2
 have hh:=hm.1.1
 have hnx:=hh.1.2.2.1
 have hbl:=hh.2.1.2.1
 have ha:=qi hh.2.1.1
 have mem:∀b∈w.B++[bdB w c],b∈w.B\/b=bdB w c:=λb hb=>by
  rcases Fal.1 hb with h|h
  ·exact .inl h
  ·exact .inr (Fcb.1 h)
 have hl:(w.B++[bdB w c]).length=w.B.length+1:=by rw[Fag];rfl
 refine ng hm (B:=w.B++[bdB w c]) (next:=w.next+1) ⟨by omega,by omega⟩ ⟨by omega,?_,λb hb=>?_,?_⟩ (λb hb=>?_) (λb hb u hu=>?_) (λu hu h0=>?_)
 ·intro j hj h0
  have hj2:j<w.B.length+1:=by rw[<-hl];exact hj
  by_cases e:j<w.B.length
  ·rw[Fbt (by omega),Fbt e]
   exact hbl.2.1 j e h0
  ·have ej:j=w.B.length:=by omega
   subst ej
   rw[Fbt (by omega),Fdq (Fak _)]
   simp only[Nat.sub_self,Fcn]
   exact(hh.2.2 _ (Faa (by omega))).2
 ·rcases mem b hb with hb|rfl
  ·exact hbl.2.2.1 b hb
  ·exact⟨⟨⟨hnx,by show w.next<=_;omega⟩,⟨hc.2.1.1,hc.2.1.2⟩,hsz⟩,d1,d3⟩
 ·intro j hj i hij
  have hj2:j<w.B.length+1:=by rw[<-hl];exact hj
  by_cases e:j<w.B.length
  ·rw[Fbt e,Fbt (by omega)]
   exact hbl.2.2.2 j e i hij
  ·have ej:j=w.B.length:=by omega
   subst ej
   rw[Fdq (Fak _),Fbt (by omega)]
   simp only[Nat.sub_self,Fcn]
   intro hmt
   exact d2 ⟨_,Faa (show i<w.B.length by omega),by unfold xu at hmt⊢;omega⟩
 ·rcases mem b hb with hb|rfl
  ·have:=hh.2.2 b hb;exact⟨this.1,by omega⟩
  ·exact⟨hp,by show w.next<w.next+1;omega⟩
 ·rcases mem b hb with hb|rfl
  ·exact(hm.1.2.2 u hu).2 b hb
  ·have:=(hm.1.2.2 u hu).1.1.1.2
   show w.next≠u.id
   omega
 ·refine pi (hm.2.1 u hu h0).1 (λt ht ho=>?_)
  by_cases hb:jt w.G (bdB w c) t
  ·exact .inr λhit=>c4 ⟨t,⟨by omega,hb⟩,u,hu,h0,hit⟩
  ·refine .inl ?_
   unfold yi at ho⊢
   have e:qc w.G (w.B++[bdB w c]) t=qc w.G w.B t:=by
    unfold qc
    rw[List.any_append]
    simp[hb]
   rw[e]at ho
   exact ho
theorem zzk{c:Cmd}(hm:z7 w):z7 (drW w c):=by
 unfold drW
 cases hf:Cd w.B c.N with
 |none=>exact hm
 |some i=>
  have hh:=hm.1.1
  have hbl:=hh.2.1.2.1
  have hil:i<w.B.length:=by
   unfold Cd at hf
   rw[Fbh]at hf
   exact hf.1
  have hlen:(w.B.eraseIdx i).length=w.B.length-1:=List.length_eraseIdx_of_lt hil
  have sub:∀b∈w.B.eraseIdx i,b∈w.B:=λb hb=>List.mem_of_mem_eraseIdx hb
  have get:∀j,(hj:j<(w.B.eraseIdx i).length)->(w.B.eraseIdx i)[j]=if h:j<i then w.B[j]'(by omega)else w.B[j+1]'(by omega):=λj hj=>List.getElem_eraseIdx ..
  have up:∀a b,(ha:a<b)->(hb:b<w.B.length)->(w.B[a]'(by omega)).id<w.B[b].id:=λa b hab=>by
   induction b with
   |zero=>omega
   |succ b ih=>
    intro hb
    have h1:=hbl.2.1 (b+1) hb (by omega)
    simp only[Fdv]at h1
    by_cases e:a=b
    ·subst e;exact h1
    ·have:=ih (by omega) (by omega);omega
  have hnx:=hh.1.2.2
  refine ng hm (B:=w.B.eraseIdx i) (next:=w.next) ⟨by omega,by omega⟩ ⟨by have:=hbl.1;omega,?_,λb hb=>hbl.2.2.1 b (sub b hb),?_⟩ (λb hb=>hh.2.2 b (sub b hb)) (λb hb u hu=>(hm.1.2.2 u hu).2 b (sub b hb)) (λu hu h0=>?_)
  ·intro j hj h0
   rw[get _ (by omega),get _ hj]
   split
   ·split
    ·exact up _ _ (by omega) _
    ·exact up _ _ (by omega) _
   ·rw[dif_neg (by omega)]
    exact up _ _ (by omega) _
  ·intro j hj k hkj
   rw[get _ hj,get _ (by omega)]
   split
   ·rw[dif_pos (by omega)]
    exact hbl.2.2.2 _ _ _ (by omega)
   ·split
    ·exact hbl.2.2.2 _ _ _ (by omega)
    ·exact hbl.2.2.2 _ _ _ (by omega)
  ·refine pi (hm.2.1 u hu h0).1 (λt ht ho=>.inl ?_)
   unfold yi at ho⊢
   cases hc:qc w.G w.B t with
   |true=>rfl
   |false=>
    have:qc w.G (w.B.eraseIdx i) t=false:=by
     unfold qc at hc⊢
     rw[Fdm]at hc⊢
     exact λb hb=>hc b (sub b hb)
    rw[this]at ho
    exact ho
end
section
variable {w:Wld} {j:Nat}
theorem um(hr:yg w.U){P id:Int}(h:xj w P id=0)(hj:j<w.U.length)(hid:w.U[j].id=id):w.U[j].owner=P/\w.U[j].inn=0:=by
 obtain⟨i,hi,hf,e,_,e2,e3⟩:=Gs h
 have:=L7 hr hj hid
 rw[hf]at this
 have:=Option.some.inj this
 subst this
 exact⟨e2,e3⟩
theorem La{l:List Int}{g:Unt->Unt}{U:List Unt}(hj:j<U.length):(qk l g U)[j]'(by rw[Be];exact hj)=if U[j].id∈l then g U[j]else U[j]:=Nl hj
theorem zzc{c:Cmd}(hm:z7 w)(h:stE w c=0):z7 (stW w c):=by
 have hz:=H4 (show jd (xj w c.P) c.U=0 from h)
 have hr:=hm.1.2.1
 refine Vr hm (U:=qk c.U Di w.U) (Be _ _ _) (λj hj=>?_) (λj hj h0=>?_) (λj hj=>?_)
 ·rw[La hj]
  split<;>rfl
 ·rw[La hj]
  split
  ·rename_i e
   exact absurd (um hr (hz _ e) hj rfl).2 h0
  ·rfl
 ·rw[La hj]
  have hu:=(hm.1.2.2 _ (Faa hj)).1
  split
  ·exact⟨hu.1,⟨.inl rfl,.inl rfl,by show(0:Int)<=0/\(0:Int)<8;decide⟩,⟨by show(0:Int)<=0/\(0:Int)<=4;decide,⟨λe=>absurd (show(0:Int)=1 from e) (by decide),λe=>absurd rfl e⟩⟩,λ_=>⟨rfl,rfl⟩⟩
  ·exact hu
theorem zyz{c:Cmd}(hg:zn w.G)(ht:0<=c.T/\c.T<w.G.W*w.G.H)(k:Nat)(kd:Int):0<=At w c k kd/\At w c k kd<w.G.W*w.G.H:=by
 have ha:=qi hg
 by_cases h:k<(qh w kd c.T c.U.length).length
 ·rw[mq h]
  have:=(Si (Faa h)).1
  omega
 ·rw[mr h];exact ht
theorem mo{c:Cmd}(hm:z7 w)(ht:0<=c.T/\c.T<w.G.W*w.G.H)(hz:∀a∈c.U,xj w c.P a=0):∀k,k<=c.U.length->∀j,(hj:j<w.U.length)->(w.U[j].inn≠0->(mvL w c k)[j]'(by rw[Ae];exact hj)=w.U[j])/\xt w ((mvL w c k)[j]'(by rw[Ae];exact hj))
 |0,_,j,hj=>⟨λ_=>rfl,(hm.1.2.2 _ (Faa hj)).1⟩
 |k+1,hk,j,hj=>by
  have ih:=mo hm ht hz k (by omega) j hj
  have hlt:k<c.U.length:=by omega
  have hr:=hm.1.2.1
  obtain⟨i,hi,hf,hid,_,how,hin⟩:=Gs (hz c.U[k] (Faa hlt))
  have hgo:=zyz hm.1.1.2.1.1 ht k w.U[i].kind
  have key:∀L:List Unt,(hL:j<L.length)->L=mvL w c (k+1)->(w.U[j].inn≠0->L[j]=w.U[j])/\xt w L[j]:=λL hL e=>by
   rw[mn hlt hf hi]at e
   subst e
   rw[Fcf]
   split
   ·rename_i e3
    subst e3
    have hu:=(hm.1.2.2 _ (Faa hi)).1
    refine⟨λh0=>absurd hin h0,hu.1,⟨.inr hgo,.inl rfl,by show(0:Int)<=0/\(0:Int)<8;decide⟩,⟨by show(0:Int)<=1/\(1:Int)<=4;decide,⟨λ_=>?_,λ_=>rfl⟩⟩,λe=>?_⟩
    ·show At w c k w.U[i].kind≠-1
     omega
    ·have e:At w c k w.U[i].kind=-1:=e
     omega
   ·exact ih
  exact key _ (by rw[Ae];exact hj) rfl
theorem zzg{c:Cmd}(hm:z7 w)(h:mvE w c=0):z7 (mvW w c):=by
 have ht:0<=c.T/\c.T<w.G.W*w.G.H:=Classical.byContradiction λhh=>by rw[mw hh]at h;cases h
 rw[mv ht]at h
 have hz:=H4 h
 have key:=mo hm ht hz c.U.length (Fak _)
 exact Vr hm (U:=mvL w c c.U.length) (Ae _ _ _) (λj hj=>Om w c _ j hj) (λj hj=>(key j hj).1) (λj hj=>(key j hj).2)
theorem ya2{U:List Unt}(hr:yg U):(U.map (·.id)).Nodup:=by
 rw[List.Nodup,Fcp]
 intro a b ha hb hab
 rw[Faq]at ha hb
 rw[Fbx,Fbx]
 have:=Dj hr hab hb
 omega
theorem yey{U:List Unt}(hr:yg U)(l:List Int):(U.filter λu=>decide (u.id∈l)).length<=l.length:=by
 have h1:((U.filter λu=>decide (u.id∈l)).map (·.id)).Nodup:=(ya2 hr).sublist ((List.filter_sublist).map _)
 have:=Fbu (l₂:=l) h1 (λid hid=>by
  obtain⟨u,hu,rfl⟩:=Fac.1 hid
  exact of_decide_eq_true (Fbo.1 hu).2)
 rw[Faq]at this
 exact this
theorem oi(l:List Int)(n:Int)(M:Int):∀U:List Unt,(zv (qk l (ldU n) U) M).length<=(zv U M).length+(if M=n then(U.filter λu=>decide (u.id∈l)).length else 0)
 |[]=>by simp[zv,qk]
 |a::U=>by
  have ih:=oi l n M U
  unfold zv qk at ih⊢
  simp only[Faq]at ih⊢
  rw[Fb6,Fcw,Fcw,Fcw]
  by_cases e:a.id∈l
  ·simp only[if_pos e,decide_eq_true e,if_true,Fbi]
   by_cases eM:M=n
   ·simp only[if_pos eM]at ih⊢
    have:((ldU n a).inn==M)=true:=by show(n==M)=true;simpa using eM.symm
    simp only[this,if_true,Fbi]
    split<;>(try simp only[Fbi])<;>omega
   ·simp only[if_neg eM]at ih⊢
    have:((ldU n a).inn==M)=false:=by show(n==M)=false;simpa using λe=>eM e.symm
    simp only[this,Fad,if_false]
    split<;>(try simp only[Fbi])<;>omega
  ·simp only[if_neg e,decide_eq_false e,Fad,if_false]
   split
   ·simp only[Fbi];omega
   ·exact ih
theorem zzh{c:Cmd}(hm:z7 w)(hN:1<=c.N)(h:ldE w c=0):z7 (ldW w c):=by
 unfold ldE at h
 have c1:jv w c.P c.N=0:=Classical.byContradiction λhh=>by rw[if_neg hh]at h;exact hh h
 rw[if_pos c1]at h
 have c2:jd (ldA w c.P c.N) c.U=0:=Classical.byContradiction λhh=>by rw[if_neg hh]at h;exact hh h
 rw[if_pos c2]at h
 have c3:¬xi (uAt w c.N).kind<((zv w.U c.N).length:Int)+(c.U.length:Int):=λhh=>by rw[if_pos hh]at h;cases h
 obtain⟨hask,hroom⟩:=bg c1
 obtain⟨ix,hix,hfx,hidx,hux,hox,hinx⟩:=Gs hask
 rw[hux]at hroom c3
 have hz:=H4 c2
 obtain⟨⟨hh,hr,hu⟩,hcc,hd⟩:=hm
 -- who is loaded is on the field,of the same player,and carries nobody
 have ld:∀j,(hj:j<w.U.length)->w.U[j].id∈c.U->w.U[j].owner=c.P/\w.U[j].inn=0/\xi w.U[j].kind=0:=λj hj hid=>by
  obtain⟨a1,a2⟩:=nu (hz _ hid)
  obtain⟨b1,b2⟩:=um hr a1 hj rfl
  refine⟨b1,b2,?_⟩
  have e:uAt w w.U[j].id=w.U[j]:=(M7 (L7 hr hj rfl)).2.2
  rw[e]at a2
  unfold I5 at a2
  have:¬0<xi w.U[j].kind:=λhh=>by rw[if_pos hh]at a2;cases a2
  have:=I8 w.U[j].kind
  omega
 have hxl:w.U[ix].id∉c.U:=λe=>hroom (ld ix hix e).2.2
 have hl:(qk c.U (ldU c.N) w.U).length=w.U.length:=Be _ _ _
 have back:∀v∈qk c.U (ldU c.N) w.U,∃j,∃hj:j<w.U.length,(w.U[j].id∈c.U/\v=ldU c.N w.U[j])\/(w.U[j].id∉c.U/\v=w.U[j]):=λv hv=>by
  obtain⟨j,hj,rfl⟩:=Fai hv
  rw[hl]at hj
  refine⟨j,hj,?_⟩
  rw[La hj]
  split
  ·rename_i e;exact .inl ⟨e,rfl⟩
  ·rename_i e;exact .inr ⟨e,rfl⟩
 have stay:∀j,(hj:j<w.U.length)->w.U[j].id∉c.U->w.U[j]∈qk c.U (ldU c.N) w.U:=λj hj e=>by
  have:(qk c.U (ldU c.N) w.U)[j]'(by rw[hl];exact hj)=w.U[j]:=by rw[La hj,if_neg e]
  rw[<-this]
  exact Faa _
 have cnt:=λM=>oi c.U c.N M w.U
 have cin:=yey hr c.U
 have cN:((zv (qk c.U (ldU c.N) w.U) c.N).length:Int)<=xi w.U[ix].kind:=by
  have:=cnt c.N
  rw[if_pos rfl]at this
  omega
 refine⟨⟨⟨hh.1,⟨hh.2.1.1,hh.2.1.2.1,by show(qk c.U (ldU c.N) w.U).length<=_;rw[hl];exact hh.2.1.2.2⟩,hh.2.2⟩,Sj (g:=ldU c.N) (λ_=>rfl) hr,λv hv=>?_⟩,λv hv h0=>?_,λv hv h0=>?_⟩
 ·obtain⟨j,hj,⟨e,rfl⟩|⟨e,rfl⟩⟩:=back v hv
  ·have hu0:=hu _ (Faa hj)
   exact⟨⟨hu0.1.1,⟨.inl rfl,.inl rfl,by show(0:Int)<=0/\(0:Int)<8;decide⟩,⟨by show(0:Int)<=0/\(0:Int)<=4;decide,⟨λe=>absurd (show(0:Int)=1 from e) (by decide),λe=>absurd rfl e⟩⟩,λ_=>⟨rfl,rfl⟩⟩,hu0.2⟩
  ·exact hu _ (Faa hj)
 ·obtain⟨j,hj,⟨e,rfl⟩|⟨e,rfl⟩⟩:=back v hv
  ·have h0:c.N=0:=h0
   omega
  ·refine W8 (w:=w) rfl rfl (λx hx hx0 hxi=>?_) (hcc _ (Faa hj) h0)
   obtain⟨k,hk,⟨e2,rfl⟩|⟨e2,rfl⟩⟩:=back x hx
   ·have hx0:c.N=0:=hx0
    omega
   ·exact⟨_,Faa hk,hx0,hxi,rfl,rfl⟩
 ·obtain⟨j,hj,⟨e,rfl⟩|⟨e,rfl⟩⟩:=back v hv
  ·obtain⟨l1,l2,l3⟩:=ld j hj e
   refine⟨w.U[ix],stay ix hix hxl,hidx,⟨hinx,?_⟩,cN,l3,rfl,rfl,rfl⟩
   show w.U[ix].owner=w.U[j].owner
   rw[hox,l1]
  ·obtain⟨x,hx,g1,g2,g3,g4⟩:=hd _ (Faa hj) h0
   obtain⟨k,hk,rfl⟩:=Fai hx
   have hne:0<(zv w.U w.U[j].inn).length:=List.length_pos_iff.2 (List.ne_nil_of_mem (yav (Faa hj)))
   have hkl:w.U[k].id∉c.U:=λe2=>by have:=(ld k hk e2).2.2;omega
   refine⟨w.U[k],stay k hk hkl,g1,g2,?_,g4⟩
   show((zv (qk c.U (ldU c.N) w.U) w.U[j].inn).length:Int)<=_
   by_cases eN:w.U[j].inn=c.N
   ·rw[eN]at g1⊢
    have hki:w.U[k]=w.U[ix]:=Gb hr (Faa hk) (Faa hix) (by rw[g1,hidx])
    rw[hki]
    exact cN
   ·have:=cnt w.U[j].inn
    rw[if_neg eN]at this
    omega
theorem zzl{c:Cmd}(h:doE aE w c=0):z7 (aW w c):=by
 obtain⟨hm,hc,hp,he⟩:=rt h
 rcases Vy hc with k|k|k|k|k|k|k
 ·rw[(a1 k).1]at he
  rw[(a1 k).2]
  exact zze hm hc hp k he
 ·rw[(a2 k).1]at he
  rw[(a2 k).2]
  exact zzg hm he
 ·rw[(a3 k).1]at he
  rw[(a3 k).2]
  exact zzc hm he
 ·rw[(a4 k).1]at he
  rw[(a4 k).2]
  exact zzm hm hc hp k he
 ·rw[(a5 k).2]
  exact zzk hm
 ·rw[(a6 k).1]at he
  rw[(a6 k).2]
  exact zzh hm ((Cmd.ok6 k).1 hc.1).2.1 he
 ·rw[(a7 k).2]
  unfold ulW
  cases hu:unl c.T (zv w.U c.N) w with
  |none=>exact hm
  |some x=>exact m9 _ _ _ hm hu
end
section
variable {w:Wld}
theorem ll(h:playW w)(c:Cmd):playW (doW aE aW w c):=by
 by_cases he:doE aE w c=0
 ·rw[rr he]
  exact⟨zzl he,yhj h.2 he⟩
 ·rw[Wv he]
  exact h
noncomputable def xy(w:Wld):List Cmd->Wld
 |[]=>w
 |c::l=>xy (doW aE aW w c) l
noncomputable def k9(w:Wld):List Cmd->List Int
 |[]=>[]
 |c::l=>doE aE w c::k9 (doW aE aW w c) l
theorem sk:∀(l:List Cmd) (w:Wld) (m:List Cmd),xy w (l++m)=xy (xy w l) m/\k9 w (l++m)=k9 w l++k9 (xy w l) m
 |[],_,_=>⟨rfl,rfl⟩
 |c::l,w,m=>by
  obtain⟨h1,h2⟩:=sk l (doW aE aW w c) m
  exact⟨h1,by show _::k9 _ (l++m)=_;rw[h2];rfl⟩
theorem sn:∀(l:List Cmd) (w:Wld),(k9 w l).length=l.length
 |[],_=>rfl
 |c::l,w=>by show(k9 _ l).length+1=_;rw[sn l];rfl
theorem ye4{l:List Cmd}{i:Nat}(hi:i<l.length):xy w (l.take (i+1))=doW aE aW (xy w (l.take i)) l[i]/\k9 w (l.take (i+1))=k9 w (l.take i)++[doE aE (xy w (l.take i)) l[i]]:=by
 rw[Fae hi]
 obtain⟨h1,h2⟩:=sk (l.take i) w [l[i]]
 exact⟨h1,h2⟩
theorem Oc:∀(l:List Cmd) {w:Wld},playW w->playW (xy w l)
 |[],_,h=>h
 |c::l,w,h=>Oc l (ll h c)
theorem yhi(c:Cmd)(hr:yg w.U):(aW w c).tick=w.tick:=by
 unfold aW
 repeat' split
 ·rfl
 ·rfl
 ·rfl
 ·rfl
 ·exact(ydv w c).1
 ·rfl
 ·exact(d0 hr).1
theorem ydz(c:Cmd)(hr:yg w.U):(doW aE aW w c).tick=w.tick:=by
 unfold doW
 split
 ·exact yhi c hr
 ·rfl
theorem sm:∀(l:List Cmd) {w:Wld},playW w->(xy w l).tick=w.tick
 |[],_,_=>rfl
 |c::l,w,h=>(sm l (ll h c)).trans (ydz c h.1.1.2.1)
theorem eh(w:Wld)(u:Unt)(v:Vc):(jy w u v).tick=w.tick:=by
 unfold jy
 split<;>rfl
theorem fk(w:Wld)(u:Unt):(vh w u).tick=w.tick:=by
 unfold vh
 split
 ·exact eh _ _ _
 ·split<;>rfl
theorem zb8(w:Wld)(u:Unt):(xl w u).tick=w.tick:=by
 unfold xl
 split
 ·exact eh _ _ _
 ·unfold Cc
  split
  ·rfl
  ·split
   ·split
    ·rfl
    ·exact fk _ _
   ·exact fk _ _
theorem Kd(w:Wld):∀i,(goN w i).tick=w.tick
 |0=>rfl
 |i+1=>by
  unfold goN
  split
  ·split
   ·exact(zb8 _ _).trans (Kd w i)
   ·exact Kd w i
  ·exact Kd w i
noncomputable def Fz(w:Wld):Wld:={jc w with tick:=(jc w).tick+1}
theorem zc6(w:Wld):(Fz w).tick=w.tick+1:=by
 show(goN w _).tick+1=_
 rw[Kd]
theorem S6(h:playW w)(ht:w.tick<1099511627776):playW (Fz w):=by
 obtain⟨⟨⟨⟨hh,hu⟩,hc,hd⟩,hn⟩,_⟩:=yg1 h
 have e:(jc w).tick=w.tick:=Kd w _
 have h1:=hh.1.1
 exact⟨⟨⟨⟨⟨⟨by show 0<=(jc w).tick+1;omega,by show(jc w).tick+1<=_;omega⟩,hh.1.2⟩,hh.2⟩,hu⟩,hc,hd⟩,hn⟩
noncomputable def Cg(w:Wld)(l:List Cmd):Wld:=Fz (xy w l)
end
structure Ask25 where
 S:Scr
 room:Int
 n:Int
def Rb(a:Ask25):List AV:=Sm a.S++[int a.room,int a.n]
end Go.V
