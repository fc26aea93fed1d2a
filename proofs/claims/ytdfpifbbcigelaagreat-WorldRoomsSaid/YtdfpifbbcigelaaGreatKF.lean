/- Ground of laws of thronglaw25: contracts and plain lemmas; no condition beyond the row's own. -/
import Derived.Test.YtdfpifbbcigelaaGreatKE
set_option linter.unusedSimpArgs false
set_option linter.unusedVariables false
namespace Go.V
section
variable {P:Program} {c:Cfg} {st:Store}
structure SrcOK(P:Program)(st:Store)(k m:Nat)(x:AV)(xs:List AV):Prop where
  out:∀(Oth M:Nat->Nat->Prop) (w:World) (xv:Value),StoreOK st Oth M w->VRel w (λb o=>M b o\/Oth b o) x xv->
    (Builtin.lenOf xv).run P w=.ok m w/\∃new:Array Value,Reads w (λb o=>M b o\/Oth b o) xs new.toList/\(∀v∈new.toList,qp v=true)/\new.size=m*k/\∀w',w'.heap=w.heap->(Builtin.firstCells k m xv).run P w'=.ok new w'
theorem SrcOK.obj{k m o b cp:Nat}{l:List AV}(ho:st.obj b=some (.cells l))(hl:o+m*k<=l.length)(h1:∀y∈(l.drop o).take (m*k),y.one=true):SrcOK P st k m (.s (.slice (some ⟨b,o,none⟩) m cp)) ((l.drop o).take (m*k)):=by
  refine⟨λOth M w xv sto hxv=>?_⟩
  have hxv:=VRel.eq_s hxv
  subst hxv
  obtain⟨cs,e,fr,hb,_,hlen,hrel⟩:=(sto.obj b _ ho).1
  have hreads:Reads w (λb o=>M b o\/Oth b o) ((l.drop o).take (m*k)) ((List.range' 0 (m*k)).map λi=>cs.getD (o+i) undef):=by
    refine⟨by simp;omega,λi x y hx hy=>?_⟩
    have hi:i<m*k:=by
      have:=(Faf.1 hx).1
      simp at this;omega
    rw[Fb6 hi,Fck]at hx
    simp[hi]at hy
    subst hy
    refine hrel (o+i) x _ hx ?_
    rw[Fa4 (by omega)]
    simp[show o+i<cs.size by omega]
  refine⟨by simp[Builtin.lenOf],((List.range' 0 (m*k)).map λi=>cs.getD (o+i) undef).toArray,by simpa using hreads,by simpa using lr hreads h1,by simp,λw' hw=>?_⟩
  have:=Iz (P:=P) ⟨b,o,none⟩ w' (λi=>cs.getD (o+i) undef) (m*k) 0 #[] (λp hp0 hp=>by
    rw[ku,V9 hw]
    simp only[World.cell?,hb]
    have:o+p<cs.size:=by omega
    simp[this])
  simp only[Builtin.firstCells,loadCells]
  simpa using this
theorem uc{e:TypeId}{ie:TI}(hie:c.I e=some ie){b n cap:Nat}{l:List AV}{x:AV}{m:Nat}{xs:List AV}(ho:st.obj b=some (.cells l))(hcap:cap*ie.size<=l.length)(hn:n<=cap)
    (hx:SrcOK P st ie.size m x xs) (hroom:room (n+m) ie.bytes) {K:Ja}
    (h1:n+m<=cap->K (.s (.slice (some ⟨b,0,none⟩) (n+m) cap)) (st.sO b (.cells (zw l (n*ie.size) xs))))
    (h2:cap<n+m->∀b' cap',Fresh st b'->n+m<=cap'->cap'<=9223372036854775807->K (.s (.slice (some ⟨b',0,none⟩) (n+m) cap')) (st.sO b' (.cells (l.take (n*ie.size)++xs++List.replicate ((cap'-(n+m))*ie.size) .any)))):
    AppX P c st e (.s (.slice (some ⟨b,0,none⟩) n cap)) x K:=by
  refine⟨⟨ie,hie⟩,λie' hie' Oth M w sv xv argTypes ty args t sto hs hxv hat ht1 hu hti h0 h1'=>?_⟩
  rw[hie]at hie'
  cases hie'
  have hs:=VRel.eq_s hs
  subst hs
  have A:AppArgs P c argTypes args t e ie (some ⟨b,0,none⟩) n cap xv:=⟨hat,ht1,hu,hti,h0,h1'⟩
  obtain⟨hl1,new,hnew,hone,hnsz,hfc⟩:=hx.out Oth M w xv sto hxv
  have hnn:n*ie.size<=l.length:=Fda (Fa5 _ hn) hcap
  by_cases hc:n+m<=cap
  · obtain⟨⟨cs,e0,fr,hb0,huf,hlen,hrel⟩,hM⟩:=sto.obj b _ ho
    have hfit:n*ie.size+new.toList.length<=cs.size:=by
      rw[Fb4,hnsz,<-Fb2,<-hlen]
      exact Fda (Fa5 _ hc) hcap
    obtain⟨w',hw1,hw2⟩:=He (P:=P) w b (n*ie.size) new.toList 0 w cs e0 fr hb0 (.inl huf) hfit hone
    have hrun:=K3 (w':=w') ty A hl1 (hfc w rfl) hc (λa ha=>by
      cases ha
      rw[ku,Fbd];exact hw1) (λh=>by cases h)
    obtain⟨k1,k2⟩:=Ai sto ho hnew hw2
    exact⟨_,_,hrun,_,_,M,h1 hc,.s _,k1,k2⟩
  · have hc:cap<n+m:=by omega
    obtain⟨old,hold1,hold2,hold3⟩:=pd (P:=P) (cap:=cap) (sto.obj b _ ho).1 hnn
    obtain⟨newCap,rest,g1,g0,g2,g3⟩:=H5 ty A hl1 (hfc w.drew rfl) (hold3 w.drew rfl) hc hroom
    have gd:Grow w w.drew:=Grow.drew w
    have sto1:=sto.grow gd
    obtain⟨f1,f2,f3⟩:=D6 sto1 (old++new++rest) e (l:=l.take (n*ie.size)++xs++List.replicate rest.size .any) (by
      rw[Fba,Fba]
      refine((hold1.append hnew).append ⟨by simp,λi x y hx hy=>?_⟩).keep (gd.keeps _)
      rw[Fb3]at hx
      split at hx
      · cases hx;exact .any _
      · cases hx)
    have e1:w.drew.heap.size=w.heap.size:=rfl
    rw[g2]at f2
    exact⟨_,_,g3,_,_,_,h2 hc _ newCap f1 g1 g0,.s _,f2,(gd.chg M).trans f3⟩
end
section
variable {P:Program} {c:Cfg} {st:Store}
theorem yf2{e:TypeId}{ie:TI}(hie:c.I e=some ie){a:Option Addr}{x:AV}{m:Nat}{xs:List AV}(hx:SrcOK P st ie.size m x xs)(hroom:room m ie.bytes)(hne:0<m){K:Ja}
    (h2:∀b' cap',Fresh st b'->m<=cap'->cap'<=9223372036854775807->K (.s (.slice (some ⟨b',0,none⟩) m cap')) (st.sO b' (.cells (xs++List.replicate ((cap'-m)*ie.size) .any)))):
    AppX P c st e (.s (.slice a 0 0)) x K:=by
  refine⟨⟨ie,hie⟩,λie' hie' Oth M w sv xv argTypes ty args t sto hs hxv hat ht1 hu hti h0 h1'=>?_⟩
  rw[hie]at hie'
  cases hie'
  have hs:=VRel.eq_s hs
  subst hs
  have A:AppArgs P c argTypes args t e ie a 0 0 xv:=⟨hat,ht1,hu,hti,h0,h1'⟩
  obtain⟨hl1,new,hnew,hone,hnsz,hfc⟩:=hx.out Oth M w xv sto hxv
  obtain⟨newCap,rest,g1,g0,g2,g3⟩:=H5 (old:=#[]) ty A hl1 (hfc w.drew rfl) (by cases a<;>simp[Builtin.firstCells,loadCells,loadCellsFrom]) (by omega) (by simpa using hroom)
  have gd:Grow w w.drew:=Grow.drew w
  have sto1:=sto.grow gd
  obtain⟨f1,f2,f3⟩:=D6 sto1 (#[]++new++rest) e (l:=xs++List.replicate rest.size .any) (by
    rw[Fba,Fba]
    refine((show Reads w _ xs ([]++new.toList)from hnew).append ⟨by simp,λi x y hx hy=>?_⟩).keep (gd.keeps _)
    rw[Fb3]at hx
    split at hx
    · cases hx;exact .any _
    · cases hx)
  rw[g2]at f2
  simp only[Fbd]at g1 g3 f2
  exact⟨_,_,g3,_,_,_,h2 _ newCap f1 g1 g0,.s _,f2,(gd.chg M).trans f3⟩
theorem ul{o:Oper}{cl:Call}{t e:TypeId}{x:Operand}(ho:o.op=.call cl)(hcl:cl.callee=.builtin .clear)(hargs:cl.args=#[x])(hat:cl.argTypes[0]?=some t)
    {it ie:TI} (hit:c.I t=some it) (hty:it.ty=.slice e) (hie:c.I e=some ie) {b off m cap:Nat} {l:List AV} (hm:m=1) (hb:st.obj b=some (.cells l)) (hn:off+ie.size<=l.length) (hone:∀v∈ie.zero,qp v=true)
    {R:Ja} (h:R (.tup []) (st.sO b (.cells (zw l off (ie.zero.map AV.s))))):AEff P c o [.s (.slice (some ⟨b,off,none⟩) m cap)] st R:=by
  subst hm
  refine⟨λOth M w ρ hI sto hr=>?_⟩
  have hops:o.op.operands=#[x]:=by rw[ho];simp[Op.operands,Call.operands,hcl,hargs]
  rw[hops]at hr
  have hr:Reads w (λb o=>M b o\/Oth b o) [.s (.slice (some ⟨b,off,none⟩) 1 cap)] [ρ x]:=by simpa using hr
  obtain⟨u,he,h1⟩:=I5 hr
  simp only[Fcq,and_true]at he
  rw[<-he]at h1
  have h1:=VRel.eq_s h1
  have ht:=xf (hI _ _ hit) hty
  have hie:=hI _ _ hie
  obtain⟨⟨cs,e0,fr,hb0,huf,hlen,hrel⟩,hM⟩:=sto.obj b _ hb
  obtain⟨z,hz1,hz2⟩:=Iy (P:=P) hie w
  have hzs:z.cells.size=ie.size:=by rw[<-hie.zsz,<-hz2];simp
  have hzc:(Builtin.zeroCells z.cells 1).toList=ie.zero:=by
    rw[<-hz2]
    unfold Builtin.zeroCells
    apply Fdt
    · simp
    · intro i h1 h2
      simp at h1 h2⊢
      rw[Nat.mod_eq_of_lt h1,getElem!_pos z.cells i h1]
  obtain⟨w',hw1,hw2⟩:=He (P:=P) w b off ie.zero 0 w cs e0 fr hb0 (.inl huf) (by rw[hie.zsz,<-hlen];omega) hone
  have hund:=ye (P:=P) ht
  have hrun:(execOp ρ o).run P w=.ok (.value (.tuple #[])) w':=by
    simp[execOp,ho,resolve,hcl,invoke,builtin,hargs,Builtin.clear_,hat,hund,h1,hz1,hzc,hw1]
  rw[hrun]
  obtain⟨k1,k2⟩:=Ai sto hb (Reads.map_s (w:=w) (T:=λb o=>M b o\/Oth b o) ie.zero) (by rw[Fek]at hw2;exact hw2)
  exact⟨_,_,M,h,j2 Reads.nil,k1,k2⟩
theorem ygo{o:Oper}{t e:TypeId}{x lo hi mx:Operand}(ho:o.op=.slice t x (some lo) (some hi) (some mx)){it ie:TI}(hit:c.I t=some it)(hty:it.ty=.slice e)(hie:c.I e=some ie)
    {b off len cap i j m:Nat} {k k' k'':IntKind} (h1:i<=j) (h2:j<=m) (h3:m<=cap) (h4:i<m) {R:Ja} (h:R (.s (.slice (some ⟨b,off+i*ie.size,none⟩) (j-i) (m-i))) st):
    AEff P c o [.s (.slice (some ⟨b,off,none⟩) len cap),.s (.int k (i:Int)),.s (.int k' (j:Int)),.s (.int k'' (m:Int))] st R:=by
  refine⟨λOth M w ρ hI sto hr=>?_⟩
  have hops:o.op.operands=#[x,lo,hi,mx]:=by rw[ho];simp[Op.operands]
  rw[hops]at hr
  have hr:Reads w (λb o=>M b o\/Oth b o) [.s (.slice (some ⟨b,off,none⟩) len cap),.s (.int k (i:Int)),.s (.int k' (j:Int)),.s (.int k'' (m:Int))] [ρ x,ρ lo,ρ hi,ρ mx]:=by simpa using hr
  have e1:=VRel.eq_s (hr.2 0 _ (ρ x) rfl rfl)
  have e2:=VRel.eq_s (hr.2 1 _ (ρ lo) rfl rfl)
  have e3:=VRel.eq_s (hr.2 2 _ (ρ hi) rfl rfl)
  have e4:=VRel.eq_s (hr.2 3 _ (ρ mx) rfl rfl)
  have ht:=xf (hI _ _ hit) hty
  have hie:=hI _ _ hie
  have hm:¬m=i:=by omega
  have hund:=ye (P:=P) ht
  have hrun:(execOp ρ o).run P w=.ok (.value (.slice (some ⟨b,off+i*ie.size,none⟩) (j-i) (m-i))) w:=by
    simp[execOp,ho,e1,e2,e3,e4,Instr.sliceAt,Instr.slice,hund,Instr.sliceBounds,Instr.sliceBound,asIntOf,h1,h2,h3,jb hie,hm,ku]
  rw[hrun]
  exact⟨_,st,M,h,.s _,sto,Chg.refl _ _⟩
end
section
variable {α:Type} {f:α->List AV} {k:Nat}
end
theorem yao{g:Gnd}(hg:zo g){t:Nat}(ht:(t:Int)<g.W*g.H){p:Vc}(hp:ql p.1 p.2){r:Int}(hr:0<r/\r<=81920)(h:xq g t p r):near (tx g t+32768,ty g t+32768) p 147456=true:=by
 have hb:=Ij hg ht
 obtain⟨h3,h4⟩:=hp
 rw[Oj (by dsimp only;omega) (by dsimp only;omega) (by omega) (by omega) (by decide)]
 dsimp only
 unfold xq at h
 have o1:0<=off p.1 (tx g t):=by unfold off;split<;>(try split)<;>omega
 have o2:0<=off p.2 (ty g t):=by unfold off;split<;>(try split)<;>omega
 have d1:-(32768+off p.1 (tx g t))<=tx g t+32768-p.1/\tx g t+32768-p.1<=32768+off p.1 (tx g t):=by unfold off;split<;>(try split)<;>omega
 have d2:-(32768+off p.2 (ty g t))<=ty g t+32768-p.2/\ty g t+32768-p.2<=32768+off p.2 (ty g t):=by unfold off;split<;>(try split)<;>omega
 generalize off p.1 (tx g t)=ex at*
 generalize off p.2 (ty g t)=ey at*
 generalize tx g t+32768-p.1=dx at*
 generalize ty g t+32768-p.2=dy at*
 have hrr:r*r<=81920*81920:=Fbj hr.2 hr.2 (by omega) (by decide)
 have ex2:=Fay o1 o1
 have ey2:=Fay o2 o2
 have bx:ex<81920:=Ir o1 (by decide) (by omega)
 have by':ey<81920:=Ir o2 (by decide) (by omega)
 have sq:∀d m:Int,0<=m->-m<=d->d<=m->d*d<=m*m:=λd m hm h1 h2=>by
  by_cases hd:0<=d
  ·exact Fbj h2 h2 hd hm
  ·have:(-d)*(-d)<=m*m:=Fbj (by omega) (by omega) (by omega) hm
   rwa [Fdh]at this
 have s1:=sq dx (32768+ex) (by omega) d1.1 d1.2
 have s2:=sq dy (32768+ey) (by omega) d2.1 d2.2
 have e1:(32768+ex)*(32768+ex)=1073741824+65536*ex+ex*ex:=by
  rw[Fd7,Fdv,Fdv,Fcl ex 32768];omega
 have e2:(32768+ey)*(32768+ey)=1073741824+65536*ey+ey*ey:=by
  rw[Fd7,Fdv,Fdv,Fcl ey 32768];omega
 rw[e1]at s1
 rw[e2]at s2
 refine decide_eq_true ?_
 omega
instance(a b:Bld):Decidable (jd a b):=inferInstanceAs (Decidable (_/\_))
def bdB(w:Wld)(c:Cmd):Bld:=⟨w.next,c.P,c.T.tmod w.G.W,c.T.tdiv w.G.W,c.W,c.H⟩
open Classical in
noncomputable def q9(g:Gnd)(l:List Bld)(b:Bld):Int:=if¬onP g b then 3 else if∃x∈l,jd x b then 12 else if¬Ce g b then 5 else if 256<=l.length then 4 else 0
def Ho(w:Wld)(b:Bld):Prop:=∃t:Nat,((t:Int)<w.G.W*w.G.H/\jy w.G b t)/\∃u∈w.U,u.inn=0/\xq w.G t u.pos (zr u.kind)
open Classical in
noncomputable def bdE(w:Wld)(c:Cmd):Int:=if¬(0<=c.T/\c.T<w.G.W*w.G.H)then 3 else if 1099511627776<=w.next then 4 else if q9 w.G w.B (bdB w c)=0 then(if Ho w (bdB w c)then 5 else 0)else q9 w.G w.B (bdB w c)
def bdW(w:Wld)(c:Cmd):Wld:={w with B:=w.B++[bdB w c],next:=w.next+1}
def yfo:Bld:=⟨0,0,0,0,0,0⟩
def Cf(l:List Bld)(id:Int):Option Nat:=l.findIdx? λb=>decide (b.id=id)
def drE(w:Wld)(c:Cmd):Int:=match Cf w.B c.N with|none=>3|some i=>if(w.B.getD i yfo).owner=c.P then 0 else 6
def drW(w:Wld)(c:Cmd):Wld:=match Cf w.B c.N with|none=>w|some i=>{w with B:=w.B.eraseIdx i}
section
variable {k i:Nat}
theorem p5{α:Type}{f:α->List AV}(hf:∀x,(f x).length=k){l:List α}(hi:i<l.length)(L:List AV):
  zw ((rws f l).flatten++L) (i*k) (rws f (l.drop (i+1))).flatten=(rws f (l.eraseIdx i)).flatten++(f l[l.length-1]++L):=by
 have e1:(rws f l).flatten++L=(rws f (l.take i)).flatten++((rws f (l.drop i)).flatten++L):=by
  rw[<-Fat,<-F4,Fb7]
 have h1:(rws f (l.take i)).flatten.length=i*k:=by rw[j9 hf,Fan,Fdw (by omega)]
 rw[e1,Cn h1,List.eraseIdx_eq_take_drop_succ,F4]
 simp only[Fat]
 congr 1
 congr 1
 have h2:(rws f (l.drop (i+1))).flatten.length=(l.length-(i+1))*k:=by rw[j9 hf,Fcf]
 have e2:l.drop i=(l.drop i).dropLast++[l[l.length-1]]:=by
  have hne:l.drop i≠[]:=by
   intro h
   have:=congrArg List.length h
   rw[Fcf]at this
   simp at this;omega
  have h:=(Fee hne).symm
  have e:(l.drop i).getLast hne=l[l.length-1]:=by
   have e4:i+((l.drop i).length-1)=l.length-1:=by rw[Fcf];omega
   rw[List.getLast_eq_getElem,List.getElem_drop]
   simp only[e4]
  rw[e]at h
  exact h
 have e3:(rws f (l.drop i)).flatten=(rws f (l.drop i).dropLast).flatten++f l[l.length-1]:=by
  conv=>lhs;rw[e2]
  rw[F4]
  show _++(f _++[])=_
  rw[Fbp]
 have h3:(rws f (l.drop i).dropLast).flatten.length=(l.length-(i+1))*k:=by
  rw[j9 hf,List.length_dropLast,Fcf]
  congr 1
 rw[e3,h2,<-h3,Fat,Fd9]
theorem p6{α:Type}{l:List α}(hi:i<l.length):(l.eraseIdx i).length=l.length-1:=by rw[List.length_eraseIdx,if_pos hi]
theorem rf{α:Type}{f:α->List AV}(hf:∀x,(f x).length=k){l:List α}(hi:i<=l.length)(L:List AV):(((rws f l).flatten++L).drop (i*k)).take ((l.length-i)*k)=(rws f (l.drop i)).flatten:=by
 have e1:(rws f l).flatten++L=(rws f (l.take i)).flatten++((rws f (l.drop i)).flatten++L):=by
  rw[<-Fat,<-F4,Fb7]
 have h1:(rws f (l.take i)).flatten.length=i*k:=by rw[j9 hf,Fan,Fdw (by omega)]
 have h2:(rws f (l.drop i)).flatten.length=(l.length-i)*k:=by rw[j9 hf,Fcf]
 rw[e1,<-h1,Fd9,<-h2,List.take_left]
end
section
variable {r P N:Int} {w:Wld}
def Cw(m r:Int):Prop:=0<=r/\r<=9223372036854775807/\r*r<=m/\(r=9223372036854775807\/m<(r+1)*(r+1))
theorem zzu{m:Int}(h:Cw m r){k:Int}(hk:0<=k)(hk2:k<9223372036854775807):k<r↔(k+1)*(k+1)<=m:=by
 obtain⟨h0,h1,h2,h3⟩:=h
 constructor
 ·intro hkr
  exact Int.le_trans (Fbj (show k+1<=r by omega) (show k+1<=r by omega) (by omega) h0) h2
 ·intro hm
  refine Int.not_le.1 λhle=>?_
  rcases h3 with h3|h3
  ·omega
  ·have:=Fbj (show r+1<=k+1 by omega) (show r+1<=k+1 by omega) (by omega) (by omega)
   omega
theorem zzt{m r':Int}(h:Cw m r)(h':Cw m r'):r=r':=by
 obtain⟨h0,h1,h2,h3⟩:=h
 obtain⟨g0,g1,g2,g3⟩:=h'
 have a:¬r<r':=λhlt=>by
  rcases h3 with h3|h3
  ·omega
  ·have:=Fbj (show r+1<=r' by omega) (show r+1<=r' by omega) (by omega) g0
   omega
 have b:¬r'<r:=λhlt=>by
  rcases g3 with h3|h3
  ·omega
  ·have:=Fbj (show r'+1<=r by omega) (show r'+1<=r by omega) (by omega) h0
   omega
 omega
def Dt(p q:Vc):Prop:=17180131329<=sqr (qr p q)
instance(p q:Vc):Decidable (Dt p q):=inferInstanceAs (Decidable (_<=_))
theorem zvj{p q:Vc}(h:Cw (sqr (qr p q)) r):131072<r↔Dt p q:=by
 have:=zzu h (k:=131072) (by decide) (by decide)
 unfold Dt
 exact this
def vi(w:Wld)(P N:Int):Int:=if xj w P N=0 then(if xi (uAt w N).kind=0 then 7 else 0)else xj w P N
def Kb(x u:Unt):Int:=if 0<xi u.kind then 7 else if Dt u.pos x.pos then 8 else 0
def ldA(w:Wld)(P N id:Int):Int:=if xj w P id=0 then Kb (uAt w N) (uAt w id)else xj w P id
def ldE(w:Wld)(c:Cmd):Int:=if vi w c.P c.N=0 then(if xy (ldA w c.P c.N) c.U=0 then(if xi (uAt w c.N).kind<((zx w.U c.N).length:Int)+(c.U.length:Int)then 4 else 0)else xy (ldA w c.P c.N) c.U)else vi w c.P c.N
def ldU(n:Int)(u:Unt):Unt:={u with pos:=(0,0),goal:=-1,next:=-1,stuck:=0,inn:=n,state:=0}
def ldW(w:Wld)(c:Cmd):Wld:={w with U:=qj c.U (ldU c.N) w.U}
theorem ni{id:Int}(h:ldA w P N id=0):xj w P id=0/\Kb (uAt w N) (uAt w id)=0:=by
 unfold ldA at h
 by_cases e:xj w P id=0
 ·rw[if_pos e]at h;exact⟨e,h⟩
 ·rw[if_neg e]at h;exact absurd h e
theorem bm(h:vi w P N=0):xj w P N=0/\xi (uAt w N).kind≠0:=by
 unfold vi at h
 by_cases e:xj w P N=0
 ·rw[if_pos e]at h
  refine⟨e,λe2=>?_⟩
  rw[if_pos e2]at h
  cases h
 ·rw[if_neg e]at h;exact absurd h e
theorem zz9(hm:z8 w){i:Nat}(hi:i<w.U.length)(h0:w.U[i].id≠0):((zx w.U w.U[i].id).length:Int)<=xi w.U[i].kind:=by
 have hr:yf w.U:=hm.1.2.1
 cases hl:zx w.U w.U[i].id with
 |nil=>have:=(Ke w.U[i].kind).1;simpa using this
 |cons a l=>
  have ha:a∈zx w.U w.U[i].id:=by rw[hl];simp
  unfold zx at ha
  obtain⟨u,hu,_⟩:=Fad.1 ha
  obtain⟨hu,he⟩:=Fbn.1 hu
  have he:u.inn=w.U[i].id:=by simpa using he
  obtain⟨x,hx,e1,_,e3,_⟩:=hm.2.2 u hu (by rw[he];exact h0)
  obtain⟨k,hk,rfl⟩:=Faj hx
  have hki:k=i:=by
   by_cases h1:k<i
   ·have:=D4 hr h1 hi;omega
   ·by_cases h2:i<k
    ·have:=D4 hr h2 hk;omega
    ·omega
  subst hki
  rw[he,hl]at e3
  exact e3
theorem zxn{n:Int}{q m:Nat}(h0:0<=n)(h1:n<2^m)(h2:n+q*2^m<18446744073709551616):wi .or .u64 (q*2^m) n=q*2^m+n:=by
 obtain⟨a,rfl⟩:=Fca h0
 have e:((q:Int)*2^m)=((q*2^m:Nat):Int):=by simp
 have h1':a<2^m:=by exact_mod_cast h1
 rw[e]at h2⊢
 have h3:a+q*2^m<18446744073709551616:=by omega
 rw[(th (q*2^m) a (by omega) (by omega)).2,Nat.or_comm,l7 a q m h1',Aj (by omega) (by omega)]
 simp
 omega
theorem zrd{k:Nat}(hk:k<=62):IntKind.u64.wrap (1*2^(min ((k:Int)).toNat IntKind.u64.bits))=2^k:=by
 have:(min ((k:Int)).toNat IntKind.u64.bits)=k:=by
  show min ((k:Int)).toNat 64=k
  omega
 rw[this,Int.one_mul]
 have h:(2:Int)^k<=2^62:=by exact_mod_cast Nat.pow_le_pow_right (by decide) hk
 have h0:(0:Int)<2^k:=Int.pow_pos (by decide)
 have h2:(2:Int)^62=4611686018427387904:=by decide
 exact Aj (by omega) (by omega)
def F5(m r:Int)(k:Nat):Prop:=∃q:Nat,r=q*2^k/\r+2^k<=9223372036854775808/\r*r<=m/\(m<(r+2^k)*(r+2^k)\/r+2^k=9223372036854775808)
theorem zvl{m:Int}(hm:0<=m):F5 m 0 63:=⟨0,by simp,by decide,by simpa using hm,.inr (by decide)⟩
theorem zvn{m:Int}(h:F5 m r 0):Cw m r:=by
 obtain⟨q,e,h1,h2,h3⟩:=h
 have e1:(2:Int)^0=1:=rfl
 rw[e1]at h1 h3 e
 exact⟨by omega,by omega,h2,h3.symm.imp (λh=>by omega) id⟩
theorem zvo{m:Int}{k:Nat}(h:F5 m r (k+1)):wi .or .u64 r (2^k)=r+2^k/\0<=r/\(0:Int)<2^k/\r+2^k<9223372036854775808:=by
 obtain⟨q,e,h1,h2,h3⟩:=h
 have h0:(0:Int)<2^k:=Int.pow_pos (by decide)
 have e2:(2:Int)^(k+1)=2*2^k:=by rw[Int.pow_succ,Fcl]
 have hr:0<=r:=by rw[e];exact Fay (by omega) (by omega)
 rw[e2]at h1
 refine⟨?_,hr,h0,by omega⟩
 rw[e]
 refine zxn (by omega) (by rw[e2];omega) ?_
 rw[<-e];omega
theorem zvm{m:Int}{k:Nat}(h:F5 m r (k+1))(hn:m<(r+2^k)*(r+2^k)):F5 m r k:=by
 obtain⟨q,e,h1,h2,h3⟩:=h
 have e2:(2:Int)^(k+1)=2*2^k:=by rw[Int.pow_succ,Fcl]
 have h0:(0:Int)<2^k:=Int.pow_pos (by decide)
 rw[e2]at h1
 refine⟨2*q,?_,by omega,h2,.inl hn⟩
 rw[e,e2]
 push_cast
 rw[<-Fdn,Fcl (q:Int) 2]
theorem zvk{m:Int}{k:Nat}(h:F5 m r (k+1))(hn:(r+2^k)*(r+2^k)<=m):F5 m (r+2^k) k:=by
 obtain⟨q,e,h1,h2,h3⟩:=h
 have e2:(2:Int)^(k+1)=2*2^k:=by rw[Int.pow_succ,Fcl]
 have h0:(0:Int)<2^k:=Int.pow_pos (by decide)
 rw[e2]at h1 h3
 have e3:r+2^k+2^k=r+2*2^k:=by omega
 refine⟨2*q+1,?_,by omega,hn,by rw[e3];exact h3⟩
 rw[e,e2]
 push_cast
 rw[Fd7,Int.one_mul,<-Fdn,Fcl (q:Int) 2]
end
section
variable {t i:Nat} {w:Wld} {tile id:Int} {u:Unt}
def yn(g:Gnd)(t:Nat):Vc:=(tx g t+32768,ty g t+32768)
theorem Mk{g:Gnd}(hg:zo g)(ht:t<g.T.length):(yn g t).ok:=by
 have ha:=qi hg
 have:=Ij hg (t:=t) (by omega)
 unfold yn Vc.ok yd
 dsimp only
 omega
def qh(w:Wld)(k tile:Int)(n:Nat):List Nat:=Iv w.G (z7 w.G w.B (y9 k) (je k)) (je k) tile n
theorem fz(g:Gnd)(f:Nat->Bool)(x y k:Int):∀d t,t∈j8 g f x y k d->t<g.T.length/\f t=true
 |0,t,h=>by cases h
 |d+1,t,h=>by
  rcases Fal.1 (show t∈j8 g f x y k d++Aq g f x y k d from h)with h|h
  ·exact fz g f x y k d t h
  ·unfold Aq Di at h
   obtain⟨h1,h2⟩:=Fbn.1 h
   exact⟨Fa8.1 (Fbn.1 h1).1,h2⟩
theorem Sh{k:Int}{n:Nat}(h:t∈qh w k tile n):t<w.G.T.length/\z7 w.G w.B (y9 k) (je k) t=true:=fz _ _ _ _ _ _ _ (List.mem_of_mem_take h)
theorem zq6(w:Wld)(k tile:Int)(n:Nat):(qh w k tile n).length<=n:=by
 unfold qh Iv
 rw[Fan]
 exact Nat.min_le_left _ _
open Classical in
noncomputable def Bf(w:Wld)(u:Unt)(tile:Int):Option Nat:=(qh w u.kind tile 64).find? λt=>decide (qm w u.id u.kind (yn w.G t))
open Classical in
theorem zxi{j:Nat}(hj:j<(qh w u.kind tile 64).length)(hno:∀i,(h:i<(qh w u.kind tile 64).length)->i<j->¬qm w u.id u.kind (yn w.G (qh w u.kind tile 64)[i]))(hy:qm w u.id u.kind (yn w.G (qh w u.kind tile 64)[j])):Bf w u tile=some (qh w u.kind tile 64)[j]:=by
 unfold Bf
 rw[List.find?_eq_some_iff_getElem]
 exact⟨decide_eq_true hy,j,hj,rfl,λi hi=>by
  rw[Fb0,decide_eq_false_iff_not]
  exact hno i (by omega) hi⟩
open Classical in
theorem zxj(hno:∀i,(h:i<(qh w u.kind tile 64).length)->¬qm w u.id u.kind (yn w.G (qh w u.kind tile 64)[i])):Bf w u tile=none:=by
 unfold Bf
 rw[Fct]
 intro t ht
 obtain⟨i,hi,rfl⟩:=Faj ht
 rw[decide_eq_true_iff]
 exact hno i hi
open Classical in
theorem ll(h:Bf w u tile=some t):t∈qh w u.kind tile 64/\qm w u.id u.kind (yn w.G t):=by
 unfold Bf at h
 exact⟨Fc7 h,by have:=Feh h;exact of_decide_eq_true this⟩
def Aa(u:Unt)(p:Vc):Unt:={u with pos:=p,inn:=0}
noncomputable def unl(tile:Int):List Int->Wld->Option Wld
 |[],w=>some w
 |id::l,w=>match qb w.U id with
  |none=>none
  |some i=>match Bf w (w.U.getD i unt0) tile with
   |none=>none
   |some t=>unl tile l {w with U:=w.U.set i (Aa (w.U.getD i unt0) (yn w.G t))}
theorem Rv{l:List Int}(hi:i<w.U.length)(hf:qb w.U id=some i)(ho:Bf w w.U[i] tile=none):unl tile (id::l) w=none:=by
 show(match qb w.U id with|none=>none|some i=>_)=_
 rw[hf]
 dsimp only
 rw[show w.U.getD i unt0=w.U[i] by simp[Fbb,hi],ho]
theorem Ru{l:List Int}(hi:i<w.U.length)(hf:qb w.U id=some i)(ho:Bf w w.U[i] tile=some t):unl tile (id::l) w=unl tile l {w with U:=w.U.set i (Aa w.U[i] (yn w.G t))}:=by
 show(match qb w.U id with|none=>none|some i=>_)=_
 rw[hf]
 dsimp only
 rw[show w.U.getD i unt0=w.U[i] by simp[Fbb,hi],ho]
open Classical in
noncomputable def ulE(w:Wld)(c:Cmd):Int:=
 if vi w c.P c.N=0 then
  (if 0<=c.T/\c.T<w.G.W*w.G.H then
   (if Dt (yn w.G c.T.toNat) (uAt w c.N).pos then 8 else(match unl c.T (zx w.U c.N) w with|none=>5|some _=>0))
  else 3)
 else vi w c.P c.N
noncomputable def ulW(w:Wld)(c:Cmd):Wld:=(unl c.T (zx w.U c.N) w).getD w
def Bk(L:List Ent)(u:Unt):List Ent:=if u.inn=0 then qc L u.id++[(u.id,u.pos)]else qc L u.id
theorem yc5(L:List Ent)(u:Unt):(Bk L u).length<=L.length+1:=by
 have:(qc L u.id).length<=L.length:=Fbx _ _
 unfold Bk
 split
 ·rw[Fag,Fa1];omega
 ·omega
theorem yc4{L:List Ent}(hok:∀e∈L,e.2.ok)(hp:u.pos.ok):∀e∈Bk L u,e.2.ok:=λe he=>by
 unfold Bk at he
 split at he
 ·rcases Fal.1 he with he|he
  ·exact hok e (mem_dropId.1 he).1
  ·simp at he;subst he;exact hp
 ·exact hok e (mem_dropId.1 he).1
theorem lw{L:List Ent}(hF:Bx w L)(hr:yf w.U)(hi:i<w.U.length)(hid:w.U[i].id=u.id):Bx {w with U:=w.U.set i u} (Bk L u):=by
 have old:∀e,e∈qc L u.id↔∃j,∃hj:j<w.U.length,j≠i/\w.U[j].inn=0/\e=(w.U[j].id,w.U[j].pos):=λe=>by
  rw[mem_dropId,hF e]
  constructor
  ·rintro⟨⟨x,hx,h0,rfl⟩,hne⟩
   obtain⟨j,hj,rfl⟩:=Faj hx
   exact⟨j,hj,λe=>hne (by subst e;exact hid),h0,rfl⟩
  ·rintro⟨j,hj,hji,h0,rfl⟩
   refine⟨⟨w.U[j],Faa hj,h0,rfl⟩,λe=>hji ?_⟩
   have e:w.U[j].id=u.id:=e
   by_cases h1:j<i
   ·have:=Dh hr h1 hi;omega
   ·by_cases h2:i<j
    ·have:=Dh hr h2 hj;omega
    ·omega
 intro e
 have key:(∃y∈w.U.set i u,y.inn=0/\e=(y.id,y.pos))↔(u.inn=0/\e=(u.id,u.pos))\/∃j,∃hj:j<w.U.length,j≠i/\w.U[j].inn=0/\e=(w.U[j].id,w.U[j].pos):=by
  constructor
  ·rintro⟨y,hy,h0,he⟩
   obtain⟨j,hj,rfl⟩:=Faj hy
   rw[Fa6]at hj
   rw[Fcg]at h0 he
   split at h0
   ·rename_i hh
    rw[if_pos hh]at he
    exact .inl ⟨h0,he⟩
   ·rename_i hh
    rw[if_neg hh]at he
    exact .inr ⟨j,hj,Ne.symm hh,h0,he⟩
  ·rintro(⟨h0,he⟩|⟨j,hj,hji,h0,he⟩)
   ·exact⟨u,List.mem_set hi u,h0,he⟩
   ·refine⟨w.U[j],?_,h0,he⟩
    have hj2:j<(w.U.set i u).length:=by rw[Fa6];exact hj
    have:(w.U.set i u)[j]=w.U[j]:=by rw[Fcg,if_neg (Ne.symm hji)]
    rw[<-this]
    exact Faa hj2
 show e∈Bk L u↔∃y∈w.U.set i u,y.inn=0/\e=(y.id,y.pos)
 rw[key]
 unfold Bk
 split
 ·rename_i h0
  rw[Fal,old,Fcb]
  constructor
  ·rintro(h|h)
   ·exact .inr h
   ·exact .inl ⟨h0,h⟩
  ·rintro(h|h)
   ·exact .inr h.2
   ·exact .inl h
 ·rename_i h0
  rw[old]
  exact⟨.inr,λh=>h.resolve_left λhh=>h0 hh.1⟩
theorem lx{L:List Ent}(hn:(L.map (·.1)).Nodup)(hF:Bx w L):L.length<=w.U.length:=by
 have:=Fbu (l₂:=w.U.map (·.id)) hn (λid hid=>by
  obtain⟨e,he,rfl⟩:=Fad.1 hid
  obtain⟨u,hu,_,rfl⟩:=(hF e).1 he
  exact Fad.2 ⟨u,hu,rfl⟩)
 rw[Faq,Faq]at this
 exact this
theorem Nv{U:List Unt}(hr:yf U)(hi:i<U.length)(hid:U[i].id=u.id):yf (U.set i u):=by
 intro j hj h0
 rw[Fa6]at hj
 have:=hr j hj h0
 have id':∀k,(hk:k<U.length)->((U.set i u)[k]'(by rw[Fa6];exact hk)).id=U[k].id:=λk hk=>by
  rw[Fcg]
  split
  ·rename_i e;subst e;exact hid.symm
  ·rfl
 rw[id' _ (by omega),id' _ hj]
 exact this
theorem ycm{U:List Unt}(hr:yf U)(hi:i<U.length)(hid:U[i].id=u.id)(id:Int):qb (U.set i u) id=qb U id:=by
 have id':∀k,(hk:k<U.length)->((U.set i u)[k]'(by rw[Fa6];exact hk)).id=U[k].id:=λk hk=>by
  rw[Fcg]
  split
  ·rename_i e;subst e;exact hid.symm
  ·rfl
 cases h:qb U id with
 |some k=>
  obtain⟨hk,e⟩:=Gk h
  exact Mc (Nv hr hi hid) (by rw[Fa6];exact hk) (by rw[id' k hk];exact e)
 |none=>
  cases h2:qb (U.set i u) id with
  |none=>rfl
  |some k=>
   obtain⟨hk,e⟩:=Gk h2
   rw[Fa6]at hk
   rw[id' k hk]at e
   exact absurd e (pj h _ (Faa hk))
end
section
variable {w:Wld} {k:Nat} {kd:Int}
def mvG(g:Int)(u:Unt):Unt:={u with goal:=g,next:=-1,stuck:=0,state:=1}
def Au(w:Wld)(c:Cmd)(k:Nat)(kd:Int):Int:=match(qh w kd c.T c.U.length)[k]? with|some t=>(t:Int)|none=>c.T
def mvL(w:Wld)(c:Cmd):Nat->List Unt
 |0=>w.U
 |k+1=>match qb w.U (c.U.getD k 0)with
  |some i=>(mvL w c k).set i (mvG (Au w c k (w.U.getD i unt0).kind) (w.U.getD i unt0))
  |none=>mvL w c k
def mvE(w:Wld)(c:Cmd):Int:=if 0<=c.T/\c.T<w.G.W*w.G.H then xy (xj w c.P) c.U else 3
def mvW(w:Wld)(c:Cmd):Wld:={w with U:=mvL w c c.U.length}
theorem mh{c:Cmd}{i:Nat}(hk:k<c.U.length)(hf:qb w.U c.U[k]=some i)(hi:i<w.U.length):mvL w c (k+1)=(mvL w c k).set i (mvG (Au w c k w.U[i].kind) w.U[i]):=by
 show(match qb w.U (c.U.getD k 0)with|some i=>_|none=>_)=_
 rw[show c.U.getD k 0=c.U[k] by simp[Fbb,hk],hf]
 dsimp only
 rw[show w.U.getD i unt0=w.U[i] by simp[Fbb,hi]]
theorem Ae(w:Wld)(c:Cmd):∀k,(mvL w c k).length=w.U.length
 |0=>rfl
 |k+1=>by
  show(match qb w.U (c.U.getD k 0)with|some i=>_|none=>_:List Unt).length=_
  cases qb w.U (c.U.getD k 0)with
  |none=>exact Ae w c k
  |some i=>dsimp only;rw[Fa6];exact Ae w c k
theorem Om(w:Wld)(c:Cmd):∀k j,(hj:j<w.U.length)->mvG 0 ((mvL w c k)[j]'(by rw[Ae];exact hj))=mvG 0 w.U[j]
 |0,j,hj=>rfl
 |k+1,j,hj=>by
  have ih:=Om w c k j hj
  have key:∀L:List Unt,(hL:j<L.length)->L=mvL w c (k+1)->mvG 0 L[j]=mvG 0 w.U[j]:=λL hL e=>by
   have e2:mvL w c (k+1)=(match qb w.U (c.U.getD k 0)with
    |some i=>(mvL w c k).set i (mvG (Au w c k (w.U.getD i unt0).kind) (w.U.getD i unt0))
    |none=>mvL w c k):=rfl
   rw[e2]at e
   cases hf:qb w.U (c.U.getD k 0)with
   |none=>rw[hf]at e;subst e;exact ih
   |some i=>
    rw[hf]at e
    obtain⟨hi,_⟩:=Gk hf
    subst e
    rw[Fcg]
    split
    ·rename_i e3;subst e3
     rw[show w.U.getD i unt0=w.U[i] by simp[Fbb,hi]]
     rfl
    ·exact ih
  exact key _ (by rw[Ae];exact hj) rfl
theorem Hn{a b:Unt}(h:mvG 0 a=mvG 0 b):a.id=b.id/\a.owner=b.owner/\a.kind=b.kind/\a.pos=b.pos/\a.inn=b.inn:=by
 refine⟨?_,?_,?_,?_,?_⟩
 ·have:=congrArg Unt.id h
  exact this
 ·have:=congrArg Unt.owner h
  exact this
 ·have:=congrArg Unt.kind h
  exact this
 ·have:=congrArg Unt.pos h
  exact this
 ·have:=congrArg Unt.inn h
  exact this
theorem Vn(w:Wld)(c:Cmd)(k j:Nat)(hj:j<w.U.length):((mvL w c k)[j]'(by rw[Ae];exact hj)).id=w.U[j].id:=(Hn (Om w c k j hj)).1
theorem Vm(hr:yf w.U)(c:Cmd)(k:Nat):yf (mvL w c k):=by
 intro j hj h0
 rw[Ae]at hj
 have:=hr j hj h0
 rw[Vn w c k _ (by omega),Vn w c k _ hj]
 exact this
theorem ml{c:Cmd}{u:Unt}(h:u∈mvL w c k):∃x∈w.U,u.id=x.id/\u.owner=x.owner/\u.kind=x.kind/\u.pos=x.pos/\u.inn=x.inn:=by
 obtain⟨j,hj,rfl⟩:=Faj h
 have hj2:=hj
 rw[Ae]at hj2
 exact⟨w.U[j],Faa hj2,Hn (Om w c k j hj2)⟩
theorem mp{c:Cmd}(h:¬(0<=c.T/\c.T<w.G.W*w.G.H)):mvE w c=3:=by unfold mvE;rw[if_neg h]
theorem mo{c:Cmd}(h:0<=c.T/\c.T<w.G.W*w.G.H):mvE w c=xy (xj w c.P) c.U:=by unfold mvE;rw[if_pos h]
theorem mm{c:Cmd}(h:k<(qh w kd c.T c.U.length).length):Au w c k kd=((qh w kd c.T c.U.length)[k]:Nat):=by
 unfold Au
 rw[Fab h]
theorem mn{c:Cmd}(h:¬k<(qh w kd c.T c.U.length).length):Au w c k kd=c.T:=by
 unfold Au
 rw[Fbo (by omega)]
theorem zy9{α:Type}(f:α->AV)(cs:List (Int×α))(k:Int)(z:AV):Cs true z ((cs.map (yj f)).find? (qA k))=match yk cs k with|some v=>.tup [f v,.s (.bool true)]|none=>.tup [z,.s (.bool false)]:=by
 rw[Wn]
 unfold yk
 cases cs.find? λe=>k==e.1 with
 |none=>rfl
 |some e=>rfl
end
section
variable {w:Wld}
noncomputable def aE(w:Wld)(c:Cmd):Int:=if c.K=1 then spE w c else if c.K=2 then mvE w c else if c.K=3 then stE w c else if c.K=4 then bdE w c else if c.K=5 then drE w c else if c.K=6 then ldE w c else ulE w c
noncomputable def aW(w:Wld)(c:Cmd):Wld:=if c.K=1 then spW w c else if c.K=2 then mvW w c else if c.K=3 then stW w c else if c.K=4 then bdW w c else if c.K=5 then drW w c else if c.K=6 then ldW w c else ulW w c
theorem a1{c:Cmd}(h:c.K=1):aE w c=spE w c/\aW w c=spW w c:=by unfold aE aW;rw[h];exact⟨rfl,rfl⟩
theorem a2{c:Cmd}(h:c.K=2):aE w c=mvE w c/\aW w c=mvW w c:=by unfold aE aW;rw[h];exact⟨rfl,rfl⟩
theorem a3{c:Cmd}(h:c.K=3):aE w c=stE w c/\aW w c=stW w c:=by unfold aE aW;rw[h];exact⟨rfl,rfl⟩
theorem a4{c:Cmd}(h:c.K=4):aE w c=bdE w c/\aW w c=bdW w c:=by unfold aE aW;rw[h];exact⟨rfl,rfl⟩
theorem a5{c:Cmd}(h:c.K=5):aE w c=drE w c/\aW w c=drW w c:=by unfold aE aW;rw[h];exact⟨rfl,rfl⟩
theorem a6{c:Cmd}(h:c.K=6):aE w c=ldE w c/\aW w c=ldW w c:=by unfold aE aW;rw[h];exact⟨rfl,rfl⟩
theorem a7{c:Cmd}(h:c.K=7):aE w c=ulE w c/\aW w c=ulW w c:=by unfold aE aW;rw[h];exact⟨rfl,rfl⟩
theorem Vz{c:Cmd}(h:Ah c):c.K=1\/c.K=2\/c.K=3\/c.K=4\/c.K=5\/c.K=6\/c.K=7:=Classical.byContradiction λhn=>by
 have hn:c.K≠1/\c.K≠2/\c.K≠3/\c.K≠4/\c.K≠5/\c.K≠6/\c.K≠7:=by omega
 exact Cmd.ok0 hn.1 hn.2.1 hn.2.2.1 hn.2.2.2.1 hn.2.2.2.2.1 hn.2.2.2.2.2.1 hn.2.2.2.2.2.2 h.1
theorem rk{E:Wld->Cmd->Int}{c:Cmd}(h:doE E w c=0):z8 w/\Ah c/\c.P<=w.players/\E w c=0:=by
 have hb:¬(¬z8 w\/¬Ah c\/w.players<c.P):=λhb=>by rw[rm hb]at h;cases h
 have h1:z8 w:=Classical.byContradiction λhh=>hb (.inl hh)
 have h2:Ah c:=Classical.byContradiction λhh=>hb (.inr (.inl hh))
 have h3:c.P<=w.players:=Int.not_lt.1 λhh=>hb (.inr (.inr hh))
 refine⟨h1,h2,h3,?_⟩
 rw[rl h1 h2 h3]at h
 exact h
theorem du{tile:Int}:∀(l:List Int) (w x:Wld),yf w.U->unl tile l w=some x->x.tick=w.tick/\x.players=w.players/\x.next=w.next/\x.G=w.G/\x.B=w.B/\∃h:x.U.length=w.U.length,∀j,(hj:j<w.U.length)->x.U[j].id=w.U[j].id/\x.U[j].owner=w.U[j].owner/\x.U[j].kind=w.U[j].kind/\(x.U[j]=w.U[j]\/∃t,t<w.G.T.length/\x.U[j].pos=yn w.G t)
 |[],w,x,hr,h=>by
  have:w=x:=Option.some.inj h
  subst this
  exact⟨rfl,rfl,rfl,rfl,rfl,rfl,λj hj=>⟨rfl,rfl,rfl,.inl rfl⟩⟩
 |id::l,w,x,hr,h=>by
  cases hf:qb w.U id with
  |none=>
   have:unl tile (id::l) w=none:=by
    show(match qb w.U id with|none=>none|some i=>_)=_
    rw[hf]
   rw[this]at h;cases h
  |some i=>
   obtain⟨hi,_⟩:=Gk hf
   cases ho:Bf w w.U[i] tile with
   |none=>rw[Rv hi hf ho]at h;cases h
   |some t=>
    rw[Ru hi hf ho]at h
    have ht:=(Sh (ll ho).1).1
    obtain⟨h0,h1,h2,h3,h4,h5,h6⟩:=du l _ x (Nv hr hi (u:=Aa w.U[i] (yn w.G t)) rfl) h
    have hl:(w.U.set i (Aa w.U[i] (yn w.G t))).length=w.U.length:=Fa6
    refine⟨h0,h1,h2,h3,h4,h5.trans hl,λj hj=>?_⟩
    obtain⟨k1,k2,k3,k4⟩:=h6 j (by rw[hl];exact hj)
    by_cases e:i=j
    ·subst e
     have e9:(w.U.set i (Aa w.U[i] (yn w.G t)))[i]'(by rw[hl];exact hj)=Aa w.U[i] (yn w.G t):=List.getElem_set_self _
     dsimp only at k1 k2 k3 k4
     rw[e9]at k1 k2 k3 k4
     refine⟨k1,k2,k3,.inr ?_⟩
     rcases k4 with k4|⟨t2,k4,k5⟩
     ·exact⟨t,ht,by rw[k4];rfl⟩
     ·exact⟨t2,k4,k5⟩
    ·have e9:(w.U.set i (Aa w.U[i] (yn w.G t)))[j]'(by rw[hl];exact hj)=w.U[j]:=List.getElem_set_ne e _
     dsimp only at k1 k2 k3 k4
     rw[e9]at k1 k2 k3 k4
     exact⟨k1,k2,k3,k4⟩
theorem dz{c:Cmd}(hr:yf w.U):(ulW w c).tick=w.tick/\(ulW w c).players=w.players/\(ulW w c).next=w.next/\(ulW w c).G=w.G/\(ulW w c).B=w.B/\∃h:(ulW w c).U.length=w.U.length,∀j,(hj:j<w.U.length)->(ulW w c).U[j].id=w.U[j].id/\(ulW w c).U[j].owner=w.U[j].owner/\(ulW w c).U[j].kind=w.U[j].kind/\((ulW w c).U[j]=w.U[j]\/∃t,t<w.G.T.length/\(ulW w c).U[j].pos=yn w.G t):=by
 have key:∀x:Wld,ulW w c=x->x.tick=w.tick/\x.players=w.players/\x.next=w.next/\x.G=w.G/\x.B=w.B/\∃h:x.U.length=w.U.length,∀j,(hj:j<w.U.length)->x.U[j].id=w.U[j].id/\x.U[j].owner=w.U[j].owner/\x.U[j].kind=w.U[j].kind/\(x.U[j]=w.U[j]\/∃t,t<w.G.T.length/\x.U[j].pos=yn w.G t):=λx hx=>by
  unfold ulW at hx
  cases h:unl c.T (zx w.U c.N) w with
  |none=>
   rw[h]at hx
   have:w=x:=hx
   subst this
   exact⟨rfl,rfl,rfl,rfl,rfl,rfl,λj hj=>⟨rfl,rfl,rfl,.inl rfl⟩⟩
  |some y=>
   rw[h]at hx
   have:y=x:=hx
   subst this
   exact du _ _ _ hr h
 exact key _ rfl
theorem ge{l:List Int}{g:Unt->Unt}{U:List Unt}{u:Unt}(h:u∈qj l g U):∃x∈U,u=x\/u=g x:=by
 unfold qj at h
 obtain⟨x,hx,rfl⟩:=Fad.1 h
 refine⟨x,hx,?_⟩
 split
 ·exact .inr rfl
 ·exact .inl rfl
theorem yg2{c:Cmd}(hn:∀u∈w.U,u.pos.ok)(h:doE aE w c=0):∀u∈(aW w c).U,u.pos.ok:=by
 obtain⟨hm,hc,hp,he⟩:=rk h
 have z0:Vc.ok (0,0):=by unfold Vc.ok yd;decide
 intro u hu
 rcases Vz hc with k|k|k|k|k|k|k
 ·rw[(a1 k).2]at hu
  rcases Fal.1 (show u∈w.U++[spU w c]from hu)with hu|hu
  ·exact hn u hu
  ·rw[Fcb]at hu
   subst hu
   have:=(Cmd.ok1 k).1 hc.1
   have:=this.2
   show Vc.ok (c.X,c.Y)
   unfold ql at this
   unfold Vc.ok yd
   dsimp only
   omega
 ·rw[(a2 k).2]at hu
  obtain⟨x,hx,_,_,_,e,_⟩:=ml (show u∈mvL w c c.U.length from hu)
  rw[e];exact hn x hx
 ·rw[(a3 k).2]at hu
  obtain⟨x,hx,rfl|rfl⟩:=ge (show u∈qj c.U Dg w.U from hu)
  ·exact hn _ hx
  ·exact hn x hx
 ·rw[(a4 k).2]at hu
  exact hn u hu
 ·rw[(a5 k).2]at hu
  unfold drW at hu
  cases hf:Cf w.B c.N with
  |none=>rw[hf]at hu;exact hn u hu
  |some i=>rw[hf]at hu;exact hn u hu
 ·rw[(a6 k).2]at hu
  obtain⟨x,hx,rfl|rfl⟩:=ge (show u∈qj c.U (ldU c.N) w.U from hu)
  ·exact hn _ hx
  ·exact z0
 ·rw[(a7 k).2]at hu
  obtain⟨_,_,_,_,_,hl,hf⟩:=dz (c:=c) hm.1.2.1
  obtain⟨j,hj,rfl⟩:=Faj hu
  obtain⟨_,_,_,e|⟨t,ht,e⟩⟩:=hf j (by omega)
  ·rw[e];exact hn _ (Faa _)
  ·rw[e];exact Mk hm.1.1.2.1.1 ht
theorem ydd(w:Wld)(c:Cmd):(drW w c).tick=w.tick/\(drW w c).players=w.players/\(drW w c).next=w.next/\(drW w c).G=w.G/\(drW w c).U=w.U/\(drW w c).B.length<=w.B.length:=by
 unfold drW
 cases Cf w.B c.N with
 |none=>exact⟨rfl,rfl,rfl,rfl,rfl,Fak _⟩
 |some i=>exact⟨rfl,rfl,rfl,rfl,rfl,List.length_eraseIdx_le _ _⟩
end
instance(g:Gnd)(t:Nat)(p:Vc)(r:Int):Decidable (xq g t p r):=by unfold xq;infer_instance
instance(g:Gnd)(b:Bld):Decidable (Ce g b):=by unfold Ce;infer_instance
instance(g:Gnd)(b:Bld):Decidable (onP g b):=by unfold onP;infer_instance
instance(b:Bld):Decidable (yc b):=by unfold yc;infer_instance
instance(a b:Bld):Decidable (jd a b):=by unfold jd;infer_instance
instance(l:List Bld):Decidable (Lk l):=by unfold Lk;infer_instance
instance(l:List Bld):Decidable (Rb l):=by unfold Rb;infer_instance
instance(g:Gnd):Decidable (zo g):=by unfold zo;infer_instance
instance(g:Gnd)(l:List Bld):Decidable (Fk g l):=by unfold Fk;infer_instance
instance(g:Gnd)(l:List Bld)(c:Int)(p:Vc)(r:Int):Decidable (Af g l c p r):=by unfold Af;infer_instance
instance(w:Wld)(id k:Int)(p:Vc):Decidable (qm w id k p):=by unfold qm;infer_instance
instance(k:Int):Decidable (vq k):=by unfold vq;infer_instance
instance(g:Gnd)(t:Int):Decidable (ky g t):=by unfold ky;infer_instance
instance(w:Wld)(u:Unt):Decidable (xp w u):=by unfold xp;infer_instance
instance(w:Wld):Decidable (Gg w):=by unfold Gg;infer_instance
instance(l:List Unt):Decidable (yf l):=by unfold yf;infer_instance
instance(w:Wld):Decidable (Gw w):=by unfold Gw;infer_instance
instance(w:Wld)(u:Unt):Decidable (wq w u):=by unfold wq;infer_instance
instance(w:Wld):Decidable (z8 w):=by unfold z8;infer_instance
instance(x y:Int):Decidable (ql x y):=by unfold ql;infer_instance
instance(t:Int):Decidable (j6 t):=by unfold j6;infer_instance
instance(t:Int):Decidable (idP t):=by unfold idP;infer_instance
instance(l:List Int):Decidable (Bp l):=by unfold Bp;infer_instance
instance(w:Wld):Decidable (Gi w):=by unfold Gi;infer_instance
def ja(a b:Vc):Vc:=(yx a.1 b.1,yx a.2 b.2)
def j3(v:Vc):Vc:=(nrm v.1,nrm v.2)
def Ax(v:Vc)(k:Nat):Vc:=(v.1.tdiv (2^k:Nat),v.2.tdiv (2^k:Nat))
def Nq(m:Int):Nat->Int->Int
 |0,r=>r
 |b+1,r=>Nq m b (if(r+(2^b:Nat))*(r+(2^b:Nat))<=m then r+(2^b:Nat)else r)
def jt(m:Int):Int:=Nq m 63 0
theorem zvp{m:Int}(hm:0<=m):∀(b:Nat) (r:Int),0<=r->r*r<=m->(r+(2^b:Nat)=9223372036854775808\/m<(r+(2^b:Nat))*(r+(2^b:Nat)))->r+(2^b:Nat)<=9223372036854775808->Cw m (Nq m b r):=by
 intro b
 induction b with
 |zero=>
  intro r h0 h1 h2 h3
  refine⟨h0,?_,h1,?_⟩
  ·simp only[Nat.pow_zero]at h3
   show r<=_
   omega
  ·show r=_\/_
   simp only[Nat.pow_zero]at h2
   rcases h2 with h2|h2
   ·exact .inl (by omega)
   ·exact .inr h2
 |succ b ih=>
  intro r h0 h1 h2 h3
  have hp:(2^(b+1):Nat)=2^b+2^b:=by rw[Nat.pow_succ];omega
  have hq:0<2^b:=Nat.pow_pos (by decide)
  rw[hp]at h2 h3
  generalize hB:2^b=B at*
  show Cw m (Nq m b (if _ then _ else _))
  rw[hB]
  split
  ·rename_i hle
   refine ih (r+(B:Nat)) (by omega) hle ?_ (by omega)
   rw[Int.add_assoc,show((B:Nat):Int)+(B:Nat)=((B+B:Nat):Int) by omega]
   exact h2
  ·rename_i hle
   exact ih r h0 h1 (.inr (by omega)) (by omega)
theorem I2{m:Int}(hm:0<=m):Cw m (jt m):=zvp hm 63 0 (by decide) (by simpa using hm) (.inl (by decide)) (by decide)
theorem ic{m r:Int}(hm:0<=m)(h:Cw m r):r=jt m:=zzt h (I2 hm)
def Fi(c most long:Int):Int:=if c<0 then -((-c)*most/long)else c*most/long
def xz(v:Vc)(most:Int):Vc:=
 if jt (sqr v)<=max most 0 then j3 v else(Fi (nrm v.1) (max most 0) (jt (sqr v)),Fi (nrm v.2) (max most 0) (jt (sqr v)))
def Ik(p q:Vc)(speed:Int):Vc:=xz (qr q p) speed
def wh(p:Vc)(r:Int)(q:Vc):Vc:=
 if near p q r then xz (if qr p q=(0,0)then(65536,0)else qr p q) (r-jt (sqr (qr p q)))else(0,0)
instance(w:Wld)(id k:Int)(p:Vc):Decidable (qm w id k p):=by unfold qm Af;infer_instance
def v8(w:Wld)(u:Unt)(v:Vc):Nat->Nat->Option (Nat×Vc)
 |0,_=>none
 |n+1,k=>if Ax v k=(0,0)then none else if qm w u.id u.kind (ja u.pos (Ax v k))then some (k,ja u.pos (Ax v k))else v8 w u v n (k+1)
def ym(w:Wld)(u:Unt):Wld:={w with U:=w.U.map λx=>if x.id=u.id then u else x}
def G5(w:Wld)(u:Unt)(v:Vc):Int:=match v8 w u (j3 v) 5 0 with|none=>5|some (k,_)=>(k:Int)
def vk(w:Wld)(u:Unt)(v:Vc):Wld:=match v8 w u (j3 v) 5 0 with|none=>w|some (_,p)=>ym w {u with pos:=p}
def Ge(w:Wld)(u:Unt):Vc:=w.U.foldl (λv x=>if x.inn=0/\x.id≠u.id then ja v (wh u.pos (zr u.kind+zr x.kind+16384) x.pos)else v) (0,0)
def Dq(w:Wld)(u:Unt):Wld:=vk w u (xz (Ge w u) ((kj u.kind).tdiv 4))
def ww(s:Int)(u:Unt):Unt:={u with goal:=-1,next:=-1,stuck:=0,state:=s}
def okU(w:Wld)(u:Unt)(t:Nat):Bool:=z7 w.G w.B (y9 u.kind) (je u.kind) t
def Hq(w:Wld)(u:Unt)(own:Nat):Bool:=
 decide (u.next=-1)||decide (u.pos=yn w.G u.next.toNat)|| !okU w u u.next.toNat||(decide (u.next≠own)&& !(Dp w.G own).contains u.next)
noncomputable def Bg(w:Wld)(u:Unt)(own:Nat):Int:=
 if u.pos≠yn w.G own then own else
  (let way:=xk w.G (okU w u) (y9 u.kind) (vd w.G (okU w u) (y9 u.kind) u.goal.toNat) own
   if way<0 then -1 else yi w.G own way.toNat)
def Bs(w:Wld)(u:Unt):Wld:=
 if G5 (ym w {u with stuck:=0}) {u with stuck:=0} (Ik u.pos (yn w.G u.next.toNat) (kj u.kind))<5 then vk (ym w {u with stuck:=0}) {u with stuck:=0} (Ik u.pos (yn w.G u.next.toNat) (kj u.kind))
 else if u.stuck+1=8 then ym w (ww 4 u)else ym w {u with stuck:=u.stuck+1,next:=-1}
noncomputable def Cd(w:Wld)(u:Unt):Wld:=
 if u.pos=yn w.G u.goal.toNat then ym w (ww 2 u)
 else if Hq w u (wd w.G u.pos)then
  (if Bg w u (wd w.G u.pos)<0 then ym w (ww 3 u)else Bs w {u with next:=Bg w u (wd w.G u.pos)})
 else Bs w u
noncomputable def wl(w:Wld)(u:Unt):Wld:=if u.goal=-1 then Dq w u else Cd w u
theorem fm(x y:Int):(x-y)*(x-y)=(y-x)*(y-x):=by
 have:y-x=-(x-y):=by omega
 rw[this,Fdh]
theorem ug{g:Gnd}(hg:zo g){l:List Bld}{c c':Int}{p q:Vc}{k k':Int}(hp:Af g l c p (zr k))(hq:Af g l c' q (zr k')):jr p (zr k) q (zr k')=jr q (zr k') p (zr k):=by
 have b1:=Pg hg hp
 have b2:=Pg hg hq
 have r1:=Hf k
 have r2:=Hf k'
 unfold jr
 rw[Oj (by omega) (by omega) (by omega) (by omega) (by omega),Oj (by omega) (by omega) (by omega) (by omega) (by omega),fm p.1,fm p.2,Int.add_comm (zr k)]
theorem bd{w w':Wld}{id k:Int}{p:Vc}(hG:w'.G=w.G)(hB:w'.B=w.B)(h:∀v∈w'.U,v.inn=0->v.id≠id->∃x∈w.U,x.inn=0/\x.id≠id/\x.pos=v.pos/\x.kind=v.kind)(hc:qm w id k p):qm w' id k p:=by
 refine⟨by rw[hG,hB];exact hc.1,λv hv h0 hid=>?_⟩
 obtain⟨x,hx,e1,e2,e3,e4⟩:=h v hv h0 hid
 rw[<-e3,<-e4]
 exact hc.2 x hx e1 e2
theorem nz(l:List Unt)(id:Int):zx l id=((l.map λu=>(u.inn,u.id)).filter λx=>x.1==id).map (·.2):=by
 unfold zx
 rw[List.filter_map,List.map_map]
 rfl
theorem yac{U U':List Unt}(hl:U'.length=U.length)(h:∀j,(hj:j<U.length)->(U'[j]'(by omega)).inn=U[j].inn/\(U'[j]'(by omega)).id=U[j].id)(id:Int):zx U' id=zx U id:=by
 rw[nz,nz]
 have:(U'.map λu=>(u.inn,u.id))=U.map λu=>(u.inn,u.id):=by
  apply Fdt (by rw[Faq,Faq];exact hl)
  intro j h1 h2
  rw[Faq]at h1 h2
  rw[Fbw,Fbw,(h j h2).1,(h j h2).2]
 rw[this]
theorem ii{U U':List Unt}(hl:U'.length=U.length)(h:∀j,(hj:j<U.length)->(U'[j]'(by omega)).id=U[j].id)(hr:yf U):yf U':=by
 intro j hj h0
 rw[hl]at hj
 have:=hr j hj h0
 rw[h _ (by omega),h _ hj]
 exact this
theorem yaa{l:List Unt}{u:Unt}(hu:u∈l):u.id∈zx l u.inn:=by
 unfold zx
 exact Fad.2 ⟨u,Fbn.2 ⟨hu,by simp⟩,rfl⟩
theorem Vr{w:Wld}(hm:z8 w){U:List Unt}(hl:U.length=w.U.length)(h1:∀j,(hj:j<w.U.length)->mvG 0 (U[j]'(by omega))=mvG 0 w.U[j])(h2:∀j,(hj:j<w.U.length)->w.U[j].inn≠0->U[j]'(by omega)=w.U[j])(h3:∀j,(hj:j<w.U.length)->xp w (U[j]'(by omega))):z8 {w with U:=U}:=by
 obtain⟨⟨hh,hr,hu⟩,hc,hd⟩:=hm
 have same:=λj hj=>Hn (h1 j hj)
 have back:∀v∈U,∃j,∃hj:j<w.U.length,v=U[j]'(by omega):=λv hv=>by
  obtain⟨j,hj,rfl⟩:=Faj hv
  exact⟨j,by omega,rfl⟩
 have hin:=yac hl (λj hj=>⟨(same j hj).2.2.2.2,(same j hj).1⟩)
 refine⟨⟨⟨hh.1,⟨hh.2.1.1,hh.2.1.2.1,by show U.length<=_;rw[hl];exact hh.2.1.2.2⟩,hh.2.2⟩,ii hl (λj hj=>(same j hj).1) hr,λv hv=>?_⟩,λv hv h0=>?_,λv hv h0=>?_⟩
 ·obtain⟨j,hj,rfl⟩:=back v hv
  refine⟨h3 j hj,λb hb=>?_⟩
  rw[(same j hj).1]
  exact(hu _ (Faa hj)).2 b hb
 ·obtain⟨j,hj,rfl⟩:=back v hv
  obtain⟨e1,_,e3,e4,e5⟩:=same j hj
  rw[e1,e3,e4]
  refine bd (w:=w) rfl rfl (λx hx hx0 hxi=>?_) (hc _ (Faa hj) (by rw[<-e5];exact h0))
  obtain⟨k,hk,rfl⟩:=back x hx
  obtain⟨f1,_,f3,f4,f5⟩:=same k hk
  exact⟨_,Faa hk,by rw[<-f5];exact hx0,by rw[<-f1];exact hxi,f4.symm,f3.symm⟩
 ·obtain⟨j,hj,rfl⟩:=back v hv
  have e5:=(same j hj).2.2.2.2
  rw[e5]at h0
  rw[h2 j hj h0]
  obtain⟨x,hx,g1,g2,g3,g4⟩:=hd _ (Faa hj) h0
  obtain⟨k,hk,rfl⟩:=Faj hx
  obtain⟨f1,f2,f3,f4,f5⟩:=same k hk
  refine⟨U[k]'(by omega),Faa _,by rw[f1];exact g1,⟨by rw[f5];exact g2.1,by rw[f2];exact g2.2⟩,?_,g4⟩
  show((zx U _).length:Int)<=_
  rw[hin,f3]
  exact g3
theorem pq{q:Unt->Bool}{x:Unt}(hx:q x=false):∀(U:List Unt) (i:Nat),((U.set i x).filter q).length<=(U.filter q).length
 |[],_=>Fak _
 |a::l,0=>by
  rw[List.set_cons_zero,Fcv,Fcv]
  simp only[hx,Fae,if_false]
  split
  ·rw[Fbh];omega
  ·exact Fak _
 |a::l,i+1=>by
  rw[List.set_cons_succ,Fcv,Fcv]
  have:=pq hx l i
  split
  ·simp only[Fbh];omega
  ·exact this
theorem m6{w:Wld}(hm:z8 w){i:Nat}(hi:i<w.U.length){p:Vc}(hp:qm w w.U[i].id w.U[i].kind p):z8 {w with U:=w.U.set i {w.U[i]with pos:=p,inn:=0}}:=by
 obtain⟨⟨hh,hr,hu⟩,hc,hd⟩:=hm
 have hg:=hh.2.1.1
 have hl:(w.U.set i {w.U[i]with pos:=p,inn:=0}).length=w.U.length:=Fa6
 have get:∀j,(hj:j<w.U.length)->(w.U.set i {w.U[i]with pos:=p,inn:=0})[j]'(by omega)=if i=j then{w.U[i]with pos:=p,inn:=0}else w.U[j]:=λj hj=>Fcg ..
 have back:∀v∈w.U.set i {w.U[i]with pos:=p,inn:=0},v={w.U[i]with pos:=p,inn:=0}\/∃j,∃hj:j<w.U.length,j≠i/\v=w.U[j]:=λv hv=>by
  obtain⟨j,hj,rfl⟩:=Faj hv
  rw[hl]at hj
  rw[get j hj]
  split
  ·exact .inl rfl
  ·rename_i e;exact .inr ⟨j,hj,Ne.symm e,rfl⟩
 have idne:∀j,(hj:j<w.U.length)->j≠i->w.U[j].id≠w.U[i].id:=λj hj hne e=>by
  rcases Feo j i with q|q|q
  ·have:=Dh hr q hi;omega
  ·exact hne q
  ·have:=Dh hr q hj;omega
 have hself:xp w {w.U[i]with pos:=p,inn:=0}/\∀b∈w.B,b.id≠w.U[i].id:=⟨(hu _ (Faa hi)).1,(hu _ (Faa hi)).2⟩
 refine⟨⟨⟨hh.1,⟨hh.2.1.1,hh.2.1.2.1,by show(w.U.set i _).length<=_;rw[hl];exact hh.2.1.2.2⟩,hh.2.2⟩,Nv hr hi rfl,λv hv=>?_⟩,λv hv h0=>?_,λv hv h0=>?_⟩
 ·rcases back v hv with rfl|⟨j,hj,_,rfl⟩
  ·exact hself
  ·exact hu _ (Faa hj)
 ·rcases back v hv with rfl|⟨j,hj,hne,rfl⟩
  ·refine bd (w:=w) rfl rfl (λx hx hx0 hxi=>?_) hp
   rcases back x hx with rfl|⟨k,hk,_,rfl⟩
   ·exact absurd rfl hxi
   ·exact⟨_,Faa hk,hx0,hxi,rfl,rfl⟩
  ·have hcj:=hc _ (Faa hj) h0
   refine⟨hcj.1,λx hx hx0 hxi=>?_⟩
   rcases back x hx with rfl|⟨k,hk,_,rfl⟩
   ·have:=hp.2 _ (Faa hj) h0 (idne j hj hne)
    rw[ug hg hp.1 hcj.1]at this
    exact this
   ·exact hcj.2 _ (Faa hk) hx0 hxi
 ·rcases back v hv with rfl|⟨j,hj,hne,rfl⟩
  ·exact absurd rfl h0
  obtain⟨x,hx,g1,g2,g3,g4⟩:=hd _ (Faa hj) h0
  obtain⟨k,hk,rfl⟩:=Faj hx
  have hle:((zx (w.U.set i {w.U[i]with pos:=p,inn:=0}) w.U[j].inn).length:Int)<=xi w.U[k].kind:=by
   have h9:=pq (q:=λu=>u.inn==w.U[j].inn) (x:={w.U[i]with pos:=p,inn:=0}) (by
    show((0:Int)==w.U[j].inn)=false
    simpa using λe=>h0 e.symm) w.U i
   unfold zx at g3⊢
   rw[Faq]at g3⊢
   omega
  by_cases e:k=i
  ·subst e
   exact⟨{w.U[k]with pos:=p,inn:=0},List.mem_set hi _,g1,⟨rfl,g2.2⟩,hle,g4⟩
  ·refine⟨w.U[k],?_,g1,g2,hle,g4⟩
   have:(w.U.set i {w.U[i]with pos:=p,inn:=0})[k]'(by omega)=w.U[k]:=by rw[get k hk,if_neg (Ne.symm e)]
   rw[<-this]
   exact Faa _
theorem mz{tile:Int}:∀(l:List Int) (w x:Wld),z8 w->unl tile l w=some x->z8 x
 |[],w,x,hm,h=>by
  have:w=x:=Option.some.inj h
  subst this
  exact hm
 |id::l,w,x,hm,h=>by
  cases hf:qb w.U id with
  |none=>
   have:unl tile (id::l) w=none:=by
    show(match qb w.U id with|none=>none|some i=>_)=_
    rw[hf]
   rw[this]at h;cases h
  |some i=>
   obtain⟨hi,_⟩:=Gk hf
   cases ho:Bf w w.U[i] tile with
   |none=>rw[Rv hi hf ho]at h;cases h
   |some t=>
    rw[Ru hi hf ho]at h
    exact mz l _ x (m6 hm hi (ll ho).2) h
section
variable {w:Wld} {i:Nat} {u:Unt} {s:Int}
theorem Hg(hr:yf w.U)(hi:i<w.U.length)(hid:u.id=w.U[i].id):ym w u={w with U:=w.U.set i u}:=by
 unfold ym
 congr 1
 refine Fdt (by simp) λj h1 h2=>?_
 have hj:j<w.U.length:=by simpa using h1
 rw[Fbw,Fcg]
 by_cases e:i=j
 ·subst e
  rw[if_pos hid.symm,if_pos rfl]
 ·rw[if_neg e,if_neg]
  intro hx
  rcases Nat.lt_or_gt_of_ne e with h|h
  ·have:=D4 hr h hj;omega
  ·have:=D4 hr h hi;omega
theorem N9(hr:yf w.U)(hi:i<w.U.length)(hid:u.id=w.U[i].id):∃h2:i<(ym w u).U.length,(ym w u).U[i]=u:=by
 rw[Hg hr hi hid]
 exact⟨by simpa using hi,by simp⟩
theorem N8(w:Wld)(u:Unt):(ym w u).U.length=w.U.length:=by simp[ym]
theorem i8(hr:yf w.U)(hi:i<w.U.length)(hid:u.id=w.U[i].id){j:Nat}(hj:j<w.U.length)(hij:j≠i):(ym w u).U[j]'(by rw[N8];exact hj)=w.U[j]:=by
 have h:=Hg hr hi hid
 have:(ym w u).U=w.U.set i u:=by rw[h]
 simp only[this]
 rw[Fcg,if_neg (Ne.symm hij)]
theorem Ou(hm:z8 w)(hi:i<w.U.length)(h0:w.U[i].inn=0)(h1:mvG 0 u=mvG 0 w.U[i])(h2:xp w u):z8 (ym w u):=by
 have hid:u.id=w.U[i].id:=(Hn h1).1
 rw[Hg hm.1.2.1 hi hid]
 have get:∀j,(hj:j<w.U.length)->(w.U.set i u)[j]'(by simpa using hj)=if i=j then u else w.U[j]:=λj hj=>Fcg ..
 refine Vr hm (by simp) (λj hj=>?_) (λj hj hn=>?_) (λj hj=>?_)
 ·rw[get j hj]
  split
  ·rename_i e;subst e;exact h1
  ·rfl
 ·rw[get j hj]
  split
  ·rename_i e;subst e;exact absurd h0 hn
  ·rfl
 ·rw[get j hj]
  split
  ·exact h2
  ·exact(hm.1.2.2 _ (Faa hj)).1
theorem Na{v:Vc}:∀(n k:Nat) {r:Nat×Vc},v8 w u v n k=some r->qm w u.id u.kind r.2/\(k<=r.1/\r.1<k+n)/\r.2=ja u.pos (Ax v r.1)
 |0,k,r,h=>by cases h
 |n+1,k,r,h=>by
  unfold v8 at h
  split at h
  ·cases h
  ·split at h
   ·cases h
    exact⟨‹_›,by omega,rfl⟩
   ·obtain⟨h1,h2,h3⟩:=Na n (k+1) h
    exact⟨h1,by omega,h3⟩
theorem m3(hm:z8 w)(hi:i<w.U.length)(h0:w.U[i].inn=0)(v:Vc):z8 (vk w w.U[i] v):=by
 unfold vk
 cases h:v8 w w.U[i] (j3 v) 5 0 with
 |none=>exact hm
 |some r=>
  obtain⟨k,p⟩:=r
  dsimp only
  obtain⟨h1,_,_⟩:=Na 5 0 h
  rw[Hg (u:={w.U[i]with pos:=p}) hm.1.2.1 hi rfl]
  have:=m6 hm hi h1
  have e:({w.U[i]with pos:=p,inn:=0}:Unt)={w.U[i]with pos:=p}:=by rw[<-h0]
  rw[e]at this
  exact this
theorem Rs(hm:z8 w)(hi:i<w.U.length):xp w w.U[i]:=(hm.1.2.2 _ (Faa hi)).1
theorem zbi(h:xp w u)(hs:s=2\/s=3\/s=4):xp w (ww s u):=by
 obtain⟨⟨a1,a2,a3⟩,_,_,_⟩:=h
 refine⟨⟨a1,a2,a3⟩,⟨.inl rfl,.inl rfl,by show(0:Int)<=0/\(0:Int)<8;omega⟩,⟨by show 0<=s/\s<=4;omega,?_⟩,λ_=>⟨rfl,rfl⟩⟩
 show s=1↔(-1:Int)≠-1
 omega
theorem M6(h:xp w u)(hg:u.goal≠-1){nx st:Int}(hn:ky w.G nx)(hs:0<=st/\st<8):xp w {u with next:=nx,stuck:=st}:=by
 obtain⟨⟨a1,a2,a3⟩,⟨b1,b2,b3⟩,c,d⟩:=h
 exact⟨⟨a1,a2,a3⟩,⟨b1,hn,hs⟩,c,λe=>absurd e hg⟩
theorem Vs(hm:z8 w)(hi:i<w.U.length)(h0:w.U[i].inn=0)(hs:s=2\/s=3\/s=4)(hu:mvG 0 u=mvG 0 w.U[i])(hup:xp w u):z8 (ym w (ww s u)):=
 Ou hm hi h0 (by rw[<-hu];rfl) (zbi hup hs)
theorem m4(hm:z8 w)(hi:i<w.U.length)(h0:w.U[i].inn=0)(hu:mvG 0 u=mvG 0 w.U[i])(hup:xp w u)(hg:u.goal≠-1):z8 (Bs w u):=by
 have hid:u.id=w.U[i].id:=(Hn hu).1
 have hin:u.inn=w.U[i].inn:=(Hn hu).2.2.2.2
 unfold Bs
 split
 ·have hp:xp w {u with stuck:=0}:=M6 hup hg hup.2.1.2.1 (by omega)
  have hm2:z8 (ym w {u with stuck:=0}):=Ou hm hi h0 (by rw[<-hu];rfl) hp
  obtain⟨h2,e⟩:=N9 (u:={u with stuck:=0}) hm.1.2.1 hi hid
  have:=m3 hm2 h2 (by rw[e];exact hin.trans h0) (Ik u.pos (yn w.G u.next.toNat) (kj u.kind))
  rw[e]at this
  exact this
 ·split
  ·exact Vs hm hi h0 (.inr (.inr rfl)) hu hup
  ·rename_i h8
   have:=hup.2.1.2.2
   exact Ou hm hi h0 (by rw[<-hu];rfl) (M6 hup hg (.inl rfl) (by omega))
theorem lv(hm:z8 w)(hi:i<w.U.length)(h0:w.U[i].inn=0):(0<=w.U[i].pos.1/\w.U[i].pos.1<w.G.W*65536)/\(0<=w.U[i].pos.2/\w.U[i].pos.2<w.G.H*65536):=by
 have:=Pg hm.1.1.2.1.1 (hm.2.1 _ (Faa hi) h0).1
 have:=this.1
 have:=this.2
 omega
theorem S6(hm:z8 w)(hi:i<w.U.length)(h0:w.U[i].inn=0):wd w.G w.U[i].pos<w.G.T.length:=(el hm.1.1.2.1.1 (lv hm hi h0)).2.1
theorem R4{g:Gnd}(hg:zo g){t:Nat}(h:t<g.T.length):ky g (t:Int):=.inr (by have:=hg.2.2.1;omega)
theorem za2(g:Gnd)(ok:Nat->Bool)(c:Int)(d:Nat->Int)(t:Nat):xk g ok c d t=-1\/∃way:Nat,way<8/\xk g ok c d t=way/\0<qo g ok c t way:=by
 unfold xk
 split
 ·exact .inl rfl
 ·cases h:(List.range 8).find? λway=>decide (0<qo g ok c t way/\0<=d (yi g t way).toNat/\qo g ok c t way+d (yi g t way).toNat=d t)with
  |none=>exact .inl rfl
  |some way=>
   have h1:=Fc7 h
   have h2:=Feh h
   exact .inr ⟨way,by simpa using h1,rfl,(of_decide_eq_true h2).1⟩
theorem Vi(hg:zo w.G){own:Nat}(ho:own<w.G.T.length):ky w.G (Bg w u own):=by
 unfold Bg
 split
 ·exact R4 hg ho
 ·dsimp only
  rcases za2 w.G (okU w u) (y9 u.kind) (vd w.G (okU w u) (y9 u.kind) u.goal.toNat) own with h|⟨way,h1,h2,_⟩
  ·rw[h,if_pos (by decide)];exact .inl rfl
  ·rw[h2,if_neg (by omega)]
   rcases P7 hg (t:=own) (way:=way) h1 with h3|⟨x,h3,h4⟩
   ·rw[Fa7,h3];exact .inl rfl
   ·rw[Fa7,h3];exact R4 hg h4
theorem zyz(hm:z8 w)(hi:i<w.U.length)(h0:w.U[i].inn=0)(hg:w.U[i].goal≠-1):z8 (Cd w w.U[i]):=by
 have hu:=Rs hm hi
 unfold Cd
 split
 ·exact Vs hm hi h0 (.inl rfl) rfl hu
 ·split
  ·split
   ·exact Vs hm hi h0 (.inr (.inl rfl)) rfl hu
   ·exact m4 hm hi h0 (u:={w.U[i]with next:=Bg w w.U[i] (wd w.G w.U[i].pos)}) rfl (M6 hu hg (Vi hm.1.1.2.1.1 (S6 hm hi h0)) hu.2.1.2.2) hg
  ·exact m4 hm hi h0 rfl hu hg
theorem zyr(hm:z8 w)(hi:i<w.U.length)(h0:w.U[i].inn=0):z8 (wl w w.U[i]):=by
 unfold wl
 split
 ·exact m3 hm hi h0 _
 ·exact zyz hm hi h0 ‹_›
end
section
variable {a b m L c:Int}
theorem Ld(ha:0<=a)(h:a<=b):a*a<=b*b:=Fbj h h ha (by omega)
theorem zqu{p q:Int}(hp:0<=p)(h:p<q):p*p<q*q:=
 Int.lt_of_le_of_lt (Fdd (Int.le_of_lt h) hp) (Int.mul_lt_mul_of_pos_right h (by omega))
theorem Ka(a b c d:Int):a*b*(c*d)=a*c*(b*d):=by ac_rfl
theorem yd2{x y s:Int}(hx:0<=x)(hy:0<=y)(hm:0<=m)(hmL:m<L)(hs:x*x+y*y<(L+1)*(L+1))(ha:a=x*m/L)(hb:b=y*m/L):a*a+b*b<(m+1)*(m+1):=by
 have hL:0<L:=by omega
 have a1:a*L<=x*m:=by rw[ha];exact Int.ediv_mul_le _ (by omega)
 have b1:b*L<=y*m:=by rw[hb];exact Int.ediv_mul_le _ (by omega)
 have a0:0<=a:=by rw[ha];exact Fcr (Fay hx hm) (by omega)
 have b0:0<=b:=by rw[hb];exact Fcr (Fay hy hm) (by omega)
 have a2:=Ld (Fay a0 (by omega:(0:Int)<=L)) a1
 have b2:=Ld (Fay b0 (by omega:(0:Int)<=L)) b1
 have e1:(a*a+b*b)*(L*L)=a*L*(a*L)+b*L*(b*L):=by
  rw[Fd7,Ka a a L L,Ka b b L L]
 have e2:x*m*(x*m)+y*m*(y*m)=(x*x+y*y)*(m*m):=by
  rw[Fd7,Ka x x m m,Ka y y m m]
 have h1:(a*a+b*b)*(L*L)<=(x*x+y*y)*(m*m):=by rw[e1,<-e2];exact Int.add_le_add a2 b2
 refine Int.not_le.1 λhle=>?_
 have h2:(m+1)*(m+1)*(L*L)<=(x*x+y*y)*(m*m):=Int.le_trans (Int.mul_le_mul_of_nonneg_right hle (Fay (by omega) (by omega))) h1
 have h3:(x*x+y*y)*(m*m)<=((L+1)*(L+1))*(m*m):=Int.mul_le_mul_of_nonneg_right (by omega) (Fay hm hm)
 have e3:(m+1)*(m+1)*(L*L)=((m+1)*L)*((m+1)*L):=Ka ..
 have e4:((L+1)*(L+1))*(m*m)=((L+1)*m)*((L+1)*m):=Ka ..
 have h4:((L+1)*m)*((L+1)*m)<((m+1)*L)*((m+1)*L):=by
  have k1:(L+1)*m<(m+1)*L:=by
   rw[Fd7,Fd7,Fcl L m];omega
  have k0:0<=(L+1)*m:=Fay (by omega) hm
  exact zqu k0 k1
 omega
def wg(v:Vc):Prop:=(-1125899906842624<=v.1/\v.1<=1125899906842624)/\(-1125899906842624<=v.2/\v.2<=1125899906842624)
theorem Hb{v:Vc}(h:wg v):sqr v=v.1*v.1+v.2*v.2/\j3 v=v/\0<=sqr v/\sqr v<(jt (sqr v)+1)*(jt (sqr v)+1):=by
 obtain⟨h1,h2⟩:=h
 have e:sqr v=v.1*v.1+v.2*v.2:=by unfold sqr;rw[P9 (by omega),P9 (by omega)]
 have p1:0<=v.1*v.1:=by rcases Int.le_total 0 v.1 with h|h;exact Fay h h;rw[<-Fdh];exact Fay (by omega) (by omega)
 have p2:0<=v.2*v.2:=by rcases Int.le_total 0 v.2 with h|h;exact Fay h h;rw[<-Fdh];exact Fay (by omega) (by omega)
 have b:∀x:Int,-1125899906842624<=x/\x<=1125899906842624->x*x<=1125899906842624*1125899906842624:=λx hx=>by
  rcases Int.le_total 0 x with h|h
  ·exact Ld h hx.2
  ·rw[<-Fdh];exact Ld (by omega) (by omega)
 have b1:=b _ h1
 have b2:=b _ h2
 have h0:0<=sqr v:=by omega
 refine⟨e,?_,h0,?_⟩
 ·unfold j3;rw[jc (by omega),jc (by omega)]
 ·obtain⟨r0,r1,r2,r3⟩:=I2 h0
  rcases r3 with r3|r3
  ·rw[r3]at r2;omega
  ·exact r3
theorem K5(x:Int):x*x=(x.natAbs:Int)*x.natAbs:=by rw[<-Int.natCast_mul,Int.natAbs_mul_self]
theorem W6(hm:0<=m)(hL:0<L):((Fi c m L).natAbs:Int)=(c.natAbs:Int)*m/L:=by
 have q:∀z:Int,0<=z->0<=z*m/L:=λz hz=>Fcr (Fay hz hm) (by omega)
 unfold Fi
 split
 ·have:=q (-c) (by omega)
  rw[show(c.natAbs:Int)=-c by omega];omega
 ·have:=q c (by omega)
  rw[show(c.natAbs:Int)=c by omega];omega
theorem Pu(hm:0<=m)(hmL:m<L):(Fi c m L).natAbs<=c.natAbs:=by
 have h1:=W6 (c:=c) hm (show 0<L by omega)
 have h2:(c.natAbs:Int)*m/L<=c.natAbs:=by
  have:(c.natAbs:Int)*m<=c.natAbs*L:=Fdd (by omega) (by omega)
  exact Int.le_trans (Int.ediv_le_ediv (by omega) this) (by rw[Int.mul_ediv_cancel _ (by omega)];exact Fcw _)
 omega
theorem sf{v:Vc}(hs:wg v)(hm:0<=m):wg (xz v m)/\(xz v m).1*(xz v m).1+(xz v m).2*(xz v m).2<(m+1)*(m+1):=by
 obtain⟨e,en,h0,h1⟩:=Hb hs
 have hmx:max m 0=m:=by omega
 have n1:nrm v.1=v.1:=congrArg Prod.fst en
 have n2:nrm v.2=v.2:=congrArg Prod.snd en
 have r0:=(I2 h0).1
 unfold xz
 rw[hmx]
 split
 ·rename_i hle
  rw[en]
  refine⟨hs,?_⟩
  have:=Ld (show 0<=jt (sqr v)+1 by omega) (show jt (sqr v)+1<=m+1 by omega)
  omega
 ·rename_i hgt
  rw[n1,n2]
  have hmL:m<jt (sqr v):=by omega
  have c1:=Pu (c:=v.1) hm hmL
  have c2:=Pu (c:=v.2) hm hmL
  refine⟨?_,?_⟩
  ·unfold wg at hs⊢
   dsimp only
   omega
  ·dsimp only
   rw[K5 (Fi v.1 _ _),K5 (Fi v.2 _ _)]
   refine yd2 (s:=0) (x:=v.1.natAbs) (y:=v.2.natAbs) (by omega) (by omega) hm hmL ?_ (W6 hm (by omega)) (W6 hm (by omega))
   rw[<-K5,<-K5]
   omega
theorem oi(x:Int)(k:Nat):(x.tdiv (2^k:Nat)).natAbs<=x.natAbs:=by
 rw[Int.natAbs_tdiv]
 exact Nat.div_le_self _ _
def qw(p:Vc):Prop:=(0<=p.1/\p.1<=8388608)/\(0<=p.2/\p.2<=8388608)
theorem Me(ha:-2251799813685248<=a/\a<=2251799813685248)(hb:-2251799813685248<=b/\b<=2251799813685248):yx a b=a+b:=by
 unfold yx xm
 rw[jc (by omega),jc (by omega),if_neg (by omega),if_neg (by omega)]
theorem Rl{p q:Vc}(hp:qw p)(hq:qw q):qr q p=(q.1-p.1,q.2-p.2)/\wg (qr q p):=by
 obtain⟨p1,p2⟩:=hp
 obtain⟨q1,q2⟩:=hq
 have e:=cz (a:=q) (b:=p) (by omega) (by omega) (by omega) (by omega)
 refine⟨e,?_⟩
 rw[e]
 unfold wg
 dsimp only
 omega
theorem Sz{p q:Vc}(hp:qw p)(hq:qw q){r:Int}(hr:0<r):-16777216<=(wh p r q).1/\(wh p r q).1<=16777216/\-16777216<=(wh p r q).2/\(wh p r q).2<=16777216:=by
 obtain⟨e,hs⟩:=Rl hq hp
 unfold wh
 split
 ·rename_i hn
  generalize hm:r-jt (sqr (qr p q))=m
  have hv:∀w:Vc,wg w->(w.1.natAbs<=16777216/\w.2.natAbs<=16777216)->-16777216<=(xz w m).1/\(xz w m).1<=16777216/\-16777216<=(xz w m).2/\(xz w m).2<=16777216:=by
   intro w hw hb
   obtain⟨_,en,_,_⟩:=Hb hw
   have n1:nrm w.1=w.1:=congrArg Prod.fst en
   have n2:nrm w.2=w.2:=congrArg Prod.snd en
   unfold xz
   split
   ·rw[en];omega
   ·rename_i hgt
    rw[n1,n2]
    have c1:=Pu (c:=w.1) (m:=max m 0) (L:=jt (sqr w)) (by omega) (by omega)
    have c2:=Pu (c:=w.2) (m:=max m 0) (L:=jt (sqr w)) (by omega) (by omega)
    dsimp only
    omega
  obtain⟨p1,p2⟩:=hp
  obtain⟨q1,q2⟩:=hq
  split
  ·exact hv _ (by unfold wg;decide) (by decide)
  ·refine hv _ hs ?_
   rw[e]
   dsimp only
   omega
 ·decide
theorem yal{w:Wld}{u:Unt}(hu:qw u.pos)(h:∀x∈w.U,x.inn=0->qw x.pos)(hl:w.U.length<=4096):wg (Ge w u):=by
 have key:∀(l:List Unt) (v:Vc) (B:Nat),(∀x∈l,x.inn=0->qw x.pos)->B+l.length<=4096->(v.1.natAbs<=B*16777216/\v.2.natAbs<=B*16777216)->
   wg (l.foldl (λv x=>if x.inn=0/\x.id≠u.id then ja v (wh u.pos (zr u.kind+zr x.kind+16384) x.pos)else v) v):=by
  intro l
  induction l with
  |nil=>
   intro v B _ hB hv
   unfold wg
   simp only[List.length_nil]at hB
   simp only[List.foldl_nil]
   omega
  |cons x l ih=>
   intro v B hx hB hv
   simp only[Fbh]at hB
   rw[Fcp]
   refine ih _ (B+1) (λy hy=>hx y (Fa3 _ hy)) (by omega) ?_
   split
   ·rename_i hc
    have r1:=Hf u.kind
    have r2:=Hf x.kind
    have:=Sz hu (hx x Fbi hc.1) (r:=zr u.kind+zr x.kind+16384) (by omega)
    generalize wh u.pos (zr u.kind+zr x.kind+16384) x.pos=z at*
    have e:ja v z=(v.1+z.1,v.2+z.2):=by
     unfold ja
     rw[Me (by omega) (by omega),Me (by omega) (by omega)]
    rw[e]
    dsimp only
    omega
   ·exact⟨Fda hv.1 (Fa5 _ (Fd5 B)),Fda hv.2 (Fa5 _ (Fd5 B))⟩
 unfold Ge
 refine key w.U (0,0) 0 h (by omega) ⟨?_,?_⟩
 ·show(0:Int).natAbs<=_;simp
 ·show(0:Int).natAbs<=_;simp
end
section
variable {w:Wld} {i:Nat} {u:Unt}
theorem i7(w:Wld){a b:Unt}(h:a.id=b.id):ym (ym w a) b=ym w b:=by
 unfold ym
 simp only[List.map_map]
 congr 1
 refine Fby λx _=>?_
 simp only[Function.comp]
 by_cases e:x.id=a.id
 ·rw[if_pos e,if_pos h,if_pos (e.trans h)]
 ·rw[if_neg e]
theorem zwz(hr:yf w.U)(hi:i<w.U.length):ym w w.U[i]=w:=by
 rw[Hg hr hi rfl]
 congr 1
 exact List.set_getElem_self hi
theorem zvv(hr:yf w.U)(hi:i<w.U.length)(hid:u.id=w.U[i].id):yf (ym w u).U:=by
 refine ii (N8 w u) (λj hj=>?_) hr
 by_cases e:j=i
 ·subst e
  obtain⟨_,h⟩:=N9 hr hi hid
  rw[h];exact hid
 ·rw[i8 hr hi hid hj e]
def Ic(u u':Unt):Prop:=u'.id=u.id/\u'.kind=u.kind/\(u'.pos=u.pos\/∃(v:Vc) (m:Int) (k:Nat),wg v/\0<=m/\m<=kj u.kind/\u'.pos=ja u.pos (Ax (j3 (xz v m)) k))
theorem Ni(k:Int):8192<=kj k/\kj k<=24576:=by unfold kj;split<;>(try split)<;>(try split)<;>omega
theorem ee(hr:yf w.U)(hi:i<w.U.length){v:Vc}{m:Int}(hs:wg v)(hm:0<=m)(hm2:m<=kj w.U[i].kind):∃u',vk w w.U[i] (xz v m)=ym w u'/\Ic w.U[i] u':=by
 unfold vk
 cases h:v8 w w.U[i] (j3 (xz v m)) 5 0 with
 |none=>exact⟨w.U[i],(zwz hr hi).symm,rfl,rfl,.inl rfl⟩
 |some r=>
  obtain⟨k,p⟩:=r
  obtain⟨_,_,h3⟩:=Na 5 0 h
  exact⟨_,rfl,rfl,rfl,.inr ⟨v,m,k,hs,hm,hm2,h3⟩⟩
theorem Lv(hm:z8 w)(hu:u∈w.U)(h0:u.inn=0):qw u.pos:=by
 have:=Pg hm.1.1.2.1.1 (hm.2.1 u hu h0).1
 unfold qw
 omega
theorem sk{g:Gnd}(hg:zo g){t:Nat}(ht:t<g.T.length):qw (yn g t):=by
 obtain⟨⟨h1,h2⟩,⟨h3,h4⟩,h5,_⟩:=hg
 have a:=Fc0 (t:Int) (show g.W≠0 by omega)
 have b:=Fdf (t:Int) (show 0<g.W by omega)
 have c:0<=(t:Int)/g.W:=Fcr (by omega) (by omega)
 have d:(t:Int)/g.W<g.H:=Feb (by omega) (by rw[Fcl];omega)
 unfold qw yn tx ty
 dsimp only
 omega
theorem fe(hm:z8 w)(hi:i<w.U.length)(h0:w.U[i].inn=0)(hu:mvG 0 u=mvG 0 w.U[i])(ht:u.next.toNat<w.G.T.length):∃u',Bs w u=ym w u'/\Ic w.U[i] u':=by
 obtain⟨f1,f2,f3,f4,f5⟩:=Hn hu
 have hmp:=Lv hm (Faa hi) h0
 have same:∀u':Unt,u'.id=u.id->u'.kind=u.kind->u'.pos=u.pos->∃u2,ym w u'=ym w u2/\Ic w.U[i] u2:=λu' a b c=>⟨u',rfl,a.trans f1,b.trans f3,.inl (c.trans f4)⟩
 unfold Bs
 split
 ·obtain⟨h2,e⟩:=N9 (u:={u with stuck:=0}) hm.1.2.1 hi f1
  have hr2:=zvv (u:={u with stuck:=0}) hm.1.2.1 hi f1
  have hs:=(Rl (p:=u.pos) (q:=yn w.G u.next.toNat) (by rw[f4];exact hmp) (sk hm.1.1.2.1.1 ht)).2
  have hsp:=Ni u.kind
  obtain⟨u2,e2,k1,k2,k3⟩:=ee hr2 h2 (v:=qr (yn w.G u.next.toNat) u.pos) (m:=kj u.kind) hs (by omega) (by rw[e];exact Fcw _)
  rw[e]at e2 k1 k2 k3
  refine⟨u2,?_,k1.trans f1,k2.trans f3,?_⟩
  ·unfold Ik
   rw[e2]
   exact i7 w k1.symm
  ·rw[<-f4,<-f3];exact k3
 ·split
  ·exact same _ rfl rfl rfl
  ·exact same _ rfl rfl rfl
theorem zx3(hg:zo w.G){own:Nat}(ho:own<w.G.T.length)(h:¬Bg w u own<0):(Bg w u own).toNat<w.G.T.length:=by
 have:=Vi hg (u:=u) ho
 have:=hg.2.2.1
 unfold ky at*
 omega
theorem ybi(hm:z8 w)(hi:i<w.U.length)(h0:w.U[i].inn=0)(hg:w.U[i].goal≠-1):∃u',Cd w w.U[i]=ym w u'/\Ic w.U[i] u':=by
 have hu:=Rs hm hi
 have hgn:=hm.1.1.2.1.1
 unfold Cd
 split
 ·exact⟨_,rfl,rfl,rfl,.inl rfl⟩
 ·split
  ·split
   ·exact⟨_,rfl,rfl,rfl,.inl rfl⟩
   ·rename_i hn
    exact fe hm hi h0 (u:={w.U[i]with next:=Bg w w.U[i] (wd w.G w.U[i].pos)}) rfl (zx3 hgn (S6 hm hi h0) hn)
  ·rename_i hl
   refine fe hm hi h0 rfl ?_
   have hne:w.U[i].next≠-1:=λe=>hl (by unfold Hq;simp[e])
   have:=hu.2.1.2.1
   have:=hgn.2.2.1
   unfold ky at*
   omega
theorem zbk(hm:z8 w)(hi:i<w.U.length)(h0:w.U[i].inn=0):∃u',wl w w.U[i]=ym w u'/\Ic w.U[i] u':=by
 unfold wl
 split
 ·have hsp:=Ni w.U[i].kind
  have e:(kj w.U[i].kind).tdiv 4=kj w.U[i].kind/4:=Fbc (by omega)
  unfold Dq
  rw[e]
  exact ee hm.1.2.1 hi (yal (Lv hm (Faa hi) h0) (λx hx h=>Lv hm hx h) hm.1.1.2.1.2.2) (by omega) (by omega)
 ·exact ybi hm hi h0 ‹_›
end
structure MayF(w:Wld):Prop where
 hg:zo w.G
 hB:w.B.length<=256
 hU:w.U.length<=4096
 hT:w.G.T.length<=16384
 hb:∀b∈w.B,yc b/\onP w.G b
 hk:∀u∈w.U,vq u.kind
 hr:yf w.U
 hn1:1<=w.next
 hn2:w.next<=1099511627776
theorem kh{w:Wld}(h:z8 w):MayF w:=by
 obtain⟨⟨hh,hok⟩,_⟩:=h
 have hbl:=hh.2.1.2.1
 have ha:=qi hh.2.1.1
 exact⟨hh.2.1.1,hbl.1,hh.2.1.2.2,by omega,λb hb=>⟨(hbl.2.2.1 b hb).1,(hbl.2.2.1 b hb).2.1⟩,λu hu=>(hok.2 u hu).1.1.2.2,hok.1,hh.1.2.2.1,hh.1.2.2.2⟩
theorem MayF.fits{w:Wld}(h:MayF w):w.fits:=⟨by unfold Gnd.fits;have:=h.hT;omega,by have:=h.hB;omega,by have:=h.hU;omega⟩
theorem Oy(k:Int):0<=je k/\je k<=3:=by unfold je;split<;>decide
structure Scr24 where
 W:Wld
 I:List Int
 V:List Vc
def Scr24.good(s:Scr24):Prop:=(∀u∈s.W.U,u.pos.ok)/\(∀n∈s.I,yd n)/\∀v∈s.V,v.ok
theorem zbb(a b:Vc):(ja a b).ok:=by
 have h1:=Pz (nrm a.1+nrm b.1)
 have h2:=Pz (nrm a.2+nrm b.2)
 exact⟨⟨by show _<=xm _;omega,by show xm _<=_;omega⟩,⟨by show _<=xm _;omega,by show xm _<=_;omega⟩⟩
def playW(w:Wld):Prop:=z8 w/\∀u∈w.U,u.pos.ok
theorem playW.sizes{w:Wld}(h:playW w):w.G.T.length<=1000000/\w.B.length<=1000000/\w.U.length<=1000000:=by
 have f:=kh h.1
 have:=f.hB
 have:=f.hU
 have:=f.hT
 omega
theorem zap{u u':Unt}(h:Ic u u')(hu:u.pos.ok):u'.pos.ok:=by
 rcases h.2.2 with e|⟨v,m,k,_,_,_,e⟩
 ·rw[e];exact hu
 ·rw[e];exact zbb _ _
theorem zww{w:Wld}{u:Unt}(hw:∀x∈w.U,x.pos.ok)(hu:u.pos.ok):∀x∈(ym w u).U,x.pos.ok:=by
 intro x hx
 unfold ym at hx
 obtain⟨y,hy,rfl⟩:=Fad.1 hx
 split
 ·exact hu
 ·exact hw y hy
section
variable {w:Wld} {i:Nat}
open Classical in
noncomputable def goN(w:Wld):Nat->Wld
 |0=>w
 |i+1=>if h:i<(goN w i).U.length then(if(goN w i).U[i].inn=0 then wl (goN w i) (goN w i).U[i]else goN w i)else goN w i
noncomputable def ji(w:Wld):Wld:=goN w w.U.length
theorem zw7(h:playW w)(hi:i<w.U.length)(h0:w.U[i].inn=0):playW (wl w w.U[i])/\(wl w w.U[i]).U.length=w.U.length/\(wl w w.U[i]).G=w.G/\(wl w w.U[i]).B=w.B:=by
 obtain⟨u',h1,h2⟩:=zbk h.1 hi h0
 refine⟨⟨zyr h.1 hi h0,?_⟩,?_,?_,?_⟩
 ·rw[h1]
  exact zww h.2 (zap h2 (h.2 _ (Faa hi)))
 ·rw[h1,N8]
 ·rw[h1];rfl
 ·rw[h1];rfl
theorem Pe(h:playW w):∀i,playW (goN w i)/\(goN w i).U.length=w.U.length/\(goN w i).G=w.G/\(goN w i).B=w.B
 |0=>⟨h,rfl,rfl,rfl⟩
 |i+1=>by
  obtain⟨h1,h2,h3,h4⟩:=Pe h i
  unfold goN
  by_cases hi:i<(goN w i).U.length
  ·rw[dif_pos hi]
   by_cases h0:(goN w i).U[i].inn=0
   ·rw[if_pos h0]
    obtain⟨q1,q2,q3,q4⟩:=zw7 h1 hi h0
    exact⟨q1,q2.trans h2,q3.trans h3,q4.trans h4⟩
   ·rw[if_neg h0]
    exact⟨h1,h2,h3,h4⟩
  ·rw[dif_neg hi]
   exact⟨h1,h2,h3,h4⟩
theorem ybl(hi:i<(goN w i).U.length)(h0:(goN w i).U[i].inn=0):goN w (i+1)=wl (goN w i) (goN w i).U[i]:=by
 rw[goN,dif_pos hi,if_pos h0]
theorem ybk(hi:i<(goN w i).U.length)(h0:(goN w i).U[i].inn≠0):goN w (i+1)=goN w i:=by
 rw[goN,dif_pos hi,if_neg h0]
theorem ygk(h:playW w):playW (ji w)/\(ji w).U.length=w.U.length:=⟨(Pe h _).1,(Pe h _).2.1⟩
end
section
variable {x:Unt} {w:Wld}
theorem L8{U:List Unt}{v:Unt}(h:v∈U++[x]):v∈U\/v=x:=by
 rcases Fal.1 h with h|h
 ·exact .inl h
 ·exact .inr (Fcb.1 h)
theorem zvw{U:List Unt}(hr:yf U)(hx:∀u∈U,u.id<x.id):yf (U++[x]):=by
 intro j hj h0
 have hj2:j<U.length+1:=by rw[Fag]at hj;exact hj
 by_cases e:j<U.length
 ·rw[Fbt (by omega),Fbt e]
  exact hr j e h0
 ·have ej:j=U.length:=by omega
  subst ej
  rw[Fbt (by omega),Fds (Fak _)]
  simp only[Nat.sub_self,Fcm]
  exact hx _ (Faa (by omega))
theorem zyu{c:Cmd}(hm:z8 w)(hc:Ah c)(hp:c.P<=w.players)(hk:c.K=1)(h:spE w c=0):z8 (spW w c):=by
 have hn:¬Gi w:=λhf=>by unfold spE at h;rw[if_pos hf]at h;cases h
 have hcl:qm w 0 c.N (c.X,c.Y):=Classical.byContradiction λhh=>by unfold spE at h;rw[if_neg hn,if_neg hh]at h;cases h
 unfold Gi at hn
 have hn1:w.U.length<4096:=by omega
 have hn2:w.next<1099511627776:=by omega
 obtain⟨⟨hh,hr,hu⟩,hcc,hd⟩:=hm
 have hg:=hh.2.1.1
 have hN:=((Cmd.ok1 hk).1 hc.1).1
 have hl:(w.U++[spU w c]).length=w.U.length+1:=by rw[Fag];rfl
 have hnx:=hh.1.2.2.1
 have upu:∀v,xp w v->xp (spW w c) v:=λv hv=>⟨⟨⟨hv.1.1.1,by show v.id<w.next+1;have:=hv.1.1.2;omega⟩,hv.1.2⟩,hv.2⟩
 have hin:∀id,id≠0->zx (w.U++[spU w c]) id=zx w.U id:=λid hid=>by
  unfold zx
  rw[Fc6]
  have:[spU w c].filter (λu=>u.inn==id)=[]:=by
   rw[Fcv]
   have e:((spU w c).inn==id)=false:=by show((0:Int)==id)=false;simpa using λe=>hid e.symm
   rw[e]
   rfl
  rw[this,Fbp]
 refine⟨⟨⟨⟨hh.1.1,hh.1.2.1,by show 1<=w.next+1/\w.next+1<=_;omega⟩,⟨hg,hh.2.1.2.1,by show(w.U++[spU w c]).length<=_;omega⟩,λb hb=>⟨(hh.2.2 b hb).1,by show b.id<w.next+1;have:=(hh.2.2 b hb).2;omega⟩⟩,?_,λv hv=>?_⟩,λv hv h0=>?_,λv hv h0=>?_⟩
 ·exact zvw hr λu hu2=>(hu u hu2).1.1.1.2
 ·rcases L8 hv with hv|rfl
  ·exact⟨upu v (hu v hv).1,(hu v hv).2⟩
  ·refine⟨⟨⟨⟨hnx,by show w.next<w.next+1;omega⟩,⟨hc.2.1.1,hp⟩,hN⟩,⟨.inl rfl,.inl rfl,by show(0:Int)<=0/\(0:Int)<8;decide⟩,⟨by show(0:Int)<=0/\(0:Int)<=4;decide,⟨λe=>absurd (show(0:Int)=1 from e) (by decide),λe=>absurd rfl e⟩⟩,λ_=>⟨rfl,rfl⟩⟩,λb hb=>?_⟩
   have:=(hh.2.2 b hb).2
   show b.id≠w.next
   omega
 ·rcases L8 hv with hv|rfl
  ·have hv0:=hcc v hv h0
   refine⟨hv0.1,λx hx hx0 hxi=>?_⟩
   rcases L8 hx with hx|rfl
   ·exact hv0.2 x hx hx0 hxi
   ·have:=hcl.2 v hv h0 (by have:=(hu v hv).1.1.1.1;omega)
    rw[ug hg hcl.1 hv0.1]at this
    exact this
  ·refine⟨hcl.1,λx hx hx0 hxi=>?_⟩
   rcases L8 hx with hx|rfl
   ·exact hcl.2 x hx hx0 (by have:=(hu x hx).1.1.1.1;omega)
   ·exact absurd rfl hxi
 ·rcases L8 hv with hv|rfl
  ·obtain⟨x,hx,g1,g2,g3,g4⟩:=hd v hv h0
   exact⟨x,List.mem_append_left _ hx,g1,g2,by show((zx (w.U++[spU w c]) _).length:Int)<=_;rw[hin _ h0];exact g3,g4⟩
  ·exact absurd rfl h0
theorem o5{g:Gnd}{l l':List Bld}{c:Int}{p:Vc}{r:Int}(hf:Af g l c p r)(h:∀t,t<g.T.length->yh g l' c t=false->yh g l c t=false\/¬xq g t p r):Af g l' c p r:=
 ⟨hf.1,λt ht ho hh=>by
  rcases h t ht ho with e|e
  ·exact hf.2 t ht e hh
  ·exact e hh⟩
theorem m7(hm:z8 w){B:List Bld}{next:Int}(hnx:w.next<=next/\next<=1099511627776)(hb:Fk w.G B)(hb2:∀b∈B,b.owner<=w.players/\b.id<next)(hb3:∀b∈B,∀u∈w.U,b.id≠u.id)
  (hf:∀u∈w.U,u.inn=0->Af w.G B (y9 u.kind) u.pos (zr u.kind)):z8 {w with B:=B,next:=next}:=by
 obtain⟨⟨hh,hr,hu⟩,hcc,hd⟩:=hm
 have hn1:=hh.1.2.2.1
 refine⟨⟨⟨⟨hh.1.1,hh.1.2.1,by show 1<=next/\next<=_;omega⟩,⟨hh.2.1.1,hb,hh.2.1.2.2⟩,hb2⟩,hr,λv hv=>⟨?_,λb hb=>hb3 b hb v hv⟩⟩,λv hv h0=>⟨hf v hv h0,(hcc v hv h0).2⟩,hd⟩
 have hv0:=(hu v hv).1
 exact⟨⟨⟨hv0.1.1.1,by show v.id<next;have:=hv0.1.1.2;omega⟩,hv0.1.2⟩,hv0.2⟩
theorem zy2{c:Cmd}(hm:z8 w)(hc:Ah c)(hp:c.P<=w.players)(hk:c.K=4)(h:bdE w c=0):z8 (bdW w c):=by
 unfold bdE at h
 have c1:0<=c.T/\c.T<w.G.W*w.G.H:=Classical.byContradiction λhh=>by rw[if_pos hh]at h;cases h
 rw[if_neg (not_not_intro c1)]at h
 have c2:¬1099511627776<=w.next:=λhh=>by rw[if_pos hh]at h;cases h
 rw[if_neg c2]at h
 have c3:q9 w.G w.B (bdB w c)=0:=Classical.byContradiction λhh=>by rw[if_neg hh]at h;exact hh h
 rw[if_pos c3]at h
 have c4:¬Ho w (bdB w c):=λhh=>by rw[if_pos hh]at h;cases h
 unfold q9 at c3
 have d1:onP w.G (bdB w c):=Classical.byContradiction λhh=>by rw[if_pos hh]at c3;cases c3
 rw[if_neg (not_not_intro d1)]at c3
 have d2:¬∃x∈w.B,jd x (bdB w c):=λhh=>by rw[if_pos hh]at c3;cases c3
 rw[if_neg d2]at c3
 have d3:Ce w.G (bdB w c):=Classical.byContradiction λhh=>by rw[if_pos hh]at c3;cases c3
 rw[if_neg (not_not_intro d3)]at c3
 have d4:¬256<=w.B.length:=λhh=>by rw[if_pos hh]at c3;cases c3
 have hsz:=((Cmd.ok4 hk).1 hc.1).2
 have hh:=hm.1.1
 have hnx:=hh.1.2.2.1
 have hbl:=hh.2.1.2.1
 have ha:=qi hh.2.1.1
 have mem:∀b∈w.B++[bdB w c],b∈w.B\/b=bdB w c:=λb hb=>by
  rcases Fal.1 hb with h|h
  ·exact .inl h
  ·exact .inr (Fcb.1 h)
 have hl:(w.B++[bdB w c]).length=w.B.length+1:=by rw[Fag];rfl
 refine m7 hm (B:=w.B++[bdB w c]) (next:=w.next+1) ⟨by omega,by omega⟩ ⟨by omega,?_,λb hb=>?_,?_⟩ (λb hb=>?_) (λb hb u hu=>?_) (λu hu h0=>?_)
 ·intro j hj h0
  have hj2:j<w.B.length+1:=by rw[<-hl];exact hj
  by_cases e:j<w.B.length
  ·rw[Fbt (by omega),Fbt e]
   exact hbl.2.1 j e h0
  ·have ej:j=w.B.length:=by omega
   subst ej
   rw[Fbt (by omega),Fds (Fak _)]
   simp only[Nat.sub_self,Fcm]
   exact(hh.2.2 _ (Faa (by omega))).2
 ·rcases mem b hb with hb|rfl
  ·exact hbl.2.2.1 b hb
  ·exact⟨⟨⟨hnx,by show w.next<=_;omega⟩,⟨hc.2.1.1,hc.2.1.2⟩,hsz⟩,d1,d3⟩
 ·intro j hj i hij
  have hj2:j<w.B.length+1:=by rw[<-hl];exact hj
  by_cases e:j<w.B.length
  ·rw[Fbt e,Fbt (by omega)]
   exact hbl.2.2.2 j e i hij
  ·have ej:j=w.B.length:=by omega
   subst ej
   rw[Fds (Fak _),Fbt (by omega)]
   simp only[Nat.sub_self,Fcm]
   intro hmt
   exact d2 ⟨_,Faa (show i<w.B.length by omega),by unfold jd at hmt⊢;omega⟩
 ·rcases mem b hb with hb|rfl
  ·have:=hh.2.2 b hb;exact⟨this.1,by omega⟩
  ·exact⟨hp,by show w.next<w.next+1;omega⟩
 ·rcases mem b hb with hb|rfl
  ·exact(hm.1.2.2 u hu).2 b hb
  ·have:=(hm.1.2.2 u hu).1.1.1.2
   show w.next≠u.id
   omega
 ·refine o5 (hm.2.1 u hu h0).1 (λt ht ho=>?_)
  by_cases hb:jy w.G (bdB w c) t
  ·exact .inr λhit=>c4 ⟨t,⟨by omega,hb⟩,u,hu,h0,hit⟩
  ·refine .inl ?_
   unfold yh at ho⊢
   have e:qd w.G (w.B++[bdB w c]) t=qd w.G w.B t:=by
    unfold qd
    rw[List.any_append]
    simp[hb]
   rw[e]at ho
   exact ho
theorem zy0{c:Cmd}(hm:z8 w):z8 (drW w c):=by
 unfold drW
 cases hf:Cf w.B c.N with
 |none=>exact hm
 |some i=>
  have hh:=hm.1.1
  have hbl:=hh.2.1.2.1
  have hil:i<w.B.length:=by
   unfold Cf at hf
   rw[Fbg]at hf
   exact hf.1
  have hlen:(w.B.eraseIdx i).length=w.B.length-1:=List.length_eraseIdx_of_lt hil
  have sub:∀b∈w.B.eraseIdx i,b∈w.B:=λb hb=>List.mem_of_mem_eraseIdx hb
  have get:∀j,(hj:j<(w.B.eraseIdx i).length)->(w.B.eraseIdx i)[j]=if h:j<i then w.B[j]'(by omega)else w.B[j+1]'(by omega):=λj hj=>List.getElem_eraseIdx ..
  have up:∀a b,(ha:a<b)->(hb:b<w.B.length)->(w.B[a]'(by omega)).id<w.B[b].id:=λa b hab=>by
   induction b with
   |zero=>omega
   |succ b ih=>
    intro hb
    have h1:=hbl.2.1 (b+1) hb (by omega)
    simp only[Fdx]at h1
    by_cases e:a=b
    ·subst e;exact h1
    ·have:=ih (by omega) (by omega);omega
  have hnx:=hh.1.2.2
  refine m7 hm (B:=w.B.eraseIdx i) (next:=w.next) ⟨by omega,by omega⟩ ⟨by have:=hbl.1;omega,?_,λb hb=>hbl.2.2.1 b (sub b hb),?_⟩ (λb hb=>hh.2.2 b (sub b hb)) (λb hb u hu=>(hm.1.2.2 u hu).2 b (sub b hb)) (λu hu h0=>?_)
  ·intro j hj h0
   rw[get _ (by omega),get _ hj]
   split
   ·split
    ·exact up _ _ (by omega) _
    ·exact up _ _ (by omega) _
   ·rw[dif_neg (by omega)]
    exact up _ _ (by omega) _
  ·intro j hj k hkj
   rw[get _ hj,get _ (by omega)]
   split
   ·rw[dif_pos (by omega)]
    exact hbl.2.2.2 _ _ _ (by omega)
   ·split
    ·exact hbl.2.2.2 _ _ _ (by omega)
    ·exact hbl.2.2.2 _ _ _ (by omega)
  ·refine o5 (hm.2.1 u hu h0).1 (λt ht ho=>.inl ?_)
   unfold yh at ho⊢
   cases hc:qd w.G w.B t with
   |true=>rfl
   |false=>
    have:qd w.G (w.B.eraseIdx i) t=false:=by
     unfold qd at hc⊢
     rw[Fdm]at hc⊢
     exact λb hb=>hc b (sub b hb)
    rw[this]at ho
    exact ho
end
section
variable {w:Wld} {j:Nat}
theorem tv(hr:yf w.U){P id:Int}(h:xj w P id=0)(hj:j<w.U.length)(hid:w.U[j].id=id):w.U[j].owner=P/\w.U[j].inn=0:=by
 obtain⟨i,hi,hf,e,_,e2,e3⟩:=Gr h
 have:=Mc hr hj hid
 rw[hf]at this
 have:=Option.some.inj this
 subst this
 exact⟨e2,e3⟩
theorem Lh{l:List Int}{g:Unt->Unt}{U:List Unt}(hj:j<U.length):(qj l g U)[j]'(by rw[Bd];exact hj)=if U[j].id∈l then g U[j]else U[j]:=Nl hj
theorem zys{c:Cmd}(hm:z8 w)(h:stE w c=0):z8 (stW w c):=by
 have hz:=H6 (show xy (xj w c.P) c.U=0 from h)
 have hr:=hm.1.2.1
 refine Vr hm (U:=qj c.U Dg w.U) (Bd _ _ _) (λj hj=>?_) (λj hj h0=>?_) (λj hj=>?_)
 ·rw[Lh hj]
  split<;>rfl
 ·rw[Lh hj]
  split
  ·rename_i e
   exact absurd (tv hr (hz _ e) hj rfl).2 h0
  ·rfl
 ·rw[Lh hj]
  have hu:=(hm.1.2.2 _ (Faa hj)).1
  split
  ·exact⟨hu.1,⟨.inl rfl,.inl rfl,by show(0:Int)<=0/\(0:Int)<8;decide⟩,⟨by show(0:Int)<=0/\(0:Int)<=4;decide,⟨λe=>absurd (show(0:Int)=1 from e) (by decide),λe=>absurd rfl e⟩⟩,λ_=>⟨rfl,rfl⟩⟩
  ·exact hu
theorem zyf{c:Cmd}(hg:zo w.G)(ht:0<=c.T/\c.T<w.G.W*w.G.H)(k:Nat)(kd:Int):0<=Au w c k kd/\Au w c k kd<w.G.W*w.G.H:=by
 have ha:=qi hg
 by_cases h:k<(qh w kd c.T c.U.length).length
 ·rw[mm h]
  have:=(Sh (Faa h)).1
  omega
 ·rw[mn h];exact ht
theorem mj{c:Cmd}(hm:z8 w)(ht:0<=c.T/\c.T<w.G.W*w.G.H)(hz:∀a∈c.U,xj w c.P a=0):∀k,k<=c.U.length->∀j,(hj:j<w.U.length)->(w.U[j].inn≠0->(mvL w c k)[j]'(by rw[Ae];exact hj)=w.U[j])/\xp w ((mvL w c k)[j]'(by rw[Ae];exact hj))
 |0,_,j,hj=>⟨λ_=>rfl,(hm.1.2.2 _ (Faa hj)).1⟩
 |k+1,hk,j,hj=>by
  have ih:=mj hm ht hz k (by omega) j hj
  have hlt:k<c.U.length:=by omega
  have hr:=hm.1.2.1
  obtain⟨i,hi,hf,hid,_,how,hin⟩:=Gr (hz c.U[k] (Faa hlt))
  have hgo:=zyf hm.1.1.2.1.1 ht k w.U[i].kind
  have key:∀L:List Unt,(hL:j<L.length)->L=mvL w c (k+1)->(w.U[j].inn≠0->L[j]=w.U[j])/\xp w L[j]:=λL hL e=>by
   rw[mh hlt hf hi]at e
   subst e
   rw[Fcg]
   split
   ·rename_i e3
    subst e3
    have hu:=(hm.1.2.2 _ (Faa hi)).1
    refine⟨λh0=>absurd hin h0,hu.1,⟨.inr hgo,.inl rfl,by show(0:Int)<=0/\(0:Int)<8;decide⟩,⟨by show(0:Int)<=1/\(1:Int)<=4;decide,⟨λ_=>?_,λ_=>rfl⟩⟩,λe=>?_⟩
    ·show Au w c k w.U[i].kind≠-1
     omega
    ·have e:Au w c k w.U[i].kind=-1:=e
     omega
   ·exact ih
  exact key _ (by rw[Ae];exact hj) rfl
theorem zyw{c:Cmd}(hm:z8 w)(h:mvE w c=0):z8 (mvW w c):=by
 have ht:0<=c.T/\c.T<w.G.W*w.G.H:=Classical.byContradiction λhh=>by rw[mp hh]at h;cases h
 rw[mo ht]at h
 have hz:=H6 h
 have key:=mj hm ht hz c.U.length (Fak _)
 exact Vr hm (U:=mvL w c c.U.length) (Ae _ _ _) (λj hj=>Om w c _ j hj) (λj hj=>(key j hj).1) (λj hj=>(key j hj).2)
theorem yah{U:List Unt}(hr:yf U):(U.map (·.id)).Nodup:=by
 rw[List.Nodup,Fco]
 intro a b ha hb hab
 rw[Faq]at ha hb
 rw[Fbw,Fbw]
 have:=Dh hr hab hb
 omega
theorem yed{U:List Unt}(hr:yf U)(l:List Int):(U.filter λu=>decide (u.id∈l)).length<=l.length:=by
 have h1:((U.filter λu=>decide (u.id∈l)).map (·.id)).Nodup:=(yah hr).sublist ((List.filter_sublist).map _)
 have:=Fbu (l₂:=l) h1 (λid hid=>by
  obtain⟨u,hu,rfl⟩:=Fad.1 hid
  exact of_decide_eq_true (Fbn.1 hu).2)
 rw[Faq]at this
 exact this
theorem n7(l:List Int)(n:Int)(M:Int):∀U:List Unt,(zx (qj l (ldU n) U) M).length<=(zx U M).length+(if M=n then(U.filter λu=>decide (u.id∈l)).length else 0)
 |[]=>by simp[zx,qj]
 |a::U=>by
  have ih:=n7 l n M U
  unfold zx qj at ih⊢
  simp only[Faq]at ih⊢
  rw[Fb5,Fcv,Fcv,Fcv]
  by_cases e:a.id∈l
  ·simp only[if_pos e,decide_eq_true e,if_true,Fbh]
   by_cases eM:M=n
   ·simp only[if_pos eM]at ih⊢
    have:((ldU n a).inn==M)=true:=by show(n==M)=true;simpa using eM.symm
    simp only[this,if_true,Fbh]
    split<;>(try simp only[Fbh])<;>omega
   ·simp only[if_neg eM]at ih⊢
    have:((ldU n a).inn==M)=false:=by show(n==M)=false;simpa using λe=>eM e.symm
    simp only[this,Fae,if_false]
    split<;>(try simp only[Fbh])<;>omega
  ·simp only[if_neg e,decide_eq_false e,Fae,if_false]
   split
   ·simp only[Fbh];omega
   ·exact ih
theorem zyx{c:Cmd}(hm:z8 w)(hN:1<=c.N)(h:ldE w c=0):z8 (ldW w c):=by
 unfold ldE at h
 have c1:vi w c.P c.N=0:=Classical.byContradiction λhh=>by rw[if_neg hh]at h;exact hh h
 rw[if_pos c1]at h
 have c2:xy (ldA w c.P c.N) c.U=0:=Classical.byContradiction λhh=>by rw[if_neg hh]at h;exact hh h
 rw[if_pos c2]at h
 have c3:¬xi (uAt w c.N).kind<((zx w.U c.N).length:Int)+(c.U.length:Int):=λhh=>by rw[if_pos hh]at h;cases h
 obtain⟨hask,hroom⟩:=bm c1
 obtain⟨ix,hix,hfx,hidx,hux,hox,hinx⟩:=Gr hask
 rw[hux]at hroom c3
 have hz:=H6 c2
 obtain⟨⟨hh,hr,hu⟩,hcc,hd⟩:=hm
 -- who is loaded is on the field,of the same player,and carries nobody
 have ld:∀j,(hj:j<w.U.length)->w.U[j].id∈c.U->w.U[j].owner=c.P/\w.U[j].inn=0/\xi w.U[j].kind=0:=λj hj hid=>by
  obtain⟨a1,a2⟩:=ni (hz _ hid)
  obtain⟨b1,b2⟩:=tv hr a1 hj rfl
  refine⟨b1,b2,?_⟩
  have e:uAt w w.U[j].id=w.U[j]:=(M7 (Mc hr hj rfl)).2.2
  rw[e]at a2
  unfold Kb at a2
  have:¬0<xi w.U[j].kind:=λhh=>by rw[if_pos hh]at a2;cases a2
  have:=Ke w.U[j].kind
  omega
 have hxl:w.U[ix].id∉c.U:=λe=>hroom (ld ix hix e).2.2
 have hl:(qj c.U (ldU c.N) w.U).length=w.U.length:=Bd _ _ _
 have back:∀v∈qj c.U (ldU c.N) w.U,∃j,∃hj:j<w.U.length,(w.U[j].id∈c.U/\v=ldU c.N w.U[j])\/(w.U[j].id∉c.U/\v=w.U[j]):=λv hv=>by
  obtain⟨j,hj,rfl⟩:=Faj hv
  rw[hl]at hj
  refine⟨j,hj,?_⟩
  rw[Lh hj]
  split
  ·rename_i e;exact .inl ⟨e,rfl⟩
  ·rename_i e;exact .inr ⟨e,rfl⟩
 have stay:∀j,(hj:j<w.U.length)->w.U[j].id∉c.U->w.U[j]∈qj c.U (ldU c.N) w.U:=λj hj e=>by
  have:(qj c.U (ldU c.N) w.U)[j]'(by rw[hl];exact hj)=w.U[j]:=by rw[Lh hj,if_neg e]
  rw[<-this]
  exact Faa _
 have cnt:=λM=>n7 c.U c.N M w.U
 have cin:=yed hr c.U
 have cN:((zx (qj c.U (ldU c.N) w.U) c.N).length:Int)<=xi w.U[ix].kind:=by
  have:=cnt c.N
  rw[if_pos rfl]at this
  omega
 refine⟨⟨⟨hh.1,⟨hh.2.1.1,hh.2.1.2.1,by show(qj c.U (ldU c.N) w.U).length<=_;rw[hl];exact hh.2.1.2.2⟩,hh.2.2⟩,Si (g:=ldU c.N) (λ_=>rfl) hr,λv hv=>?_⟩,λv hv h0=>?_,λv hv h0=>?_⟩
 ·obtain⟨j,hj,⟨e,rfl⟩|⟨e,rfl⟩⟩:=back v hv
  ·have hu0:=hu _ (Faa hj)
   exact⟨⟨hu0.1.1,⟨.inl rfl,.inl rfl,by show(0:Int)<=0/\(0:Int)<8;decide⟩,⟨by show(0:Int)<=0/\(0:Int)<=4;decide,⟨λe=>absurd (show(0:Int)=1 from e) (by decide),λe=>absurd rfl e⟩⟩,λ_=>⟨rfl,rfl⟩⟩,hu0.2⟩
  ·exact hu _ (Faa hj)
 ·obtain⟨j,hj,⟨e,rfl⟩|⟨e,rfl⟩⟩:=back v hv
  ·have h0:c.N=0:=h0
   omega
  ·refine bd (w:=w) rfl rfl (λx hx hx0 hxi=>?_) (hcc _ (Faa hj) h0)
   obtain⟨k,hk,⟨e2,rfl⟩|⟨e2,rfl⟩⟩:=back x hx
   ·have hx0:c.N=0:=hx0
    omega
   ·exact⟨_,Faa hk,hx0,hxi,rfl,rfl⟩
 ·obtain⟨j,hj,⟨e,rfl⟩|⟨e,rfl⟩⟩:=back v hv
  ·obtain⟨l1,l2,l3⟩:=ld j hj e
   refine⟨w.U[ix],stay ix hix hxl,hidx,⟨hinx,?_⟩,cN,l3,rfl,rfl,rfl⟩
   show w.U[ix].owner=w.U[j].owner
   rw[hox,l1]
  ·obtain⟨x,hx,g1,g2,g3,g4⟩:=hd _ (Faa hj) h0
   obtain⟨k,hk,rfl⟩:=Faj hx
   have hne:0<(zx w.U w.U[j].inn).length:=List.length_pos_iff.2 (List.ne_nil_of_mem (yaa (Faa hj)))
   have hkl:w.U[k].id∉c.U:=λe2=>by have:=(ld k hk e2).2.2;omega
   refine⟨w.U[k],stay k hk hkl,g1,g2,?_,g4⟩
   show((zx (qj c.U (ldU c.N) w.U) w.U[j].inn).length:Int)<=_
   by_cases eN:w.U[j].inn=c.N
   ·rw[eN]at g1⊢
    have hki:w.U[k]=w.U[ix]:=F6 hr (Faa hk) (Faa hix) (by rw[g1,hidx])
    rw[hki]
    exact cN
   ·have:=cnt w.U[j].inn
    rw[if_neg eN]at this
    omega
theorem zy1{c:Cmd}(h:doE aE w c=0):z8 (aW w c):=by
 obtain⟨hm,hc,hp,he⟩:=rk h
 rcases Vz hc with k|k|k|k|k|k|k
 ·rw[(a1 k).1]at he
  rw[(a1 k).2]
  exact zyu hm hc hp k he
 ·rw[(a2 k).1]at he
  rw[(a2 k).2]
  exact zyw hm he
 ·rw[(a3 k).1]at he
  rw[(a3 k).2]
  exact zys hm he
 ·rw[(a4 k).1]at he
  rw[(a4 k).2]
  exact zy2 hm hc hp k he
 ·rw[(a5 k).2]
  exact zy0 hm
 ·rw[(a6 k).1]at he
  rw[(a6 k).2]
  exact zyx hm ((Cmd.ok6 k).1 hc.1).2.1 he
 ·rw[(a7 k).2]
  unfold ulW
  cases hu:unl c.T (zx w.U c.N) w with
  |none=>exact hm
  |some x=>exact mz _ _ _ hm hu
end
section
variable {w:Wld}
theorem lg(h:playW w)(c:Cmd):playW (doW aE aW w c):=by
 by_cases he:doE aE w c=0
 ·rw[rj he]
  exact⟨zy1 he,yg2 h.2 he⟩
 ·rw[Wx he]
  exact h
noncomputable def jg(w:Wld):List Cmd->Wld
 |[]=>w
 |c::l=>jg (doW aE aW w c) l
noncomputable def ko(w:Wld):List Cmd->List Int
 |[]=>[]
 |c::l=>doE aE w c::ko (doW aE aW w c) l
theorem sb:∀(l:List Cmd) (w:Wld) (m:List Cmd),jg w (l++m)=jg (jg w l) m/\ko w (l++m)=ko w l++ko (jg w l) m
 |[],_,_=>⟨rfl,rfl⟩
 |c::l,w,m=>by
  obtain⟨h1,h2⟩:=sb l (doW aE aW w c) m
  exact⟨h1,by show _::ko _ (l++m)=_;rw[h2];rfl⟩
theorem bc:∀(l:List Cmd) (w:Wld),(ko w l).length=l.length
 |[],_=>rfl
 |c::l,w=>by show(ko _ l).length+1=_;rw[bc l];rfl
theorem yej{l:List Cmd}{i:Nat}(hi:i<l.length):jg w (l.take (i+1))=doW aE aW (jg w (l.take i)) l[i]/\ko w (l.take (i+1))=ko w (l.take i)++[doE aE (jg w (l.take i)) l[i]]:=by
 rw[Fac hi]
 obtain⟨h1,h2⟩:=sb (l.take i) w [l[i]]
 exact⟨h1,h2⟩
theorem Oc:∀(l:List Cmd) {w:Wld},playW w->playW (jg w l)
 |[],_,h=>h
 |c::l,w,h=>Oc l (lg h c)
theorem yg1(c:Cmd)(hr:yf w.U):(aW w c).tick=w.tick:=by
 unfold aW
 repeat' split
 ·rfl
 ·rfl
 ·rfl
 ·rfl
 ·exact(ydd w c).1
 ·rfl
 ·exact(dz hr).1
theorem ydh(c:Cmd)(hr:yf w.U):(doW aE aW w c).tick=w.tick:=by
 unfold doW
 split
 ·exact yg1 c hr
 ·rfl
theorem ba:∀(l:List Cmd) {w:Wld},playW w->(jg w l).tick=w.tick
 |[],_,_=>rfl
 |c::l,w,h=>(ba l (lg h c)).trans (ydh c h.1.1.2.1)
theorem eh(w:Wld)(u:Unt)(v:Vc):(vk w u v).tick=w.tick:=by
 unfold vk
 split<;>rfl
theorem fg(w:Wld)(u:Unt):(Bs w u).tick=w.tick:=by
 unfold Bs
 split
 ·exact eh _ _ _
 ·split<;>rfl
theorem zbl(w:Wld)(u:Unt):(wl w u).tick=w.tick:=by
 unfold wl
 split
 ·exact eh _ _ _
 ·unfold Cd
  split
  ·rfl
  ·split
   ·split
    ·rfl
    ·exact fg _ _
   ·exact fg _ _
theorem Kj(w:Wld):∀i,(goN w i).tick=w.tick
 |0=>rfl
 |i+1=>by
  unfold goN
  split
  ·split
   ·exact(zbl _ _).trans (Kj w i)
   ·exact Kj w i
  ·exact Kj w i
noncomputable def Il(w:Wld):Wld:={ji w with tick:=(ji w).tick+1}
theorem zci(w:Wld):(Il w).tick=w.tick+1:=by
 show(goN w _).tick+1=_
 rw[Kj]
theorem lf(h:playW w)(ht:w.tick<1099511627776):playW (Il w):=by
 obtain⟨⟨⟨⟨hh,hu⟩,hc,hd⟩,hn⟩,_⟩:=ygk h
 have e:(ji w).tick=w.tick:=Kj w _
 have h1:=hh.1.1
 exact⟨⟨⟨⟨⟨⟨by show 0<=(ji w).tick+1;omega,by show(ji w).tick+1<=_;omega⟩,hh.1.2⟩,hh.2⟩,hu⟩,hc,hd⟩,hn⟩
noncomputable def Ch(w:Wld)(l:List Cmd):Wld:=Il (jg w l)
theorem zxa(h:playW w)(ht:w.tick<1099511627776)(l:List Cmd):playW (Ch w l):=
 lf (Oc l h) (by rw[ba l h];exact ht)
end
structure Ask25 where
 S:Scr
 room:Int
 n:Int
def H4(a:Ask25):List AV:=Sl a.S++[int a.room,int a.n]
end Go.V
