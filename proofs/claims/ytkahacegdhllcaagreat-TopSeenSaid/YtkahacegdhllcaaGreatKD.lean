/- Ground of laws of throngtop: contracts and plain lemmas; no condition beyond the row's own. -/
import Derived.Shelf.Sort.Plain
import Derived.Shelf.Slices.SearchI
import Derived.Shelf.Slices.Empties
import Derived.Shelf.Slices.Delete
import Derived.Shelf.Slices.In.SortNone
import Derived.Shelf.Spec.SlicesInsertGrow
import Derived.Shelf.Spec.BitsCarry
import Derived.Test.YtkahacegdhllcaaGreatKC
set_option linter.unusedSimpArgs false
set_option linter.unusedVariables false
set_option linter.defProp false
namespace Go.V
section
variable {P:Program} {c:Cfg} {w:World} {st:Store} {Oth M:BB}
def Cv(sto:StoreOK st Oth M w){b o:Nat}{l xs:List AV}{vs:List Value}{w':World}(hk:st.obj b=some (.cells l))
    (hx:Reads w (λb o=>M b o\/Oth b o) xs vs) (hw:Wrote w b o vs w'):StoreOK (st.sO b (.cells (zq l o xs))) Oth M w'/\Chg M w M w':=by
  have hM:=(sto.obj b _ hk).2;have hT:∀o,M b o\/Oth b o:=λo=>.inl (hM o);refine⟨{obj:=λb' x hx'=>?_,tok:=λb' top ht=>?_,mlt:=λb' o' hm=>?_,olt:=λb' o' hm=>?_,dis:=sto.dis},hw.chg hM⟩
  · by_cases he:b'=b
    · subst he
      rw[zd]at hx';cases hx';exact⟨CellsRel.wrote hw hT (sto.obj b' _ hk).1 hx,hM⟩
    · rw[zf he]at hx'
      exact⟨ObjRel.same (sto.obj b' x hx').1 (hw.keeps hT) (hw.other b' he),(sto.obj b' x hx').2⟩
  · have⟨c,e,fr,h1,h2,h3,h4⟩:=sto.tok b' top ht
    by_cases he:b'=b
    · subst he
      have⟨c',h5,_,h6⟩:=hw.blk c e fr h1;grind
    · exact⟨c,e,fr,ψb,h2,h3,h4⟩
  · rw[hw.size];exact sto.mlt b' o' hm
  · rw[hw.size];exact sto.olt b' o' hm
def Hm(sto:StoreOK st Oth M w)(cs:Array Value)(e:TypeId){l:List AV}(h:Reads w (λb o=>M b o\/Oth b o) l cs.toList):
    Fresh st w.heap.size/\StoreOK (st.sO w.heap.size (.cells l)) Oth (vg M w.heap.size) (w.alloc (.cells cs e))/\Chg M w (vg M w.heap.size) (w.alloc (.cells cs e)):=
  o7 sto (.cells cs e) (y:=.cells l) (Sx w e M Oth h)
def sw{T:BB}{b n cap k:Nat}{l:List AV}(h:CellsRel w T l b)(hn:n*k<=l.length):
    ∃new:Array Value,Reads w T (l.take (n*k)) new.toList/\new.size=n*k/\∀w',w'.heap=w.heap->(Builtin.firstCells k n (.slice (some ⟨b,0,none⟩) n cap)).run P w'=.ok new w':=by
  have⟨c,e,fr,h1,h2,h3,h4⟩:=h;have hsz:n*k<=c.size:=θ;refine⟨((List.range' 0 (n*k)).map λi=>c.getD i undef).toArray,?_,φ,λw' hw=>?_⟩
  · refine⟨δ,λi x y hx hy=>?_⟩
    have hi:i<n*k:=δ;rw[Fcg hi]at hx;simp[hi]at hy;grind
  · have:=Lo (P:=P) ⟨b,0,none⟩ w' (λi=>c.getD i undef) (n*k) 0 #[] (λp _ hp=>by
      rw[wk,rx hw];simp only[World.cell?,h1];have:p<c.size:=θ;simp[this])
    grind[Builtin.firstCells,loadCells]
def ze8{T:BB}{xs:List AV}{vs:List Value}(h:Reads w T xs vs)(h1:∀x∈xs,x.one=true):∀v∈vs,xe v=true:=by
  intro v hv;have⟨i,hi⟩:=Fbb.1 hv;have hlt:i<xs.length:=by rw[h.1];grind
  exact bo (h.2 i xs[i] v (Fab hlt) hi) (h1 _ (Faa hlt))
def Vd{e:TypeId}{ie:TI}(hie:c.I e=some ie){b n cap:Nat}{l:List AV}{x:AV}{rows:List (List AV)}(ho:st.obj b=some (.cells l))(hcap:cap*ie.size<=l.length)(hn:n<=cap)
    (hx:kh ie.size (.av x)=some rows) (hroom:room (n+rows.length) ie.bytes) {K:Ja}
    (h1:n+rows.length<=cap->K (.s (.slice (some ⟨b,0,none⟩) (n+rows.length) cap)) (st.sO b (.cells (zq l (n*ie.size) rows.flatten))))
    (h2:cap<n+rows.length->∀b' cap',Fresh st b'->n+rows.length<=cap'->cap'<=9223372036854775807->K (.s (.slice (some ⟨b',0,none⟩) (n+rows.length) cap')) (st.sO b' (.cells (l.take (n*ie.size)++rows.flatten++List.replicate ((cap'-(n+rows.length))*ie.size) .any)))):
    AppX P c st e (.s (.slice (some ⟨b,0,none⟩) n cap)) x K:=by
  refine⟨⟨ie,hie⟩,λie' hie' Oth M w sv xv argTypes ty args t sto hs hxv hat ht1 hu hti h0 h1'=>?_⟩;rw[hie]at hie';cases hie';have hs:=VRel.eq_s hs;subst hs;have A:AppArgs P c argTypes args t e ie (some ⟨b,0,none⟩) n cap xv:=⟨hat,ht1,hu,hti,h0,h1'⟩
  have⟨hl1,hl2,new,hnew,hone,hnsz,hfc⟩:=Li (P:=P) (β:=λ_=>0) (k:=ie.size) (x:=.av x) hxv hx;have hnn:n*ie.size<=l.length:=Fbx (Fa2 _ hn) hcap;by_cases hc:n+rows.length<=cap
  · have⟨⟨cs,e0,fr,hb0,huf,hlen,hrel⟩,hM⟩:=sto.obj b _ ho
    have hfit:n*ie.size+new.toList.length<=cs.size:=by rw[Fcp,hnsz,<-Fb8,<-hlen];exact Fbx (Fa2 _ hc) hcap
    have⟨w',hw1,hw2⟩:=Kf (P:=P) w b (n*ie.size) new.toList 0 w cs e0 fr hb0 (.inl huf) hfit hone;have hrun:=My (w':=w') ty A hl1 (hfc w rfl) hc (λa ha=>by cases ha;rw[wk,Fa9];exact hw1) (λh=>ω);have⟨k1,k2⟩:=Cv sto ho hnew hw2;exact⟨_,_,hrun,_,_,M,h1 hc,.s _,k1,k2⟩
  · have hc:cap<n+rows.length:=θ
    have⟨old,hold1,hold2,hold3⟩:=sw (P:=P) (cap:=cap) (sto.obj b _ ho).1 hnn;have⟨newCap,rest,g1,g0,g2,g3⟩:=Mz ty A hl1 (hfc w.drew rfl) (hold3 w.drew rfl) hc hroom;have gd:Grow w w.drew:=Grow.drew w;have sto1:=sto.grow gd;have⟨f1,f2,f3⟩:=Hm sto1 (old++new++rest) e (l:=l.take (n*ie.size)++rows.flatten++List.replicate rest.size .any) (by
      rw[Fbn,Fbn];refine((hold1.append hnew).append ⟨φ,λi x y hx hy=>?_⟩).keep (gd.keeps _);rw[Fby]at hx;split at hx
      · cases hx;exact .any _
      grind)
    have e1:w.drew.heap.size=w.heap.size:=rfl;rw[g2]at f2;exact⟨_,_,g3,_,_,_,h2 hc _ newCap f1 g1 g0,.s _,f2,(gd.chg M).trans f3⟩
def zkw{e:TypeId}{ie:TI}(hie:c.I e=some ie){x:AV}{rows:List (List AV)}(hx:kh ie.size (.av x)=some rows)(hroom:room rows.length ie.bytes)(hne:0<rows.length){K:Ja}
    (h2:∀b' cap',Fresh st b'->rows.length<=cap'->cap'<=9223372036854775807->K (.s (.slice (some ⟨b',0,none⟩) rows.length cap')) (st.sO b' (.cells (rows.flatten++List.replicate ((cap'-rows.length)*ie.size) .any)))):
    AppX P c st e (.s (.slice none 0 0)) x K:=by
  refine⟨⟨ie,hie⟩,λie' hie' Oth M w sv xv argTypes ty args t sto hs hxv hat ht1 hu hti h0 h1'=>?_⟩;rw[hie]at hie';cases hie';have hs:=VRel.eq_s hs;subst hs;have A:AppArgs P c argTypes args t e ie none 0 0 xv:=⟨hat,ht1,hu,hti,h0,h1'⟩
  have⟨hl1,hl2,new,hnew,hone,hnsz,hfc⟩:=Li (P:=P) (β:=λ_=>0) (k:=ie.size) (x:=.av x) hxv hx;have⟨newCap,rest,g1,g0,g2,g3⟩:=Mz (old:=#[]) ty A hl1 (hfc w.drew rfl) ζ θ δ;have gd:Grow w w.drew:=Grow.drew w;have sto1:=sto.grow gd;have⟨f1,f2,f3⟩:=Hm sto1 (#[]++new++rest) e (l:=rows.flatten++List.replicate rest.size .any) (by
    rw[Fbn,Fbn];refine((show Reads w _ rows.flatten ([]++new.toList)from hnew).append ⟨φ,λi x y hx hy=>?_⟩).keep (gd.keeps _);rw[Fby]at hx;split at hx
    · cases hx;exact .any _
    grind)
  rw[g2]at f2;simp only[Fa9]at g1 g3 f2;exact⟨_,_,g3,_,_,_,h2 _ newCap f1 g1 g0,.s _,f2,(gd.chg M).trans f3⟩
def Ints(st:Store)(v:AV)(ns:List Int):Prop:=
  (v=.s (.slice none 0 0)/\ns=[])\/∃b cap L,v=.s (.slice (some ⟨b,0,none⟩) ns.length cap)/\st.obj b=some (.cells (ns.map (λn=>AV.s (.int .i64 n))++L))/\ns.length<=cap/\cap<=ns.length+L.length/\cap<=9223372036854775807
end
open Go.Proofs Go.Shelf Go.Sort Go.RowKit
section
variable {P:Program} {ρ:Ren} {w:World} {st:Store} {Oth M:BB}
def vI(n:Int):Value:=.int .i64 n
def aI(n:Int):AV:=.s (.int .i64 n)
def Hg(T:BB)(ns:List Int):Reads w T (ns.map aI) (ns.map vI):=by
  have:=Reads.map_s (w:=w) (T:=T) (ns.map vI)
  rwa [Fdc]at this
def za1{w:World}{b q:Nat}{c:Array Value}{e:TypeId}{fr:Nat×Nat}(hb:w.heap[b]?=some (.cells c e fr))(ns:List Int)(hl:ns.length<=c.size):
    Wrote w b 0 (ns.map vI) (putRow (Value.int .i64) (Sort.ahead w q) b 0 ns.toArray) where
  size:=φ
  other b' hne:=by simp_all[putRow,mapBlock,Fc8,Ne.symm]
  blk c' e' fr' h:=by
    rw[hb]at h;cases h;refine⟨putCells (Value.int .i64) 0 ns.toArray c,?_,?_,by simp[putCells]⟩
    · simp_all[putRow,mapBlock,Fc8,onCells]
    · apply Fb4
      intro i;simp only[putCells,Fdp,Fdf,Fdo,Fa9,Fal,Array.getElem?_mapIdx];by_cases hi:i<ns.length
      · grind[vI]
      grind
  tape:=rfl
  os:=rfl
  output:=rfl
def yns(w:World)(os:Array Obj):Grow w (Sort.grow w os) where
  size:=φ
  blk b hb:=by grind[Sort.grow]
  tape:=rfl
  os:=rfl
  output:=rfl
def Ol{T:BB}{b:Nat}{ns:List Int}{L:List AV}(h:CellsRel w T (ns.map aI++L) b):
    ∃c e fr,w.heap[b]?=some (.cells c e fr)/\fr.2=fr.1/\ns.length+L.length=c.size/\∀j,j<ns.length->c[j]?=some (vI (ns.getD j 0)):=by
  have⟨c,e,fr,h1,h2,h3,h4⟩:=h;refine⟨c,e,fr,h1,h2,δ,λj hj=>?_⟩;have hlt:j<c.size:=δ;have h5:=h4 j (aI ns[j]) c[j] δ φ;rw[Fbp hlt,VRel.eq_s h5];simp[hj,vI]
def zhe{T:BB}{b:Nat}{ns:List Int}{L:List AV}(h:CellsRel w T (ns.map aI++L) b):Holds (Value.int .i64) w b 0 ns.toArray:=by have⟨c,e,fr,h1,h2,h3,h4⟩:=Ol h;intro j hj;simp_all[World.cell?,vI,World.frozen?]
theorem zcz{xs l L:List AV}(h:xs.length=l.length):zq (l++L) 0 xs=xs++L:=by simp_all[zq]
theorem wu{A B xs:List AV}{o:Nat}(h:A.length=o):zq (A++B) o xs=A++xs++B.drop xs.length:=by grind[zq,List.take_left,List.drop_append]
def zkt{x:AV}{vs:Array Value}{T:BB}(h:Reads w T [x] vs.toList):∃v,vs=#[v]/\VRel w T x v:=by grind[Kh]
def zks{x y:AV}{vs:Array Value}{T:BB}(h:Reads w T [x,y] vs.toList):∃u v,vs=#[u,v]/\VRel w T x u/\VRel w T y v:=by grind[N7]
def zah{x y z:AV}{vs:Array Value}{T:BB}(h:Reads w T [x,y,z] vs.toList):∃u v t,vs=#[u,v,t]/\VRel w T x u/\VRel w T y v/\VRel w T z t:=by grind[zed]
def Sa{v:AV}{ns:List Int}(h:Ints st v ns):(v=.s (.slice none 0 0)/\ns=[])\/∃b cap L,v=.s (.slice (some ⟨b,0,none⟩) ns.length cap)/\st.obj b=some (.cells (ns.map aI++L))/\ns.length<=cap/\cap<=ns.length+L.length/\cap<=9223372036854775807:=h
def yaz (Ly : Lays.n189 P ρ) {fn : Func} {code : Code} (hf : P.funcs[ρ.f 189]? = some fn) (hb : fn.body = some code) (hname : (fn.name == "runtime.NumGoroutine") = false) {b cap : Nat} {ns : List Int} {L : List AV} (ho : st.obj b = some (.cells (ns.map aI ++ L)))
    (hlen:ns.length<4611686018427387904) {R:Ja} (h:R (.tup []) (st.sO b (.cells ((ns.mergeSort λx y=>decide (x<=y)).map aI++L)))):
    ACalls P (ρ.f 189) [.s (.slice (some ⟨b,0,none⟩) ns.length cap)] st R:=by
  refine ACalls.of_calls hf hb hname λOth M w vs sto hr=>?_;obtain⟨v,rfl,hv⟩:=zkt hr;cases hv;have hobj:=(sto.obj b _ ho).1;have⟨c,e,fr,h1,h2,h3,h4⟩:=Ol hobj;refine Calls.mono (Any.slices_Sort_int Ly b 0 cap ns w (zhe hobj) (Hq h1) hlen) λe' w' ⟨he,n,os,hw'⟩=>⟨_,he,?_⟩
  subst hw';have hsl:(ns.mergeSort λx y=>decide (x<=y)).length=ns.length:=List.length_mergeSort ns;have hw:=za1 (q:=n) h1 (ns.mergeSort λx y=>decide (x<=y)) θ;have⟨k1,k2⟩:=Cv sto ho (Hg _ _) hw;have hg:=yns (putRow (Value.int .i64) (Sort.ahead w n) b 0 (ns.mergeSort λx y=>decide (x<=y)).toArray) os;refine⟨.tup [],_,M,h,vx Reads.nil,?_,k2.trans (hg.chg M)⟩;rw[zcz φ]at k1;exact k1.grow hg
def yay (Ly : Lays.n189 P ρ) {fn : Func} {code : Code} (hf : P.funcs[ρ.f 189]? = some fn) (hb : fn.body = some code) (hname : (fn.name == "runtime.NumGoroutine") = false) {R : Ja} (h : R (.tup []) st) :
    ACalls P (ρ.f 189) [.s (.slice none 0 0)] st R:=by
  refine ACalls.of_calls hf hb hname λOth M w vs sto hr=>?_;obtain⟨v,rfl,hv⟩:=zkt hr;cases hv;refine Calls.mono (Any.slices_Sort_int_none Ly none 0 w) λe' w' ⟨he,hw'⟩=>⟨_,he,?_⟩
  subst hw';exact⟨.tup [],st,M,h,vx Reads.nil,sto,Chg.refl _ _⟩
def ybj (Ly : Lays2.n25 P ρ) {fn : Func} {code : Code} (hf : P.funcs[ρ.f 25]? = some fn) (hb : fn.body = some code) (hname : (fn.name == "runtime.NumGoroutine") = false) {v : AV} {ns : List Int} (hv : Ints st v ns) (x : Int)
    (hlen:ns.length<4611686018427387904) (hs:ns.Pairwise (·<=·)) {R:Ja} (h:R (.tup [aI (ns.countP (·<x):Nat),.s (.bool (ns.contains x))]) st):
    ACalls P (ρ.f 25) [v,aI x] st R:=by
  refine ACalls.of_calls hf hb hname λOth M w vs sto hr=>?_;obtain⟨u,t,rfl,hu,ht⟩:=zks hr;cases ht;rcases Sa hv with⟨rfl,rfl⟩|⟨b,cap,L,rfl,ho,hc1,hc2⟩
  · cases hu
    refine Calls.mono (Any.slices_BinarySearch_int_empty Ly none 0 x w) λe' w' ⟨he,hw'⟩=>⟨_,he,?_⟩
    subst hw';refine⟨_,st,M,h,vx (Reads.cons (.s _) (Reads.cons (.s _) Reads.nil)),sto,Chg.refl _ _⟩
  · cases hu
    have hobj:=(sto.obj b _ ho).1;have⟨c,e,fr,h1,h2,h3,h4⟩:=Ol hobj;refine Calls.mono (Any.slices_BinarySearch_int Ly b 0 ns.length cap ns x w (Fah _) hlen (λj hj=>?_) δ) λe' w' ⟨he,q,hw'⟩=>⟨_,he,?_⟩
    · rw[Fa9]
      simp only[World.cell?,h1];exact h4 j hj
    · subst hw'
      rw[Faj];have hg:Grow w (w.drewN q):=⟨Fah _,λ_ _=>rfl,rfl,rfl,rfl⟩
      exact⟨_,st,M,h,vx (Reads.cons (.s _) (Reads.cons (.s _) Reads.nil)),sto.grow hg,hg.chg M⟩
def yrs (Ly : Lays2.n23 P ρ) {fn : Func} {code : Code} (hf : P.funcs[ρ.f 23]? = some fn) (hb : fn.body = some code) (hname : (fn.name == "runtime.NumGoroutine") = false) {b cap i j : Nat} {ns : List Int} {L : List AV} (ho : st.obj b = some (.cells (ns.map aI ++ L)))
    (hc1:ns.length<=cap) (hc2:cap<=9223372036854775807) (hij:i<=j) (hj:j<=ns.length) {R:Ja}
    (h:R (.s (.slice (some ⟨b,0,none⟩) (ns.take i++ns.drop j).length cap)) (st.sO b (.cells ((ns.take i++ns.drop j).map aI++(List.replicate (j-i) (aI 0)++L))))):
    ACalls P (ρ.f 23) [.s (.slice (some ⟨b,0,none⟩) ns.length cap),aI i,aI j] st R:=by
  refine ACalls.of_calls hf hb hname λOth M w vs sto hr=>?_;obtain⟨u,v,t,rfl,hu,hv,ht⟩:=zah hr;cases hu;cases hv;cases ht;have hobj:=(sto.obj b _ ho).1;have⟨c,e,fr,h1,h2,h3,h4⟩:=Ol hobj;have hl2:(ns.take i++ns.drop j++List.replicate (j-i) 0).length=ns.length:=δ;have hl1:(ns.take i++ns.drop j).length=ns.length-(j-i):=δ;refine Calls.mono (Any.slices_Delete_int Ly b 0 cap i j ns w (zhe hobj) hc1 hc2 hij hj) λe' w' ⟨he,q,hw'⟩=>⟨_,he,?_⟩
  subst hw';have hw:=za1 (q:=q) h1 (ns.take i++ns.drop j++List.replicate (j-i) 0) θ;have⟨k1,k2⟩:=Cv sto ho (Hg _ _) hw;rw[<-hl1];refine⟨_,_,M,h,.s _,?_,k2⟩;grind[zcz,List.map_replicate]
def yu1(Ly:Lays7.n25 P ρ)(x y c:Nat)(hc:c<=1){R:Ja}
    (h:R (.tup [.s (.int .u64 ((x+y+c)%18446744073709551616:Nat)),.s (.int .u64 ((x+y+c)/18446744073709551616:Nat))]) st):
    ACalls P (ρ.f 25) [.s (.int .u64 x),.s (.int .u64 y),.s (.int .u64 c)] st R:=by
  refine ACalls.of_value λOth M w vs sto hr=>?_;obtain⟨u,v,t,rfl,hu,hv,ht⟩:=zah hr;cases hu;cases hv;cases ht;exact⟨_,w,Any7.bits_Add64 Ly x y c hc w,_,st,M,h,vx (Reads.cons (.s _) (Reads.cons (.s _) Reads.nil)),sto,Chg.refl _ _⟩
def M7{b:Nat}:∀(vs:List Value) (o:Nat) (w:World) (c:Array Value) (e:TypeId) (fr:Nat×Nat),w.heap[b]?=some (.cells c e fr)->o+vs.length<=c.size->Wrote w b o vs (w.setCells b o vs):=by
  intro vs;induction vs with
  |nil=>intro o w c e fr h _;exact⟨rfl,λ_ _=>rfl,λc e fr h=>⟨c,h,φ,rfl⟩,rfl,rfl,rfl⟩
  | cons v vs ih=>
    intro o w c e fr h hl;simp only[Fbf]at hl;have h1:(w.setCell ⟨b,o,none⟩ v).heap[b]?=some (.cells (c.setIfInBounds o v) e fr):=by rw[dp,if_pos rfl,h];rfl
    have k:=ih (o+1) (w.setCell ⟨b,o,none⟩ v) _ e fr h1 δ;refine⟨by rw[World.setCells,k.size];simp,λb' hb=>by rw[World.setCells,k.other b' hb,dp,if_neg hb],λc1 e1 fr1 hc1=>?_,by rw[World.setCells,k.tape];rfl,by rw[World.setCells,k.os];rfl,by rw[World.setCells,k.output];rfl⟩;rw[h]at hc1;cases hc1;have⟨c',g1,g2,g3⟩:=k.blk _ _ _ h1;refine⟨c',g1,?_,δ⟩;rw[g2,Fek];have hlt:o<c.toList.length:=δ;have hA:(c.toList.take o).length=o:=δ;rw[List.set_eq_take_append_cons_drop,if_pos hlt];have t1:(c.toList.take o++v::c.toList.drop (o+1)).take (o+1)=c.toList.take o++[v]:=δ;have t2:(c.toList.take o++v::c.toList.drop (o+1)).drop (o+1+vs.length)=c.toList.drop (o+(vs.length+1)):=by rw[List.drop_append,hA,show o+1+vs.length-o=vs.length+1 by omega,Fc5 θ,Fdo,List.drop_succ_cons,Fdh];grind
    grind
def ymf (Ly : Lays2.n21 P ρ) {fn : Func} {code : Code} (hf : P.funcs[ρ.f 21]? = some fn) (hb : fn.body = some code) (hname : (fn.name == "runtime.NumGoroutine") = false) {v : AV} {ns : List Int} (hv : Ints st v ns) {vb : Nat} (x : Int) (i : Nat) (hi : i <= ns.length)
    (hvb:st.obj vb=some (.cells [aI x])) (hne:∀b cap,v=.s (.slice (some ⟨b,0,none⟩) ns.length cap)->b≠vb) (hlen:(ns.length+1)*8<=140737488355328) {R:Ja}
    (h:∀b cap L,(Fresh st b\/∃c0,v=.s (.slice (some ⟨b,0,none⟩) ns.length c0))->(ns.take i++x::ns.drop i).length<=cap->cap<=(ns.take i++x::ns.drop i).length+L.length->cap<=9223372036854775807->
      R (.s (.slice (some ⟨b,0,none⟩) (ns.take i++x::ns.drop i).length cap)) (st.sO b (.cells ((ns.take i++x::ns.drop i).map aI++L)))):
    ACalls P (ρ.f 21) [v,aI i,.s (.slice (some ⟨vb,0,none⟩) 1 1)] st R:=by
  refine ACalls.of_calls hf hb hname λOth M w vs sto hr=>?_;obtain⟨u,t,s,rfl,hu,ht,hs⟩:=zah hr;cases ht;cases hs;have hvo:=(sto.obj vb _ hvb).1;have⟨cv,ev,frv,v1,v2,v3,v4⟩:=Ol (ns:=[x]) (L:=[]) (show CellsRel w _ ([x].map aI++[]) vb from hvo);have hvs:∀j v,([vI x]:List Value)[j]?=some v->w.cell? ⟨vb,0+j,none⟩=some v:=by grind[World.cell?]
  have h1v:∀v∈([vI x]:List Value),v.oneCell'=true:=by intro v hv;simp at hv;subst hv;rfl
  have hl':(ns.take i++x::ns.drop i).length=ns.length+1:=δ;have hcut:∀(w:World) (need old:Nat) (e:TypeId),need<=140737488355328->need<=grownCap w need old e/\grownCap w need old e<=9223372036854775807:=by intro w need old e hn;unfold grownCap;simp only[Question.cut];have:=Nat.mod_lt (w.tape w.drawn (.appendCap need old e)) (show 0<2^63-need by omega);omega
  rcases Sa hv with⟨rfl,rfl⟩|⟨b,cap,L,rfl,ho,hc1,hc2,hc3⟩
  · cases hu
    simp only[Fdb,Nat.le_zero]at hi;subst hi;refine Calls.mono (Any2.slices_Insert_int_end_grow Ly none 0 0 vb 0 1 1 [] [vI x] w θ (Fah _) θ θ rfl rfl (λ_=>rfl) (λa ha=>by cases ha) hvs h1v) λe' w' ⟨he,hw'⟩=>⟨_,he,?_⟩
    have⟨g1,g2⟩:=hcut w (0+1) 0 (ρ.t 3) θ;generalize grownCap w (0+1) 0 (ρ.t 3)=gc at*;subst hw';have gd:Grow w w.drew:=Grow.drew w;have⟨f1,f2,f3⟩:=Hm (sto.grow gd) ((([]:List Value)++[vI x]).toArray++Builtin.zeroCells (Value.int .i64 0).cells (gc-(0+1))) (ρ.t 3) (l:=[x].map aI++List.replicate (gc-(0+1)) .any) (by
      rw[Fbn];refine Reads.append (Hg _ [x]) ⟨ψq,λi x y hx hy=>?_⟩;rw[Fby]at hx;split at hx
      · cases hx;exact .any _
      grind)
    have:=h w.heap.size gc (List.replicate (gc-(0+1)) .any) (.inl f1) δ δ g2;exact⟨_,_,_,this,.s _,f2,(gd.chg M).trans f3⟩
  · cases hu
    have hbv:b≠vb:=hne b cap rfl;have hobj:=(sto.obj b _ ho).1;have⟨c,e,fr,h1,h2,h3,h4⟩:=Ol hobj;have cell:∀j,j<c.size->w.cell? ⟨b,0+j,none⟩=c[j]?:=λj hj=>by simp_all[World.cell?]
    have froz:∀o,w.frozen? ⟨b,o,none⟩=false:=λo=>by grind[World.frozen?]
    have hcs:∀j v,(ns.map vI)[j]?=some v->w.cell? ⟨b,0+j,none⟩=some v:=δ;have h1c:∀v∈ns.map vI,v.oneCell'=true:=by intro v hv;obtain⟨n,_,rfl⟩:=Fag.1 hv;rfl
    by_cases hroom:ns.length+1<=cap
    · obtain⟨L0,hL⟩:∃L0,L=L0:=⟨_,rfl⟩
      by_cases hin:i=ns.length
      · subst hin
        refine Calls.mono (Any2.slices_Insert_int_end_room Ly b 0 ns.length cap vb 0 1 1 [vI x] w θ hroom hc3 rfl (λj hj=>?_) (λj hj=>froz _) hvs h1v) λe' w' ⟨he,hw'⟩=>⟨_,he,?_⟩
        · grind
        · subst hw'
          rw[Fa9];have hw:=M7 [vI x] ns.length w c e fr h1 δ;have⟨k1,k2⟩:=Cv sto ho (Hg _ [x]) hw;rw[wu φ]at k1;have e2:(ns.take ns.length++x::ns.drop ns.length).map aI=ns.map aI++[x].map aI:=φ;have:=h b cap (L.drop 1) (.inr ⟨cap,rfl⟩) θ δ hc3;rw[hl',e2]at this;exact⟨_,_,M,this,.s _,k1,k2⟩
      · have hsz:∀j,j<ns.length+1->(w.cell? ⟨b,0+j,none⟩).isSome=true:=λj hj=>by grind
        refine Calls.mono (Any2.slices_Insert_int_shift Ly b 0 ns.length cap i vb 0 1 1 (ns.map vI) [vI x] w θ θ hroom hc3 (Ne.symm hbv) φ rfl hcs hsz (λj _=>froz _) hvs h1c h1v ev e cv.size c.size
          (by simp[World.shape?,v1]) (by simp[World.shape?,h1]) θ ?_ ?_) λe' w' ⟨he,hw'⟩=>⟨_,he,?_⟩
        · grind[World.frozen?]
        · grind[World.frozen?]
        · subst hw'
          rw[Fa9,Fa9,<-List.map_drop];have gd:Grow w w.drew:=Grow.drew w;have hw1:=M7 ((ns.drop i).map vI) (i+1) w.drew c e fr h1 δ;have⟨k1,k2⟩:=Cv (sto.grow gd) ho (Hg _ _) hw1;have⟨c',m1,_,m2⟩:=hw1.blk c e fr h1;have hw2:=M7 [vI x] i _ c' e fr m1 δ;have⟨k3,k4⟩:=Cv k1 (zd _ _ _) (Hg _ [x]) hw2;rw[yw]at k3;have e1:zq (zq (ns.map aI++L) (i+1) ((ns.drop i).map aI)) i ([x].map aI)=(ns.take i++x::ns.drop i).map aI++L.drop 1:=by
            have hL1:1<=L.length:=θ;cases L with
            |nil=>grind
            | cons y L=>
              have q1:ns.map aI++y::L=(ns.map aI++[y]).take (i+1)++((ns.map aI++[y]).drop (i+1)++L):=by grind[List.take_append_drop]
              have q2:((ns.map aI++[y]).take (i+1)).length=i+1:=δ;grind[wu,List.map_take,List.take_succ_eq_append_getElem]
          rw[e1]at k3;have:=h b cap (L.drop 1) (.inr ⟨cap,rfl⟩) θ (by rw[hl'];simp;omega) hc3;rw[hl']at this;exact⟨_,_,M,this,.s _,k3,((gd.chg M).trans k2).trans k4⟩
    · have⟨g1,g2⟩:=hcut w (ns.length+1) cap (ρ.t 3) θ
      by_cases hin:i=ns.length
      · subst hin
        refine Calls.mono (Any2.slices_Insert_int_end_grow Ly (some ⟨b,0,none⟩) ns.length cap vb 0 1 1 (ns.map vI) [vI x] w θ hc1 θ hlen φ rfl (λhh=>by cases hh) (λa ha j v hj=>?_) hvs h1v) λe' w' ⟨he,hw'⟩=>⟨_,he,?_⟩
        · cases ha;rw[wk];exact hcs j v hj
        · generalize grownCap w (ns.length+1) cap (ρ.t 3)=gc at*
          subst hw';have gd:Grow w w.drew:=Grow.drew w;have⟨f1,f2,f3⟩:=Hm (sto.grow gd) ((ns.map vI++[vI x]).toArray++Builtin.zeroCells (Value.int .i64 0).cells (gc-(ns.length+1))) (ρ.t 3) (l:=(ns++[x]).map aI++List.replicate (gc-(ns.length+1)) .any) (by
            rw[Fbn];refine Reads.append ?_ ⟨ψq,λi x y hx hy=>?_⟩
            · have:=Hg (w:=w.drew) (λb o=>M b o\/Oth b o) (ns++[x])
              rw[Fav (f:=vI)]at this;exact this
            · rw[Fby]at hx
              split at hx
              · cases hx;exact .any _
              · cases hx)
          have e2:ns.take ns.length++x::ns.drop ns.length=ns++[x]:=φ;rw[e2]at h;have:=h w.heap.size gc (List.replicate (gc-(ns.length+1)) .any) (.inl f1) (by simpa using g1) χ g2;rw[Fac]at this;exact⟨_,_,_,this,.s _,f2,(gd.chg M).trans f3⟩
      · refine Calls.mono (Any2.slices_Insert_int_grow Ly b 0 ns.length cap i vb 0 1 1 (ns.map vI) [vI x] w θ θ hc1 θ hlen φ rfl hcs hvs h1c h1v) λe' w' ⟨he,hw'⟩=>⟨_,he,?_⟩
        generalize grownCap w (ns.length+1) cap (ρ.t 3)=gc at*;subst hw';rw[<-Fev,<-List.map_drop];have⟨f1,f2,f3⟩:=Hm sto (((ns.take i).map vI).toArray++Builtin.zeroCells (Value.int .i64 0).cells (ns.length+1-i)++Builtin.zeroCells (Value.int .i64 0).cells (gc-(ns.length+1))) (ρ.t 3) (l:=(ns.take i).map aI++List.replicate (ns.length+1-i+(gc-(ns.length+1))) .any) (by
          rw[Array.append_assoc,Fbn];refine Reads.append (Hg _ _) ⟨ψq,λi x y hx hy=>?_⟩;rw[Fby]at hx;split at hx
          · cases hx;exact .any _
          · cases hx)
        generalize hArr:(((ns.take i).map vI).toArray++Builtin.zeroCells (Value.int .i64 0).cells (ns.length+1-i)++Builtin.zeroCells (Value.int .i64 0).cells (gc-(ns.length+1)))=Arr at*;have hAs:Arr.size=gc:=by rw[<-hArr];simp[Builtin.zeroCells,Value.cells];omega
        have hb1:(w.alloc (.cells Arr (ρ.t 3))).drew.heap[w.heap.size]?=some (.cells Arr (ρ.t 3) (0,0)):=Kq w _;have gd1:Grow (w.alloc (.cells Arr (ρ.t 3))) (w.alloc (.cells Arr (ρ.t 3))).drew:=Grow.drew _;have hw1:=M7 [vI x] i _ _ _ _ hb1 χ;have⟨k1,k2⟩:=Cv (f2.grow gd1) (zd _ _ _) (Hg _ [x]) hw1;have⟨c',m1,_,m2⟩:=hw1.blk _ _ _ hb1;have gd2:Grow ((w.alloc (.cells Arr (ρ.t 3))).drew.setCells w.heap.size i [vI x]) ((w.alloc (.cells Arr (ρ.t 3))).drew.setCells w.heap.size i [vI x]).drew:=Grow.drew _;have hw2:=M7 ((ns.drop i).map vI) (i+1) ((w.alloc (.cells Arr (ρ.t 3))).drew.setCells w.heap.size i [vI x]).drew c' _ _ m1 χ;have⟨k3,k4⟩:=Cv (k1.grow gd2) (zd _ _ _) (Hg _ _) hw2;rw[yw,yw]at k3;have e1:zq (zq ((ns.take i).map aI++List.replicate (ns.length+1-i+(gc-(ns.length+1))) .any) i ([x].map aI)) (i+1) ((ns.drop i).map aI)=(ns.take i++x::ns.drop i).map aI++List.replicate (gc-(ns.length+1)) .any:=by rw[wu χ,wu χ,Fei,Fei];have q:ns.length+1-i+(gc-(ns.length+1))-([x].map aI).length-((ns.drop i).map aI).length=gc-(ns.length+1):=χ;rw[q];simp
        rw[e1]at k3;have:=h w.heap.size gc (List.replicate (gc-(ns.length+1)) .any) (.inl f1) θ (by rw[hl'];simp;omega) g2;rw[hl']at this;exact⟨_,_,_,this,.s _,k3,((((f3.trans (gd1.chg _)).trans k2).trans (gd2.chg _)).trans k4)⟩
end
section
variable {a g:Store} {b j:Nat} {x id:Int}
theorem zy(a g:Store)(b:Nat)(x:AObj):(a.un g).sO b x=a.un (g.sO b x):=by unfold Store.un Store.sO;grind
theorem Bn(a:Store):a.un Store.empty=a:=ζ
def yrm(a:Store):zj a Store.empty:=λb _ h=>h.elim (λh=>h rfl) (λh=>h rfl)
def fresh_un(h:Fresh (a.un g) b):Fresh a b/\Fresh g b:=by grind[fresh_iff,un_has]
theorem has_setObj_iff{i:Nat}{x:AObj}:(g.sO b x).has i↔i=b\/g.has i:=by grind[Store.has,zd,y9,Store.sO]
def disj_setR{x:AObj}(h:zj a g)(hb:Fresh a b):zj a (g.sO b x):=by
 intro i hi hg;rcases has_setObj_iff.1 hg with rfl|hg
 ·exact(fresh_iff.1 hb) hi
 ·exact h i hi hg
theorem O3{x y:AObj}(h:zj a g)(hb:g.obj b=some y):zj a (g.sO b x):=by
 intro i hi hg;rcases has_setObj_iff.1 hg with rfl|hg
 ·exact h i hi (j6 hb)
 ·exact h i hi hg
def zx(p:Vc):Int×Int:=(nrm p.1/131072,nrm p.2/131072)
abbrev Ent:=Int×Vc
def Am(e:Ent):AV×AV:=(int e.1,.agg (yp e.2))
structure Grp where
 x:Int
 y:Int
 ns:List Int
 b:Nat
 cap:Nat
 L:List AV
def Grp.key(g:Grp):Int×Int:=(g.x,g.y)
def Al(g:Grp):AV×AV:=(.agg [int g.x,int g.y],.s (.slice (some ⟨g.b,0,none⟩) g.ns.length g.cap))
def Grp.fits(g:Grp):Prop:=g.ns.length<=g.cap/\g.cap<=g.ns.length+g.L.length/\g.cap<=9223372036854775807
structure CellsAt(a:Store)(p ma mi:Nat)(l:List Ent)(bs1:List Nat)(c1:Nat)(G:List Grp)(bs2:List Nat)(c2:Nat):Prop where
 hp:a.obj p=some (.cells [.s (.map (some ma)),.s (.map (some mi))])
 ha:a.obj ma=some (.map (l.map Am) bs1 c1)
 hi:a.obj mi=some (.map (G.map Al) bs2 c2)
 ne:ma≠mi
 hg:∀g∈G,a.obj g.b=some (.cells (g.ns.map aI++g.L))/\g.fits/\g.b≠p
 nd:(G.map (·.b)).Nodup
structure Inv(l:List Ent)(G:List Grp):Prop where
 n1:(l.map (·.1)).Nodup
 n2:(G.map (·.key)).Nodup
 s:∀g∈G,g.ns.Pairwise (·<·)/\g.ns≠[]
 m1:∀g∈G,∀id,id∈g.ns↔∃e∈l,e.1=id/\zx e.2=g.key
 m2:∀e∈l,∃g∈G,g.key=zx e.2
def CellsOf(a:Store)(p:Nat)(l:List Ent):Prop:=∃ma mi bs1 c1 G bs2 c2,CellsAt a p ma mi l bs1 c1 G bs2 c2/\Inv l G
def zi2(x:Int):∀{ns:List Int},ns.Pairwise (·<·)->ns.take (ns.countP (·<x))=ns.filter (·<x)/\ns.drop (ns.countP (·<x))=ns.filter (x<=·):=by
 intro ns;induction ns with
 |nil=>simp
 |cons a ns ih=>
  intro h;have⟨h1,h2⟩:=Fb6.1 h;grind
def yr4(x:Int)(ns:List Int):ns.countP (·<x)<=ns.length:=List.countP_le_length
def ymi{ns:List Int}(h:ns.Pairwise (·<·))(hx:x∉ns):
  (ns.take (ns.countP (·<x))++x::ns.drop (ns.countP (·<x))).Pairwise (·<·)/\∀y,y∈ns.take (ns.countP (·<x))++x::ns.drop (ns.countP (·<x))↔y=x\/y∈ns:=by
 have⟨h1,h2⟩:=zi2 x h;rw[h1,h2];refine⟨?_,λy=>?_⟩
 ·rw[List.pairwise_append,Fb6];refine⟨h.filter _,⟨λy hy=>?_,h.filter _⟩,λa ha b hb=>?_⟩
  ·have h3:=Fbd.1 hy;have h4:x<=y:=by simpa using h3.2
   have h5:y≠x:=λe=>hx (e▸h3.1);omega
  ·have h3:=(Fbd.1 ha).2;have h3:a<x:=by simpa using h3
   rcases Faw.1 hb with rfl|hb
   ·exact h3
   ·have h4:x<=b:=by simpa using(Fbd.1 hb).2
    omega
 grind
def yrt{ns:List Int}(h:ns.Pairwise (·<·))(hx:x∈ns):
  ns.countP (·<x)+1<=ns.length/\(ns.take (ns.countP (·<x))++ns.drop (ns.countP (·<x)+1)).Pairwise (·<·)/\∀y,y∈ns.take (ns.countP (·<x))++ns.drop (ns.countP (·<x)+1)↔y≠x/\y∈ns:=by
 have⟨h1,h2⟩:=zi2 x h;have hsub:(ns.take (ns.countP (·<x))++ns.drop (ns.countP (·<x)+1)).Sublist ns:=by grind[List.take_append_drop]
 have h3:ns.filter (x<=·)=x::ns.filter (x<·):=by
  clear h1 h2 hsub;induction ns with
  |nil=>cases hx
  |cons a ns ih=>
   have⟨k1,k2⟩:=Fb6.1 h;rcases Faw.1 hx with rfl|hx
   ·grind[List.filter_congr]
   grind
 have h4:ns.drop (ns.countP (·<x)+1)=ns.filter (x<·):=by rw[<-Fdh,h2,h3];rfl
 grind
theorem Gq{α β:Type}{f:α->β}:∀{G:List α} {i j:Nat} {a b:α},(G.map f).Nodup->G[i]?=some a->G[j]?=some b->f a=f b->i=j:=by
 intro G i j a b hn hi hj h;have hi':(G.map f)[i]?=some (f a):=by simp[hi]
 have hj':(G.map f)[j]?=some (f b):=by simp[hj]
 grind[List.getElem?_inj]
def Gr{α β:Type}{f:α->β}{G:List α}{g g' g1:α}(hn:(G.map f).Nodup)(hj:G[j]?=some g):g1∈G.set j g'↔g1=g'\/(g1∈G/\f g1≠f g):=by
 have hlt:=(Fax.1 hj).1;constructor
 ·intro h;have⟨i,hi⟩:=Fbb.1 h;by_cases hij:j=i
  ·grind
  grind[Gq]
 ·rintro(rfl|⟨h1,h2⟩)
  ·grind[List.getElem?_set_self]
  ·have⟨i,hi⟩:=Fbb.1 h1;have hij:j≠i:=λe=>by grind
   exact Fbb.2 ⟨i,δ⟩
def cf{α β:Type}{f:α->β}{G:List α}{g g1:α}(hn:(G.map f).Nodup)(hj:G[j]?=some g):g1∈G.eraseIdx j↔(g1∈G/\f g1≠f g):=by
 constructor
 ·grind[List.mem_iff_getElem?,Gq]
 ·rintro⟨h1,h2⟩;have⟨i,hi⟩:=Fbb.1 h1;have hij:i≠j:=λe=>by grind
  refine Fbb.2 ?_;by_cases hlt:i<j
  ·exact⟨i,δ⟩
  ·refine⟨i-1,?_⟩;grind
theorem map_set_same{α β:Type}(f:α->β){G:List α}{g g':α}(hj:G[j]?=some g)(h:f g'=f g):(G.set j g').map f=G.map f:=by rw[Fc6,h];apply Fb4;grind
def yl1{G:List Grp}(hn:(G.map (·.key)).Nodup){g g1:Grp}(h:g∈G)(h1:g1∈G)(hk:g1.key=g.key):g1=g:=by grind[List.mem_iff_getElem?,Gq]
theorem Se{l:List Ent}(hn:(l.map (·.1)).Nodup){e e1:Ent}(h:e∈l)(h1:e1∈l)(hk:e1.1=e.1):e1=e:=by have⟨i,hi⟩:=Fbb.1 h;have⟨j,hj⟩:=Fbb.1 h1;have:=Gq (f:=λ(e:Ent)=>e.1) hn hj hi hk;grind
def qt(l:List Ent)(id:Int):List Ent:=l.filter λe=>e.1 != id
theorem mem_dropId{l:List Ent}{e:Ent}:e∈qt l id↔e∈l/\e.1≠id:=by simp[qt]
def zir{l:List Ent}(h:(l.map (·.1)).Nodup):((qt l id).map (·.1)).Nodup:=h.sublist ((List.filter_sublist).map _)
def yl7{l:List Ent}{G:List Grp}(h:Inv l G){e:Ent}(he:e∈l){g:Grp}(hj:G[j]?=some g)(hk:g.key=zx e.2){ns':List Int}(hs:ns'.Pairwise (·<·))(hm:∀y,y∈ns'↔y≠e.1/\y∈g.ns):
  (ns'=[]->Inv (qt l e.1) (G.eraseIdx j))/\(ns'≠[]->∀g':Grp,g'.key=g.key->g'.ns=ns'->Inv (qt l e.1) (G.set j g')):=by
 have hgm:=Fa4 hj;have key:∀g1∈G,g1.key≠g.key->∀id,id∈g1.ns↔∃e1∈qt l e.1,e1.1=id/\zx e1.2=g1.key:=by
  intro g1 h1 h2 id;rw[h.m1 g1 h1 id];constructor
  ·rintro⟨e1,h3,h4,h5⟩;refine⟨e1,mem_dropId.2 ⟨h3,λh6=>h2 ?_⟩,h4,h5⟩;rw[<-h5,Se h.n1 he h3 h6,hk]
  grind[mem_dropId]
 refine⟨λhn=>?_,λhn g' hk' hns=>?_⟩
 ·refine⟨zir h.n1,h.n2.sublist ((List.eraseIdx_sublist ..).map _),λg1 h1=>?_,λg1 h1=>?_,λe1 h1=>?_⟩
  ·exact h.s g1 ((cf (f:=Grp.key) h.n2 hj).1 h1).1
  ·have⟨h2,h3⟩:=(cf (f:=Grp.key) h.n2 hj).1 h1;grind
  ·have⟨h2,h3⟩:=mem_dropId.1 h1;have⟨g1,h4,h5⟩:=h.m2 e1 h2;refine⟨g1,(cf (f:=Grp.key) h.n2 hj).2 ⟨h4,λh6=>?_⟩,h5⟩;have h7:e1.1∈g.ns:=(h.m1 g hgm e1.1).2 ⟨e1,h2,rfl,δ⟩;grind
 ·refine⟨zir h.n1,by rw[map_set_same Grp.key hj hk'];exact h.n2,λg1 h1=>?_,λg1 h1=>?_,λe1 h1=>?_⟩
  ·rcases(Gr (f:=Grp.key) h.n2 hj).1 h1 with rfl|⟨h2,_⟩
   ·grind
   ·exact h.s g1 h2
  ·rcases(Gr (f:=Grp.key) h.n2 hj).1 h1 with rfl|⟨h2,h3⟩
   ·intro id;rw[hns,hm,h.m1 g hgm,hk'];constructor
    ·rintro⟨h4,e1,h5,h6,h7⟩;grind[mem_dropId]
    grind[mem_dropId]
   grind
  ·have⟨h2,h3⟩:=mem_dropId.1 h1;have⟨g1,h4,h5⟩:=h.m2 e1 h2;by_cases h6:g1.key=g.key
   ·exact⟨g',(Gr (f:=Grp.key) h.n2 hj).2 (.inl rfl),δ⟩
   ·exact⟨g1,(Gr (f:=Grp.key) h.n2 hj).2 (.inr ⟨h4,h6⟩),h5⟩
def yl8{l:List Ent}{G:List Grp}(h:Inv l G){e:Ent}(he:∀e1∈l,e1.1≠e.1):
  (∀j g g',G[j]?=some g->g.key=zx e.2->g'.key=g.key->g'.ns.Pairwise (·<·)->(∀y,y∈g'.ns↔y=e.1\/y∈g.ns)->Inv (l++[e]) (G.set j g'))∧
  ((∀g∈G,g.key≠zx e.2)->∀g',g'.key=zx e.2->g'.ns=[e.1]->Inv (l++[e]) (G++[g'])):=by
 have n1:((l++[e]).map (·.1)).Nodup:=by rw[Fav,Fdq];refine⟨h.n1,φ,λa ha b hb=>?_⟩;grind
 have key:∀g1∈G,g1.key≠zx e.2->∀id,id∈g1.ns↔∃e1∈l++[e],e1.1=id/\zx e1.2=g1.key:=by
  intro g1 h1 h2 id;rw[h.m1 g1 h1 id];constructor
  ·simp_all
  grind
 refine⟨λj g g' hj hk hk' hs hm=>?_,λhno g' hk' hns=>?_⟩
 ·have hgm:=Fa4 hj;refine⟨n1,by rw[map_set_same Grp.key hj hk'];exact h.n2,λg1 h1=>?_,λg1 h1=>?_,λe1 h1=>?_⟩
  ·rcases(Gr (f:=Grp.key) h.n2 hj).1 h1 with rfl|⟨h2,_⟩
   ·grind
   ·exact h.s g1 h2
  ·rcases(Gr (f:=Grp.key) h.n2 hj).1 h1 with rfl|⟨h2,h3⟩
   ·intro id;rw[hm,h.m1 g hgm,hk'];constructor
    ·rintro(rfl|⟨e1,h5,h6,h7⟩)
     ·grind
     grind
    grind
   grind
  ·rcases Faq.1 h1 with h1|h1
   ·have⟨g1,h4,h5⟩:=h.m2 e1 h1;by_cases h6:g1.key=g.key
    ·exact⟨g',(Gr (f:=Grp.key) h.n2 hj).2 (.inl rfl),δ⟩
    ·exact⟨g1,(Gr (f:=Grp.key) h.n2 hj).2 (.inr ⟨h4,h6⟩),h5⟩
   ·simp at h1;subst h1;exact⟨g',(Gr (f:=Grp.key) h.n2 hj).2 (.inl rfl),δ⟩
 ·refine⟨n1,?_,λg1 h1=>?_,λg1 h1=>?_,λe1 h1=>?_⟩
  ·rw[Fav,Fdq];refine⟨h.n2,φ,λa ha b hb=>?_⟩;grind
  ·rcases Faq.1 h1 with h1|h1
   ·exact h.s g1 h1
   grind
  ·rcases Faq.1 h1 with h1|h1
   ·grind
   ·simp at h1;subst h1;intro id;rw[hns,hk'];constructor
    ·grind
    ·rintro⟨e1,h2,h3,h4⟩;rcases Faq.1 h2 with h2|h2
     ·have⟨g2,h5,h6⟩:=h.m2 e1 h2;grind
     grind
  ·rcases Faq.1 h1 with h1|h1
   ·have⟨g1,h4,h5⟩:=h.m2 e1 h1;grind
   grind
end
def qA(id:Int)(e:AV×AV):Bool:=match e.1 with|.s (.int _ n)=>id==n|_=>false
def qG(x y:Int)(e:AV×AV):Bool:=match e.1 with|.agg [.s (.int _ a),.s (.int _ b)]=>(x==a&&(y==b&&true))|_=>false
def Bk(id:Int)(e:Ent):Bool:=id==e.1
def H7(k:Int×Int)(g:Grp):Bool:=(k.1==g.x&&(k.2==g.y&&true))
theorem atKey_iff{k:Int×Int}{g:Grp}:H7 k g=true↔g.key=k:=by grind[H7,Grp.key]
theorem zia(l:List Ent)(id:Int):(l.map Am).find? (qA id)=(l.find? (Bk id)).map Am:=by rw[List.find?_map];rfl
theorem ef(l:List Ent)(id:Int):(l.map Am).findIdx? (qA id)=l.findIdx? (Bk id):=by rw[List.findIdx?_map];rfl
theorem Sq(G:List Grp)(k:Int×Int):(G.map Al).find? (qG k.1 k.2)=(G.find? (H7 k)).map Al:=by rw[List.find?_map];rfl
theorem ee(G:List Grp)(k:Int×Int):(G.map Al).findIdx? (qG k.1 k.2)=G.findIdx? (H7 k):=by rw[List.findIdx?_map];rfl
def d9{α:Type}{q:α->Bool}{l:List α}{e:α}(h:l.find? q=some e):e∈l/\q e=true:=⟨Fc9 h,List.find?_some h⟩
def yps{α:Type}{q:α->Bool}{l:List α}{i:Nat}(h:l.findIdx? q=some i):∃e,l[i]?=some e/\q e=true/\l.find? q=some e:=by grind[List.findIdx?_eq_some_iff_getElem,zh8]
def sx{α:Type}{q:α->Bool}{l:List α}{e:α}(h:l.find? q=some e):∃i,l.findIdx? q=some i/\l[i]?=some e:=by
 cases hi:l.findIdx? q with
 |none=>grind
 |some i=>
  have⟨e',h1,_,h3⟩:=yps hi;grind
theorem yp4{l:List Ent}(hn:(l.map (·.1)).Nodup){i:Nat}{e:Ent}(hi:l[i]?=some e):l.eraseIdx i=qt l e.1:=by
 induction l generalizing i with
 |nil=>rfl
 |cons a l ih=>
  rw[Fci,List.nodup_cons]at hn;grind[List.eraseIdx_cons_zero,qt,List.filter_eq_self]
theorem yqw{l:List Ent}{id:Int}(h:l.find? (Bk id)=none):qt l id=l:=by grind[qt,List.filter_eq_self,Bk]
section
variable {a:Store} {p ma mi:Nat} {l:List Ent} {bs1:List Nat} {c1:Nat} {G:List Grp} {bs2:List Nat} {c2:Nat}
def CellsAt.p_ne(h:CellsAt a p ma mi l bs1 c1 G bs2 c2):ma≠p/\mi≠p:=by
 refine⟨λe=>?_,λe=>?_⟩
 ·have:=h.ha;rw[e,h.hp]at this;cases this
 ·have:=h.hi;rw[e,h.hp]at this;cases this
theorem CellsAt.g_ne(h:CellsAt a p ma mi l bs1 c1 G bs2 c2){g:Grp}(hg:g∈G):g.b≠ma/\g.b≠mi/\g.b≠p:=by
 have⟨h1,h2,h3⟩:=h.hg g hg;refine⟨λe=>?_,λe=>?_,h3⟩
 ·have:=h.ha;grind
 ·have:=h.hi;grind
theorem CellsAt.other(h:CellsAt a p ma mi l bs1 c1 G bs2 c2){b:Nat}(x:AObj)(hp:b≠p)(hma:b≠ma)(hmi:b≠mi)(hg:∀g∈G,b≠g.b):CellsAt (a.sO b x) p ma mi l bs1 c1 G bs2 c2:=
 ⟨by rw[zf (Ne.symm hp)];exact h.hp,by rw[zf (Ne.symm hma)];exact h.ha,by rw[zf (Ne.symm hmi)];exact h.hi,h.ne,
  λg hg'=>by rw[zf (Ne.symm (hg g hg'))];exact h.hg g hg',h.nd⟩
def CellsAt.fresh(h:CellsAt a p ma mi l bs1 c1 G bs2 c2){b:Nat}(x:AObj)(hb:Fresh a b):CellsAt (a.sO b x) p ma mi l bs1 c1 G bs2 c2:=
 h.other x (hb.ne_obj h.hp) (hb.ne_obj h.ha) (hb.ne_obj h.hi) λg hg=>hb.ne_obj (h.hg g hg).1
def CellsAt.setA(h:CellsAt a p ma mi l bs1 c1 G bs2 c2)(l':List Ent)(bs:List Nat)(c:Nat):CellsAt (a.sO ma (.map (l'.map Am) bs c)) p ma mi l' bs c G bs2 c2:=
 ⟨by rw[zf (Ne.symm h.p_ne.1)];exact h.hp,zd _ _ _,by rw[zf (Ne.symm h.ne)];exact h.hi,h.ne,
  λg hg=>by rw[zf (h.g_ne hg).1];exact h.hg g hg,h.nd⟩
theorem CellsAt.setI(h:CellsAt a p ma mi l bs1 c1 G bs2 c2){G':List Grp}(bs:List Nat)(c:Nat)(hg:∀g∈G',a.obj g.b=some (.cells (g.ns.map aI++g.L))/\g.fits/\g.b≠p)(nd:(G'.map (·.b)).Nodup):
  CellsAt (a.sO mi (.map (G'.map Al) bs c)) p ma mi l bs1 c1 G' bs c:=
 ⟨by rw[zf (Ne.symm h.p_ne.2)];exact h.hp,by rw[zf h.ne];exact h.ha,zd _ _ _,h.ne,
  λg hg'=>by
   have⟨h1,h2,h3⟩:=hg g hg';have:g.b≠mi:=λe=>by have:=h.hi;grind
   grind[zf],nd⟩
structure CellsMid(a:Store)(p ma mi:Nat)(l:List Ent)(bs1:List Nat)(c1:Nat)(G:List Grp)(bs2:List Nat)(c2:Nat)(b:Nat):Prop where
 hp:a.obj p=some (.cells [.s (.map (some ma)),.s (.map (some mi))])
 ha:a.obj ma=some (.map (l.map Am) bs1 c1)
 hi:a.obj mi=some (.map (G.map Al) bs2 c2)
 ne:ma≠mi
 hg:∀g∈G,g.b≠b->a.obj g.b=some (.cells (g.ns.map aI++g.L))/\g.fits/\g.b≠p
 nd:(G.map (·.b)).Nodup
def CellsAt.mid(h:CellsAt a p ma mi l bs1 c1 G bs2 c2){b:Nat}(x:AObj)(hp:b≠p)(hma:b≠ma)(hmi:b≠mi):CellsMid (a.sO b x) p ma mi l bs1 c1 G bs2 c2 b:=
 ⟨by rw[zf (Ne.symm hp)];exact h.hp,by rw[zf (Ne.symm hma)];exact h.ha,by rw[zf (Ne.symm hmi)];exact h.hi,h.ne,
  λg hg' hne=>by rw[zf hne];exact h.hg g hg',h.nd⟩
theorem CellsMid.setI{b:Nat}(h:CellsMid a p ma mi l bs1 c1 G bs2 c2 b){G':List Grp}(bs:List Nat)(c:Nat)(hg:∀g∈G',(g∈G/\g.b≠b)\/(a.obj g.b=some (.cells (g.ns.map aI++g.L))/\g.fits/\g.b≠p))(nd:(G'.map (·.b)).Nodup):
  CellsAt (a.sO mi (.map (G'.map Al) bs c)) p ma mi l bs1 c1 G' bs c:=by
 have hpi:mi≠p:=λe=>by have:=h.hi;rw[e,h.hp]at this;cases this
 refine⟨by rw[zf (Ne.symm hpi)];exact h.hp,by rw[zf h.ne];exact h.ha,zd _ _ _,h.ne,λg hg'=>?_,nd⟩;have key:a.obj g.b=some (.cells (g.ns.map aI++g.L))/\g.fits/\g.b≠p:=by grind[hg]
 have⟨h1,h2,h3⟩:=key;have:g.b≠mi:=λe=>by have:=h.hi;grind
 grind[zf]
end
def yhy{a:Store}{p ma mi:Nat}{l:List Ent}{bs1:List Nat}{c1:Nat}{G:List Grp}{bs2:List Nat}{c2:Nat}(ha:CellsAt a p ma mi l bs1 c1 G bs2 c2)(hi:Inv l G){id:Int}{pos:Vc}(hno:∀e∈l,e.1≠id):
  ∃cur ns,Gt false (.s (.slice none 0 0)) ((G.find? (H7 (zx pos))).map Al)=cur/\Ints a cur ns/\ns.Pairwise (·<·)/\(ns=[]\/∃g∈G,ns=g.ns)/\(∀b cap,cur=.s (.slice (some ⟨b,0,none⟩) ns.length cap)->a.obj b≠none)∧
   ∀vb lit b cap L,Fresh a vb->(Fresh (a.sO vb lit) b\/∃c0,cur=.s (.slice (some ⟨b,0,none⟩) ns.length c0))->
    (ns.take (ns.countP (·<id))++id::ns.drop (ns.countP (·<id))).length<=cap->cap<=(ns.take (ns.countP (·<id))++id::ns.drop (ns.countP (·<id))).length+L.length->cap<=9223372036854775807->
    ((a.sO vb lit).sO b (.cells ((ns.take (ns.countP (·<id))++id::ns.drop (ns.countP (·<id))).map aI++L))).obj mi=some (.map (G.map Al) bs2 c2)∧
    ((a.sO vb lit).sO b (.cells ((ns.take (ns.countP (·<id))++id::ns.drop (ns.countP (·<id))).map aI++L))).obj p=some (.cells [.s (.map (some ma)),.s (.map (some mi))])∧
    ∃G' bs2' c2',wd (G.map Al) bs2 c2 (qG (zx pos).1 (zx pos).2) (.agg [int (zx pos).1,int (zx pos).2]) (.s (.slice (some ⟨b,0,none⟩) (ns.take (ns.countP (·<id))++id::ns.drop (ns.countP (·<id))).length cap))=.map (G'.map Al) bs2' c2'∧
     CellsAt (((a.sO vb lit).sO b (.cells ((ns.take (ns.countP (·<id))++id::ns.drop (ns.countP (·<id))).map aI++L))).sO mi (.map (G'.map Al) bs2' c2')) p ma mi l bs1 c1 G' bs2' c2'/\Inv (l++[(id,pos)]) G':=by
 have⟨w1,w2⟩:=yl8 (e:=(id,pos)) hi hno;cases hf:G.find? (H7 (zx pos))with
 |none=>
  refine⟨_,[],rfl,.inl ⟨rfl,rfl⟩,List.Pairwise.nil,.inl rfl,λb cap h=>?_,λvb lit b cap L hvb hb h1 h2 h3=>?_⟩
  ·simp[Gt]at h
  have hb:Fresh (a.sO vb lit) b:=by grind[Gt]
  simp only[List.countP_nil,List.take_nil,List.drop_nil,Fdo]at*;have a1:=ha.fresh lit hvb;have a2:=a1.fresh (.cells ([id].map aI++L)) hb;refine⟨a2.hi,a2.hp,G++[⟨(zx pos).1,(zx pos).2,[id],b,cap,L⟩],bs2++[c2],c2+1,?_,?_,?_⟩
  ·unfold wd;have:G.findIdx? (H7 (zx pos))=none:=by grind
   rw[ee,this,Fav];rfl
  ·refine a2.setI _ _ (λg hg=>?_) ?_
   ·rcases Faq.1 hg with hg|hg
    ·exact a2.hg g hg
    ·simp at hg;subst hg;exact⟨zd _ _ _,⟨h1,h2,h3⟩,hb.ne_obj a1.hp⟩
   ·rw[Fav,Fdq];refine⟨ha.nd,φ,λx hx y hy=>?_⟩;obtain⟨g,hg,rfl⟩:=Fag.1 hx;simp at hy;subst hy;exact Ne.symm (hb.ne_obj (a1.hg g hg).1)
  ·refine w2 (λg hg hk=>?_) _ rfl rfl;grind[atKey_iff]
 |some g=>
  have⟨hg,hk⟩:=d9 hf;have hk:=atKey_iff.1 hk;have⟨j,hj1,hj2⟩:=sx hf;have⟨k1,k2,k3⟩:=ha.hg g hg;have⟨s1,s2⟩:=hi.s g hg;have hnin:id∉g.ns:=λh=>by have⟨e,he,h1,_⟩:=(hi.m1 g hg id).1 h;grind
  have⟨i1,i2⟩:=ymi s1 hnin;refine⟨_,g.ns,rfl,.inr ⟨g.b,g.cap,g.L,rfl,k1,k2⟩,s1,.inr ⟨g,hg,rfl⟩,λb cap h=>?_,λvb lit b cap L hvb hb h1 h2 h3=>?_⟩
  ·grind[Gt,Al]
  generalize g.ns.take (g.ns.countP (·<id))++id::g.ns.drop (g.ns.countP (·<id))=ins at*;have a1:=ha.fresh lit hvb;have hbne:b≠p/\b≠ma/\b≠mi/\∀g1∈G,g1≠g->g1.b≠b:=by
   rcases hb with hb|⟨c0,hb⟩
   ·exact⟨hb.ne_obj a1.hp,hb.ne_obj a1.ha,hb.ne_obj a1.hi,λg1 hg1 _=>Ne.symm (hb.ne_obj (a1.hg g1 hg1).1)⟩
   ·have:g.b=b:=by simp[Gt,Al]at hb;exact hb.1
    subst this;have⟨n1,n2,n3⟩:=ha.g_ne hg;refine⟨n3,n1,n2,λg1 hg1 hne he=>hne ?_⟩;have⟨i,hi1⟩:=Fbb.1 hg1;have:=Gq (f:=λg:Grp=>g.b) ha.nd hi1 hj2 he;grind
  have⟨n3,n1,n2,n4⟩:=hbne;have mid:=a1.mid (.cells (ins.map aI++L)) n3 n1 n2
  let g2:Grp:=⟨g.x,g.y,ins,b,cap,L⟩
  have hmem:∀g1,g1∈G.set j g2->g1=g2\/(g1∈G/\g1≠g):=λg1 h=>by
   rcases(Gr (f:=Grp.key) hi.n2 hj2).1 h with h|⟨h,h'⟩
   ·grind
   grind
  refine⟨mid.hi,mid.hp,G.set j g2,bs2,c2,?_,?_,w1 j g g2 hj2 hk rfl i1 i2⟩
  ·unfold wd;rw[ee,hj1,Fc6];simp only
   congr 2
   show _=(AV.agg [int g.x,int g.y],_)
   rw[<-hk];rfl
  ·refine mid.setI _ _ (λg1 h1'=>?_) ?_
   ·rcases hmem g1 h1' with rfl|⟨q1,q2⟩
    ·exact .inr ⟨zd _ _ _,⟨h1,h2,h3⟩,n3⟩
    grind
   ·rw[Fc6];have hlt:=(Fax.1 hj2).1;unfold List.Nodup;rw[Fbz];intro i1 i2 hl1' hl2 hlt12 he;replace he:=congrArg some he;rw[<-Fab,<-Fab]at he;rw[Fds,Fds]at he;simp only[Fal,Fak]at hl2 he;have nd:=ha.nd;by_cases e1:j=i1
    ·subst e1;rw[if_pos rfl,if_pos hlt,if_neg θ,Far,Fab hl2]at he;simp at he;refine n4 G[i2] (Faa hl2) (λe=>?_) he.symm;have:=Gq (f:=Grp.key) hi.n2 (Fab hl2) hj2 (by rw[e]);omega
    ·by_cases e2:j=i2
     ·subst e2;have hl1:i1<G.length:=θ;rw[if_neg e1,if_pos rfl,if_pos hlt,Far,Fab hl1]at he;simp at he;refine n4 G[i1] (Faa hl1) (λe=>?_) he;have:=Gq (f:=Grp.key) hi.n2 (Fab hl1) hj2 (by rw[e]);omega
     ·have hl1:i1<G.length:=θ;rw[if_neg e1,if_neg e2,Far,Far,Fab hl1,Fab hl2]at he;simp at he;have:=Gq (f:=λg:Grp=>g.b) nd (Fab hl1) (Fab hl2) he;omega
def Ints.fresh{st:Store}{v:AV}{ns:List Int}(h:Ints st v ns){b:Nat}(x:AObj)(hb:Fresh st b):Ints (st.sO b x) v ns:=by
 rcases h with h|⟨b1,cap,L,h1,h2,h3⟩
 ·exact .inl h
 ·exact .inr ⟨b1,cap,L,h1,by rw[zf (Ne.symm (hb.ne_obj h2))];exact h2,h3⟩
def yt6{P:Program}{c:Cfg}{e:TypeId}{ie:TI}(hie:c.I e=some ie)(hsz:ie.size=1)(hby:ie.bytes=8){st:Store}{v:AV}{ns:List Int}(hv:Ints st v ns)(x:Int)(hlen:ns.length<=1000000000000){K:Ja}
  (h:∀b cap L,(Fresh st b\/∃c0,v=.s (.slice (some ⟨b,0,none⟩) ns.length c0))->(ns++[x]).length<=cap->cap<=(ns++[x]).length+L.length->cap<=9223372036854775807->
   K (.s (.slice (some ⟨b,0,none⟩) (ns++[x]).length cap)) (st.sO b (.cells ((ns++[x]).map aI++L)))):appendK P c st e (.av v) (.av (.lst 1 [[aI x]] none)) K:=by
 have hrows:kh ie.size (.av (.lst 1 [[aI x]] none))=some [[aI x]]:=by simp[kh,hsz]
 refine⟨.inr ⟨v,_,rfl,rfl,?_⟩⟩;have hl:(ns++[x]).length=ns.length+1:=φ;rcases hv with⟨rfl,rfl⟩|⟨b,cap,L,rfl,ho,h1,h2,h3⟩
 ·refine zkw hie hrows ⟨δ,φ⟩ φ (λb' cap' hb hc hc2=>?_);grind
 ·refine Vd hie (cap:=cap) ho δ h1 hrows ⟨δ,δ⟩ (λhc=>?_) (λhc b' cap' hb hc1 hc2=>?_)
  ·have hc:ns.length+1<=cap:=hc;have e1:zq (ns.map aI++L) (ns.length*ie.size) ([[aI x]]:List (List AV)).flatten=(ns++[x]).map aI++L.drop 1:=by simp_all[wu]
   have e0:ns.map (λn=>AV.s (.int .i64 n))++L=ns.map aI++L:=rfl;have:=h b cap (L.drop 1) (.inr ⟨cap,rfl⟩) θ δ h3;grind
  ·have hc1:ns.length+1<=cap':=hc1;have e1:(ns.map aI++L).take (ns.length*ie.size)++([[aI x]]:List (List AV)).flatten++List.replicate ((cap'-(ns.length+1))*ie.size) .any=(ns++[x]).map aI++List.replicate (cap'-(ns.length+1)) .any:=by simp_all
   have:=h b' cap' (List.replicate (cap'-(ns.length+1)) .any) (.inl hb) θ δ hc2;rw[hl,<-e1]at this;exact this
structure NearAt(N:Store)(b3 b4 b5 b6 p:Nat)(q:Vc)(r:Int)(v:AV)(acc:List Int):Prop where
 h3:N.obj b3=some (.cells [.s (.pointer (some ⟨p,0,none⟩))])
 h4:N.obj b4=some (.cells (yp q))
 h5:N.obj b5=some (.cells [int r])
 h6:N.obj b6=some (.cells [v])
 hv:Ints N v acc
 n36:b3≠b6
 n46:b4≠b6
 n56:b5≠b6
 nv:∀b n cap,v=.s (.slice (some ⟨b,0,none⟩) n cap)->b≠b3/\b≠b4/\b≠b5/\b≠b6
def NearAt.app{N:Store}{b3 b4 b5 b6 p:Nat}{q:Vc}{r:Int}{v:AV}{acc:List Int}(h:NearAt N b3 b4 b5 b6 p q r v acc){b cap:Nat}{L:List AV}{x:Int}
  (hb:Fresh N b\/∃c0,v=.s (.slice (some ⟨b,0,none⟩) acc.length c0)) (h1:(acc++[x]).length<=cap) (h2:cap<=(acc++[x]).length+L.length) (h3:cap<=9223372036854775807):
  NearAt ((N.sO b (.cells ((acc++[x]).map aI++L))).sO b6 (.cells [.s (.slice (some ⟨b,0,none⟩) (acc++[x]).length cap)])) b3 b4 b5 b6 p q r (.s (.slice (some ⟨b,0,none⟩) (acc++[x]).length cap)) (acc++[x]):=by
 have hne:b≠b3/\b≠b4/\b≠b5/\b≠b6:=by
  rcases hb with hb|⟨c0,hb⟩
  ·exact⟨hb.ne_obj h.h3,hb.ne_obj h.h4,hb.ne_obj h.h5,hb.ne_obj h.h6⟩
  ·exact h.nv b _ _ hb
 have⟨n3,n4,n5,n6⟩:=hne;refine⟨?_,?_,?_,zd _ _ _,.inr ⟨b,cap,L,rfl,?_,h1,h2,h3⟩,h.n36,h.n46,h.n56,λb' n c e=>?_⟩
 ·rw[zf h.n36,zf (Ne.symm n3)];exact h.h3
 ·rw[zf h.n46,zf (Ne.symm n4)];exact h.h4
 ·rw[zf h.n56,zf (Ne.symm n5)];exact h.h5
 ·rw[zf n6,zd];rfl
 grind
theorem Ints.un{a g:Store}{v:AV}{ns:List Int}(h:Ints g v ns):Ints (a.un g) v ns:=by
 rcases h with h|⟨b1,cap,L,h1,h2,h3⟩
 ·exact .inl h
 ·exact .inr ⟨b1,cap,L,h1,zg h2,h3⟩
section
variable {P:Program} {c:Cfg} {w:World} {st:Store} {Oth M:BB}
structure Stamps(es:List (AV×AV))(bs:List Nat)(clk:Nat):Prop where
  len:es.length=bs.length
  lt:∀t∈bs,t<clk
  inc:bs.Pairwise (·<·)
def yus{o:Oper}{args:List AV}{m clk:Nat}{es:List (AV×AV)}{bs:List Nat}(hm:st.obj m=some (.map es bs clk)){R:Ja}(h:Stamps es bs clk->AEff P c o args st R):AEff P c o args st R:=by refine⟨λOth M w ρ hI sto hr=>?_⟩;have⟨⟨ms,g1,g2,g3,g4,g5,g6⟩,hM⟩:=sto.obj m _ hm;exact(h ⟨δ,g5,g6⟩).out Oth M w ρ hI sto hr
def ypp{t:Nat}{me:MapEntry}:∀{L:List MapEntry} {i:Nat},(L.map (·.born)).Pairwise (·<·)->L[i]?=some me->me.born=t->L.find? (λe=>e.born==t)=some me:=by
  intro L;induction L with
  |nil=>simp
  | cons a L ih=>
    grind[List.pairwise_cons]
def yux{o:Oper}{x:Operand}(ho:o.op=.entry x){b m clk since:Nat}{es:List (AV×AV)}{bs seen:List Nat}{i t:Nat}{e:AV×AV}(hb:st.obj b=some (.iter m since (seen++[t]) clk))(hm:st.obj m=some (.map es bs clk))
    (he:es[i]?=some e) (hbi:bs[i]?=some t) {R:Ja} (h:R (.tup [e.1,e.2]) st):AEff P c o [.s (.pointer (some ⟨b,0,none⟩))] st R:=by
  refine⟨λOth M w ρ hI sto hr=>?_⟩;rw[ho]at hr;have hr:Reads w (λb o=>M b o\/Oth b o) [.s (.pointer (some ⟨b,0,none⟩))] [ρ x]:=θx;have⟨u,hx0,hx⟩:=Kh hr;simp only[Fcm,and_true]at hx0;rw[<-hx0]at hx;have hx:=VRel.eq_s hx;have⟨⟨ms,g1,g2,g3,g4,g5,g6⟩,hM⟩:=sto.obj m _ hm;have⟨hit,hMb⟩:=sto.obj b _ hb;have hit:w.heap[b]?=some (.mapIter (some m) since (seen++[t]).toArray clk):=hit;have hgo:(getObj b).run P w=.ok (.mapIter (some m) since (seen++[t]).toArray clk) w:=by simp[getObj,Sem.run,hit]
  have hlt:i<ms.size:=δ;have hmi:ms[i]?=some ms[i]:=Fbp hlt;have hbt:ms[i].born=t:=δ;have hfind:ms.find? (λe=>e.born==t)=some ms[i]:=by rw[<-Array.find?_toList];exact ypp δ (by rw[Fdp];exact hmi) hbt
  have hback:(seen++[t]).toArray.back?=some t:=φ;have hrun:(execOp ρ o).run P w=.ok (.value (.tuple #[ms[i].key,ms[i].val])) w:=by simp only[execOp,ho,Instr.entry,hx,Sem.run_bind,hgo,Result.andThen_ok,hback,D2 g1,bne_self_eq_false,Fap,if_false,hfind,Sem.run_pure]
  rw[hrun];have hrel:=g3 i e ms[i] he hmi;exact⟨_,st,M,h,vx (Reads.cons hrel.1 (Reads.cons hrel.2 Reads.nil)),sto,Chg.refl _ _⟩
end
section
variable {r:Int} {g:Store}
def zgn{x:Int}(hx:0<=x)(hr:0<r)(h:x*x<r*r):x<r:=by
 by_cases h1:x<r
 ·exact h1
 ·have h2:r<=x:=θ;have h3:r*r<=x*x:=Fbo h2 h2 θ hx;omega
def zi0{a b:Int}(ha:yu a)(hb:yu b)(hr:0<r)(hr2:r<=9223372036854775807)(h:asz (qf a b)<r):qf a r<=nrm b/\nrm b<=qs a r:=by grind[F5,Hl,nrm,qf,asz,qs,Bj]
def yj1{q p:Vc}(hq:q.ok)(hp:p.ok)(hr:0<r)(hr2:r<=9223372036854775807)(h:near q p r=true):
  ((zx (qf q.1 r,qf q.2 r)).1<=(zx p).1/\(zx p).1<=(zx (qs q.1 r,qs q.2 r)).1)/\((zx (qf q.1 r,qf q.2 r)).2<=(zx p).2/\(zx p).2<=(zx (qs q.1 r,qs q.2 r)).2):=by
 unfold near at h;have h:=(of_decide_eq_true h).2;have e1:=Pc (Kt q.1 p.1);have e2:=Pc (Kt q.2 p.2);have m1:0<=asz (qf q.1 p.1)*asz (qf q.1 p.1):=Fa8 e1.1 e1.1;have m2:0<=asz (qf q.2 p.2)*asz (qf q.2 p.2):=Fa8 e2.1 e2.1;have h':asz (qf q.1 p.1)*asz (qf q.1 p.1)+asz (qf q.2 p.2)*asz (qf q.2 p.2)<r*r:=h;have d1:=zi0 hq.1 hp.1 hr hr2 (zgn e1.1 hr θ);have d2:=zi0 hq.2 hp.2 hr hr2 (zgn e2.1 hr θ);grind[Hl,sh,zx]
def yha{q:Vc}(hq:q.ok)(hr:0<r)(hr2:r<=9223372036854775807):
  (zx (qf q.1 r,qf q.2 r)).1<=(zx (qs q.1 r,qs q.2 r)).1/\(zx (qf q.1 r,qf q.2 r)).2<=(zx (qs q.1 r,qs q.2 r)).2:=by
 have key:∀a:Int,yu a->qf a r<=qs a r:=by grind[qf,qs,Bj,nrm]
 have k1:=key q.1 hq.1;have k2:=key q.2 hq.2;grind[Hl,sh,zx]
def zj1{p:Vc}(h:p.ok):(-70368744177664<=(zx p).1/\(zx p).1<=70368744177664)/\(-70368744177664<=(zx p).2/\(zx p).2<=70368744177664):=by have h1:=F5 h.1;have h2:=F5 h.2;unfold zx;omega
def NearIn(l:List Ent)(q:Vc)(r:Int)(D:Ent->Prop)(acc:List Int):Prop:=acc.Nodup/\∀id,id∈acc↔∃e∈l,e.1=id/\near q e.2 r=true/\D e
def NearIn.congr{l:List Ent}{q:Vc}{D D':Ent->Prop}{acc:List Int}(h:NearIn l q r D acc)(hD:∀e∈l,near q e.2 r=true->(D e↔D' e)):NearIn l q r D' acc:=by refine⟨h.1,λid=>?_⟩;rw[h.2 id];grind
theorem NearIn.len{l:List Ent}{q:Vc}{D:Ent->Prop}{acc:List Int}(h:NearIn l q r D acc):acc.length<=l.length:=by have:=Fb2 (l₂:=l.map (·.1)) h.1 (λid hid=>by have⟨e,h1,h2,_⟩:=(h.2 id).1 hid;grind);grind
def NearIn.step{l:List Ent}(hn:(l.map (·.1)).Nodup){q:Vc}{D:Ent->Prop}{acc:List Int}(h:NearIn l q r D acc){e:Ent}(he:e∈l)(hD:¬D e):NearIn l q r (λe'=>D e'\/e'=e) (if near q e.2 r then acc++[e.1]else acc):=by
 cases hnr:near q e.2 r with
 |false=>
  refine h.congr λe' he' hn'=>⟨.inl,λhh=>hh.elim id λhh=>?_⟩
  grind
 |true=>
  refine⟨?_,λid=>?_⟩
  ·rw[if_pos rfl,Fdq];refine⟨h.1,φ,λa ha b hb=>?_⟩;simp at hb;subst hb;intro hab;subst hab;have⟨e',h1,h2,_,h4⟩:=(h.2 _).1 ha;grind[Se]
  ·rw[if_pos rfl,Faq,h.2 id];grind
def ynt{l:List Ent}{G:List Grp}(h:Inv l G):G.length<=l.length:=by
 have h1:(G.map λg=>g.ns.headD 0).Nodup:=by
  unfold List.Nodup;rw[List.pairwise_map];have n2:=h.n2;unfold List.Nodup at n2;rw[List.pairwise_map]at n2;have key:∀g∈G,g.ns.headD 0∈g.ns:=λg hg=>by
   have:=(h.s g hg).2;cases hns:g.ns with
   |nil=>grind
   |cons a t=>simp
  rw[Fbz]at n2⊢;intro i j hi hj hij he;have⟨e1,q1,q2,q3⟩:=(h.m1 G[i] (Faa hi) _).1 (key _ (Faa hi));have⟨e2,q4,q5,q6⟩:=(h.m1 G[j] (Faa hj) _).1 (key _ (Faa hj));refine n2 i j hi hj hij ?_;rw[<-q3,<-q6,Se h.n1 q4 q1 θ]
 have:=Fb2 (l₂:=l.map (·.1)) h1 (λid hid=>by
  obtain⟨g,hg,rfl⟩:=Fag.1 hid;have:=(h.s g hg).2;cases hns:g.ns with
  |nil=>grind
  |cons a t=>
   have⟨e,q1,q2,_⟩:=(h.m1 g hg a).1 δ;grind)
 grind
def ykn{xs:List Int}(h:xs.Nodup):(xs.mergeSort λx y=>decide (x<=y)).Pairwise (·<·)/\∀n,n∈(xs.mergeSort λx y=>decide (x<=y))↔n∈xs:=by have h1:=List.pairwise_mergeSort (le:=λx y:Int=>decide (x<=y)) (λa b c h1 h2=>δ) (λa b=>δ) xs;have h2:(xs.mergeSort λx y=>decide (x<=y)).Nodup:=(List.mergeSort_perm xs _).nodup_iff.2 h;refine⟨?_,λn=>List.mem_mergeSort⟩;have h3:=h1.and h2;grind
def Vh(l:List Ent)(q:Vc)(r:Int)(ns:List Int):Prop:=ns.Pairwise (·<·)/\∀id,id∈ns↔∃e∈l,e.1=id/\near q e.2 r=true
theorem Fs{a:Store}{b:Nat}{x:AObj}(h:¬g.has b):(a.un g).sO b x=(a.sO b x).un g:=by have⟨h1,h2⟩:=vj h;unfold Store.un Store.sO;grind[y9]
def tv{a:Store}{b:Nat}{x:AObj}(h:zj a g)(hb:¬g.has b):zj (a.sO b x) g:=by
 intro i hi hg;rcases has_setObj_iff.1 hi with rfl|hi
 ·grind
 ·exact h i hi hg
def yrl{a:Store}{b:Nat}{x y:AObj}(h:zj (a.sO b x) g):zj (a.sO b y) g/\¬g.has b:=by
 have h1:¬g.has b:=h b (has_setObj_iff.2 (.inl rfl));refine⟨λi hi hg=>?_,h1⟩;rcases has_setObj_iff.1 hi with rfl|hi
 ·grind
 ·exact h i (has_setObj_iff.2 (.inr hi)) hg
def zh7{l:List Ent}(hn:(l.map (·.1)).Nodup){e:Ent}(he:e∈l):l.find? (Bk e.1)=some e:=by
 cases hf:l.find? (Bk e.1)with
 |none=>
  grind[Bk]
 |some e'=>
  grind[Bk,Se]
end
section
variable {st a b:Store}
def Cl:Option Nat->Int|some i=>(i:Int)|none=>-1
theorem Pn(a b c:Store):(a.un b).un c=a.un (b.un c):=by unfold Store.un;grind
theorem vo(a:Store):Store.empty.un a=a:=by
 unfold Store.un Store.empty
 congr<;>funext i
 ·grind
 grind
def disj_un{c:Store}:zj (a.un b) c↔zj a c/\zj b c:=
 ⟨λh=>⟨λi h1=>h i (un_has.2 (.inl h1)),λi h1=>h i (un_has.2 (.inr h1))⟩,λ⟨h1,h2⟩ i h=>(un_has.1 h).elim (h1 i) (h2 i)⟩
def zm4{g:Store}:(a.un g).Le g:=⟨λb y h=>⟨y,zg h,AObj.le_refl y⟩,λb x h=>Ft h⟩
def AWp.leS{P:Program}{c:Cfg}{code:Code}{Q:Exit->Fr->Store->Prop}{A:Fr}{st':Store}(hle:st.Le st')(h:AWp P c code Q A st'):AWp P c code Q A st:=by
 refine⟨λOth M a w ⟨β,s⟩=>h.out Oth M a w ⟨β,{tsz:=s.tsz,dfr:=s.dfr,tm:=s.tm,bx:=s.bx,inj:=s.inj,sep:=λk b hk hb=>s.sep k b hk ?_,sto:=s.sto.weakenLe hle}⟩⟩;rcases hb with hb|hb
 ·cases hx:st'.obj b with
  |none=>grind
  |some y=>
   have⟨x,h1,_⟩:=hle.obj b y hx;grind
 ·cases hx:st'.tok b with
  |none=>grind
  |some y=>exact .inr (by rw[hle.tok b y hx];simp)
theorem qv{x:AV}{Oth M:BB}{w:World}{v:Value}(h:VRel w (λb o=>M b o\/Oth b o) x v):VRel w (λb o=>(M b o\/Oth b o)/\st.obj b=none) x v:=
 h.mono λ_ _ h=>h.1
end
structure Bld where
 id:Int
 owner:Int
 x:Int
 y:Int
 w:Int
 h:Int
 deriving DecidableEq
structure Unt where
 id:Int
 owner:Int
 kind:Int
 pos:Vc
 goal:Int
 next:Int
 stuck:Int
 inn:Int
 state:Int
 deriving DecidableEq
structure Wld where
 tick:Int
 players:Int
 next:Int
 G:Gnd
 B:List Bld
 U:List Unt
 deriving DecidableEq
def zl(b:Bld):List AV:=[int b.id,int b.owner,int b.x,int b.y,int b.w,int b.h]
def zm(u:Unt):List AV:=[int u.id,int u.owner,int u.kind,int u.pos.1,int u.pos.2,int u.goal,int u.next,int u.stuck,int u.inn,int u.state]
def zr(w:Wld):List AV:=[int w.tick,int w.players,int w.next,int w.G.W,int w.G.H,qa w.G.T,lst 6 zl w.B,lst 10 zm w.U]
def Wld.fits(w:Wld):Prop:=w.G.fits/\w.B.length<=1000000000000/\w.U.length<=1000000000000
def z6(k:Int):Int:=if k=0 then 24576 else if k=2 then 81920 else 32768
def Aj(k:Int):Int:=if k=0 then 16384 else if k=1 then 24576 else if k=2 then 8192 else 16384
def qp(k:Int):Int:=if k=0 then 0 else if k=1 then 1 else if k=2 then 0 else 2
def vn(k:Int):Int:=if k=2 then 1 else 0
def ko(k:Int):Int:=if k=0 then 0 else if k=1 then 0 else if k=2 then 0 else 4
def Mf(k:Int):List AV:=[int (z6 k),int (Aj k),int (qp k),int (vn k),int (ko k)]
def Gb(k:Int):Prop:=0<=k/\k<=3
def Fw(c:Int)(t:Nat):Int:=((if c=0 then [2,1,3,5,0,0]else if c=1 then [2,1,6,0,0,0]else [2,1,0,3,2,0]):List Int).getD t 0
def qh(b:Bld):Prop:=(1<=b.id/\b.id<=1099511627776)/\(1<=b.owner/\b.owner<=8)/\(1<=b.w/\b.w<=4)/\(1<=b.h/\b.h<=4)
def onP(g:Gnd)(b:Bld):Prop:=(0<=b.x/\b.x+b.w<=g.W)/\(0<=b.y/\b.y+b.h<=g.H)
def Ff(g:Gnd)(b:Bld)(t:Nat):Prop:=(b.x<=(t:Int)%g.W/\(t:Int)%g.W<b.x+b.w)/\(b.y<=(t:Int)/g.W/\(t:Int)/g.W<b.y+b.h)
instance(g:Gnd)(b:Bld)(t:Nat):Decidable (Ff g b t):=inferInstanceAs (Decidable (_/\_))
def Hw(g:Gnd)(b:Bld):Prop:=∀t,t<g.T.length->Ff g b t->(g.T.getD t 0).toNat<=1
def Bb(a b:Bld):Prop:=(a.x<b.x+b.w/\b.x<a.x+a.w)/\(a.y<b.y+b.h/\b.y<a.y+a.h)
def Ws(l:List Bld):Prop:=∀j,(h:j<l.length)->0<j->(l[j-1]'θ).id<l[j].id
def yl(l:List Unt):Prop:=∀j,(h:j<l.length)->0<j->(l[j-1]'θ).id<l[j].id
def gk(l:List Bld):Prop:=∀j,(h:j<l.length)->∀i,(hi:i<j)->¬Bb l[j] (l[i]'θ)
def Mv(g:Gnd)(l:List Bld):Prop:=l.length<=256/\Ws l/\(∀b∈l,qh b/\onP g b/\Hw g b)/\gk l
def xo(g:Gnd)(l:List Bld)(t:Nat):Bool:=l.any λb=>decide (Ff g b t)
def qd(g:Gnd)(l:List Bld)(c:Int)(t:Nat):Bool:= !xo g l t&&decide (0<Fw c (g.T.getD t 0).toNat)
def tx(g:Gnd)(t:Nat):Int:=(t:Int)%g.W*65536
def ty(g:Gnd)(t:Nat):Int:=(t:Int)/g.W*65536
def off(x lo:Int):Int:=if x<lo then lo-x else if x>lo+65536 then x-(lo+65536)else 0
def wz(g:Gnd)(t:Nat)(p:Vc)(r:Int):Prop:=off p.1 (tx g t)*off p.1 (tx g t)+off p.2 (ty g t)*off p.2 (ty g t)<r*r
instance(g:Gnd)(t:Nat)(p:Vc)(r:Int):Decidable (wz g t p r):=inferInstanceAs (Decidable (_<_))
def Fh(g:Gnd)(l:List Bld)(c:Int)(p:Vc)(r:Int):Prop:=
 ((r<=p.1/\p.1+r<=g.W*65536)/\(r<=p.2/\p.2+r<=g.H*65536))/\∀t,t<g.T.length->qd g l c t=false->¬wz g t p r
def Bz(p:Vc)(r:Int)(q:Vc)(s:Int):Bool:= !near p q (r+s)
def xz(w:Wld)(id k:Int)(p:Vc):Prop:=
 Fh w.G w.B (qp k) p (z6 k)/\∀u∈w.U,u.inn=0->u.id≠id->Bz p (z6 k) u.pos (z6 u.kind)=true
def De(g:Gnd)(t:Int):Prop:=t=-1\/(0<=t/\t<g.W*g.H)
def vi(w:Wld)(u:Unt):Prop:=
 ((1<=u.id/\u.id<w.next)/\(1<=u.owner/\u.owner<=w.players)/\Gb u.kind)/\(De w.G u.goal/\De w.G u.next/\(0<=u.stuck/\u.stuck<8))∧
 ((0<=u.state/\u.state<=4)/\(u.state=1↔u.goal≠-1))/\(u.goal=-1->u.next=-1/\u.stuck=0)
def Sf(w:Wld):Prop:=
 ((0<=w.tick/\w.tick<=1099511627776)/\(1<=w.players/\w.players<=8)/\(1<=w.next/\w.next<=1099511627776))∧
 (zv w.G/\Mv w.G w.B/\w.U.length<=4096)/\∀b∈w.B,b.owner<=w.players/\b.id<w.next
def Pm(w:Wld):Prop:=yl w.U/\∀u∈w.U,vi w u/\∀b∈w.B,b.id≠u.id
def ya(l:List Unt)(id:Int):List Int:=(l.filter λu=>u.inn==id).map (·.id)
def Hf(w:Wld)(u:Unt):Prop:=
 ∃x∈w.U,x.id=u.inn/\(x.inn=0/\x.owner=u.owner)/\((ya w.U u.inn).length:Int)<=ko x.kind/\ko u.kind=0/\u.pos=(0,0)/\u.goal=-1/\u.state=0
def z8(w:Wld):Prop:=(Sf w/\Pm w)/\(∀u∈w.U,u.inn=0->xz w u.id u.kind u.pos)/\∀u∈w.U,u.inn≠0->Hf w u
theorem zkk(a b:Int):(a==b)=decide (a=b):=ζ
def xj{g:Gnd}(h:zv g):1<=g.W*g.H/\g.W*g.H<=16384/\(g.T.length:Int)=g.W*g.H:=by have⟨⟨h1,h2⟩,⟨h3,h4⟩,h5,_⟩:=h;have:1*1<=g.W*g.H:=Fbo h1 h3 ψ θ;have:g.W*g.H<=128*128:=Fbo h2 h4 θ ψ;omega
section
variable {x r w:Int} {g:Gnd} {t:Nat}
theorem zbb{a b:Vc}(h1:-2305843009213693952<=a.1/\a.1<=2305843009213693952)(h2:-2305843009213693952<=a.2/\a.2<=2305843009213693952)(h3:-2305843009213693952<=b.1/\b.1<=2305843009213693952)(h4:-2305843009213693952<=b.2/\b.2<=2305843009213693952):
  jd a b=(a.1-b.1,a.2-b.2):=by
 have n:∀x:Int,-4611686018427387904<=x/\x<=4611686018427387904->nrm x=x:=λx hx=>by unfold nrm;omega
 have c:∀x:Int,-4611686018427387904<=x/\x<=4611686018427387904->Bj x=x:=λx hx=>by unfold Bj;omega
 grind[jd,qf,qs]
theorem zad(h:-4611686018427387904<=x/\x<=4611686018427387904):asz x*asz x=x*x:=by
 have n:nrm x=x:=by unfold nrm;omega
 grind[asz]
theorem o9{a b:Vc}(h1:-2305843009213693952<=a.1/\a.1<=2305843009213693952)(h2:-2305843009213693952<=a.2/\a.2<=2305843009213693952)(h3:-2305843009213693952<=b.1/\b.1<=2305843009213693952)(h4:-2305843009213693952<=b.2/\b.2<=2305843009213693952)(hr:0<r):
  near a b r=decide ((a.1-b.1)*(a.1-b.1)+(a.2-b.2)*(a.2-b.2)<r*r):=by
 unfold near sqr;rw[zbb h1 h2 h3 h4,zad θ,zad θ];grind
def I7(hg:zv g){t:Nat}(ht:(t:Int)<g.W*g.H):(0<=(t:Int)%g.W/\(t:Int)%g.W<g.W)/\(0<=(t:Int)/g.W/\(t:Int)/g.W<g.H):=by have⟨⟨h1,h2⟩,⟨h3,h4⟩,_⟩:=hg;have h5:=Fd3 (t:Int) (show g.W≠0 by omega);have h6:=Fdl (t:Int) (show 0<g.W by omega);have h7:0<=(t:Int)/g.W:=Fcz θ θ;have h8:(t:Int)/g.W<g.H:=Fed θ δ;omega
def Pt(hw:1<=w):(t:Int).tdiv w=(t:Int)/w:=Fbg θ
def Ps(hw:1<=w):(t:Int).tmod w=(t:Int)%w:=Fdt θ
def Pq(hg:zv g){t:Nat}(ht:(t:Int)<g.W*g.H):(0<=tx g t/\tx g t<=8323072)/\(0<=ty g t/\ty g t<=8323072):=by have:=I7 hg ht;have⟨⟨h1,h2⟩,⟨h3,h4⟩,_⟩:=hg;unfold tx ty;omega
def H3(x lo:Int):Int:=min2 (max2 x lo) (lo+65536)
theorem min2_eq(a b:Int):min2 a b=min a b:=by grind[min2]
theorem max2_eq(a b:Int):max2 a b=max a b:=by grind[max2]
theorem zjt(x lo:Int):H3 x lo=min (max x lo) (lo+65536):=by unfold H3;rw[min2_eq,max2_eq]
theorem zjs(x lo:Int):(x-H3 x lo)*(x-H3 x lo)=off x lo*off x lo:=by rw[zjt];unfold off;grind
def fz{lo:Int}(h:0<=lo/\lo<=8323072):0<=H3 x lo/\H3 x lo<=8388608:=by rw[zjt];omega
def yj3(hg:zv g){t:Nat}(ht:(t:Int)<g.W*g.H){p:Vc}(hp:jv p.1 p.2)(hr:0<r):
  near p (H3 p.1 (tx g t),H3 p.2 (ty g t)) r=decide (wz g t p r):=by
 have hb:=Pq hg ht;have h1:=fz (x:=p.1) hb.1;have h2:=fz (x:=p.2) hb.2;have⟨h3,h4⟩:=hp;rw[o9 θ θ θ θ hr];dsimp only;rw[zjs,zjs];rfl
def Wa{a:Int}(ha:0<=a)(hr:0<r)(h:a*a<r*r):a<r:=by apply Decidable.byContradiction;intro hn;have:r*r<=a*a:=Fbo θ θ θ ha;omega
end
section
variable {b:Nat} {P:Program} {c:Cfg} {A:Fr}
def Store.dO(st:Store)(b:Nat):Store:={st with obj:=λi=>bif Nat.beq i b then none else st.obj i}
theorem H0{st:Store}{b':Nat}{x:AObj}(h:(st.dO b).obj b'=some x):b'≠b/\st.obj b'=some x:=by have h:(bif Nat.beq b' b then none else st.obj b')=some x:=h;grind[Nat.beq_refl]
theorem AWp.freeze{code:Code}{Q:Exit->Fr->Store->Prop}{st:Store}{d n cap k:Nat}{rows:List (List AV)}{pad:List AV}
    (hA:A.t d=.av (.s (.slice (some ⟨b,0,none⟩) n cap))) (ho:st.obj b=some (.cells (rows.flatten++pad))) (ht:st.tok b=none) (hn:rows.length=n) (hcap:n<=cap)
    (hk:∀row∈rows,row.length=k) (hall:∀row∈rows,∀x∈row,∃v,x=AV.s v/\xe v=true)
    (h:AWp P c code Q (A.put d (.av (.lst k rows none))) (st.dO b)):AWp P c code Q A st:=by
  refine⟨λOth M a w ⟨β,sim⟩=>?_⟩;have hs:∀b' o,((M b' o/\b'≠b)\/Oth b' o)->(M b' o\/Oth b' o):=λ_ _ h=>h.imp (·.1) id;have sim':SimB c.N Oth β (A.put d (.av (.lst k rows none))) (st.dO b) (λb' o=>M b' o/\b'≠b) a w:=by
    refine{tsz:=sim.tsz,dfr:=sim.dfr.sub λ_ _ h=>h.1,tm:=λi=>?_,bx:=λj l hj=>⟨(sim.bx j l hj).1.mono hs,λo=>⟨(sim.bx j l hj).2 o,?_⟩⟩,inj:=sim.inj,sep:=λj b' hj hb'=>?_,sto:=?_}
    · by_cases hi:i=d
      · subst hi
        have e:(A.put i (.av (.lst k rows none))).t i=.av (.lst k rows none):=by show(bif Nat.beq i i then _ else A.t i)=_;simp
        rw[e];have h1:=sim.tm i;rw[hA]at h1;have h1:VRel w (λb o=>M b o\/Oth b o) (.s (.slice (some ⟨b,0,none⟩) n cap)) (a.tmps.getD i undef):=h1;generalize a.tmps.getD i undef=v at h1;cases h1;have⟨⟨cs,e0,fr,hb0,huf,hlen,hrel⟩,hM⟩:=sim.sto.obj b _ ho;subst hn;have at1:∀(i:Nat) (row:List AV) (j:Nat) (x:AV),rows[i]?=some row->row[j]?=some x->∃v,x=.s v/\xe v=true/\cs[i*k+j]?=some v:=by
          intro i row j x hi hj;obtain⟨v,rfl,hv⟩:=hall row (Fa4 hi) x (Fa4 hj);have h5:=Ku hk hi hj;have hlt:=(Fax.1 h5).1;have h6:(rows.flatten++pad)[i*k+j]?=some (.s v):=δ;have hlt2:i*k+j<cs.size:=δ;have h7:=hrel _ _ cs[i*k+j] h6 (by simp[hlt2]);have:cs[i*k+j]=v:=by generalize cs[i*k+j]=y at h7;cases h7;rfl
          grind
        refine VRel.lst rows none b 0 cap k (λp=>cs.getD p undef) hcap (λi row hi=>hk row (Fa4 hi)) (λ_ h=>ω) (λi row j x hi hj=>?_) (λi row j x hi hj=>?_) (λi row j x hi hj=>?_)
        · obtain⟨v,rfl,hv,h5⟩:=at1 i row j x hi hj
          refine⟨?_,?_⟩
          · simp_all[World.cell?]
          · rintro(⟨_,h⟩|h)
            · omega
            · exact sim.sto.dis _ _ h (hM _)
        · obtain⟨v,rfl,hv,h5⟩:=at1 i row j x hi hj
          simp_all
        · obtain⟨v,rfl,hv,h5⟩:=at1 i row j x hi hj
          rw[Fbm,h5];exact .s _
      · have e:(A.put d (.av (.lst k rows none))).t i=A.t i:=by
          show(bif Nat.beq i d then _ else A.t i)=_;grind[vw]
        rw[e];have h1:=sim.tm i;generalize A.t i=x at h1;cases x with
        |any=>trivial
        |und=>exact h1
        |av x=>exact VRel.mono hs h1
        |bx k off=>exact h1
    · exact sim.sep j b (λe=>by rw[show A.bx j=some l from hj]at e;cases e) (.inl δ)
    · refine sim.sep j b' hj ?_
      rcases hb' with hb'|hb'
      · cases hx:(st.dO b).obj b' with
        |none=>grind
        |some y=>grind[H0]
      · exact .inr hb'
    · exact { obj:=λb' y hy=>⟨(sim.sto.obj b' y (H0 hy).2).1.mono hs,λo=>⟨(sim.sto.obj b' y (H0 hy).2).2 o,(H0 hy).1⟩⟩
              tok:=λb' top htk=>ψ4
              mlt:=λb' o hm=>sim.sto.mlt b' o hm.1,olt:=sim.sto.olt,dis:=λb' o ho hm=>sim.sto.dis b' o ho hm.1}
  refine Code.wpF_mono ?_ (h.out Oth _ a w ⟨β,sim'⟩);rintro e a' w' ⟨A',st',M',h1,h2,h3⟩;exact⟨A',st',M',h1,h2,{size:=h3.size,keep:=λb' o hb hm=>h3.keep b' o hb λh=>hm h.1,blk:=λb' hb hm=>h3.blk b' hb λo h=>hm o h.1,shp:=h3.shp,sub:=λb' o hm hb=>(h3.sub b' o hm hb).1,tape:=h3.tape,os:=h3.os,output:=h3.output}⟩
def AWp.loopA{σ:Type}(H:LoopHead σ){b:Code}{Q:Exit->Fr->Store->Prop}{st:Store}(h0:H.at A st λ_=>True)
    (round:∀s st,H.inv s st->AWp P c b (zd3 H s Q) (Ik (H.t s) (H.bx s)) st):AWp P c (.loop b) Q A st:=by
  have⟨s0,_,hi0,ht0,hb0⟩:=h0;refine⟨λOth M a w sim=>?_⟩
  refine wpIn_loop_ghost (λn a' w'=>∃s st' M',H.μ s=n/\H.inv s st'/\Sim c.N Oth (Ik (H.t s) (H.bx s)) st' M' a' w'/\Chg M w M' w') (H.μ s0)
    ⟨s0,st,M,rfl,hi0,sim.fits ht0 hb0 (Store.Has.refl st),Chg.refl M w⟩ ?_
  rintro n a' w' ⟨s,st',M',rfl,hi,hsim,hchg⟩;refine Code.wpF_mono ?_ ((round s st' hi).out Oth M' a' w' hsim);rintro e a'' w'' ⟨A'',st'',M'',h1,h2,h3⟩;cases e with
  | normal=>
    have⟨s',hlt,hi',ht',hb'⟩:=h1;exact⟨H.μ s',hlt,s',st'',M'',rfl,hi',h2.fits ht' hb' (Store.Has.refl st''),hchg.trans h3⟩
  |_=>exact⟨A'',st'',M'',h1,h2,hchg.trans h3⟩
end
section
variable {g:Gnd} {n t i:Nat}
theorem tw{st:Store}{b:Nat}{x:AObj}(h:st.obj b=none):(st.sO b x).dO b=st:=by
 unfold Store.sO Store.dO
 congr 1
 funext i
 by_cases hi:i=b
 ·subst hi;simp[h]
 ·simp[y9 hi]
def Dd(W:Int)(b:Bld)(y k:Nat):List Int:=(List.range k).map λ(x:Nat)=>b.x+(x:Int)+W*(b.y+(y:Int))
def Dw(W:Int)(b:Bld)(k:Nat):List Int:=(List.range k).flatMap λy=>Dd W b y b.w.toNat
def Au(W:Int)(b:Bld):List Int:=Dw W b b.h.toNat
theorem zn6(W:Int)(b:Bld)(y k:Nat):Dd W b y (k+1)=Dd W b y k++[b.x+(k:Int)+W*(b.y+(y:Int))]:=by unfold Dd;rw[Fcw];simp
theorem lk(W:Int)(b:Bld)(k:Nat):Dw W b (k+1)=Dw W b k++Dd W b k b.w.toNat:=by unfold Dw;rw[Fcw];simp
theorem zb4(W:Int)(b:Bld)(y k:Nat):(Dd W b y k).length=k:=by unfold Dd;simp
theorem ln(W:Int)(b:Bld)(k:Nat):(Dw W b k).length=k*b.w.toNat:=by
 induction k with
 |zero=>simp[Dw]
 |succ k ih=>rw[lk,Fac,ih,zb4,Fd1]
def lr(W:Int){b:Bld}(hb:qh b):(Au W b).length<=16:=by unfold Au;rw[ln];unfold qh at hb;have:b.h.toNat*b.w.toNat<=4*4:=Fde θ θ;omega
def Pv(hg:zv g){x y:Int}(hx:0<=x/\x<g.W)(hy:0<=y/\y<g.H):
  0<=x+g.W*y/\x+g.W*y<g.W*g.H/\(x+g.W*y)%g.W=x/\(x+g.W*y)/g.W=y:=by
 have⟨⟨h1,h2⟩,⟨h3,h4⟩,_⟩:=hg;have a1:0<=g.W*y:=Fa8 θ hy.1;have a2:g.W*y<=g.W*(g.H-1):=Fdd θ θ;have a3:g.W*(g.H-1)=g.W*g.H-g.W:=by rw[Int.mul_sub,Int.mul_one]
 refine⟨θ,θ,?_,?_⟩
 ·rw[Int.add_mul_emod_self_left];exact Fet hx.1 hx.2
 ·rw[Int.add_mul_ediv_left _ _ θ,Fd5 hx.1 hx.2];omega
theorem Il(hg:zv g){b:Bld}(hb:qh b)(ho:onP g b)(t:Int):t∈Au g.W b↔∃n:Nat,t=(n:Int)/\(n:Int)<g.W*g.H/\Ff g b n:=by
 have hb':=hb;have ho':=ho;unfold qh at hb';unfold onP at ho';unfold Au Dw Dd;rw[List.mem_flatMap];constructor
 ·rintro⟨y,hy,hx⟩;obtain⟨x,hx2,rfl⟩:=Fag.1 hx;have hy:=Fbj.1 hy;have hx:=Fbj.1 hx2;have⟨q1,q2,q3,q4⟩:=Pv hg (x:=b.x+x) (y:=b.y+y) θ θ;refine⟨(b.x+(x:Int)+g.W*(b.y+(y:Int))).toNat,θ,θ,?_⟩;unfold Ff;rw[show(((b.x+(x:Int)+g.W*(b.y+(y:Int))).toNat:Nat):Int)=b.x+(x:Int)+g.W*(b.y+(y:Int)) by omega,q3,q4];omega
 ·rintro⟨n,rfl,hn,hh⟩;unfold Ff at hh;refine⟨((n:Int)/g.W-b.y).toNat,Fbj.2 θ,Fag.2 ⟨((n:Int)%g.W-b.x).toNat,Fbj.2 θ,?_⟩⟩;have:=Fec (n:Int) g.W;rw[show(((n:Int)%g.W-b.x).toNat:Int)=(n:Int)%g.W-b.x by omega,show(((n:Int)/g.W-b.y).toNat:Int)=(n:Int)/g.W-b.y by omega];rw[show b.x+((n:Int)%g.W-b.x)=(n:Int)%g.W by omega,show b.y+((n:Int)/g.W-b.y)=(n:Int)/g.W by omega];exact this
def bl(n:Nat)(f:Nat->Bool):List AV:=(List.range n).map λt=>bool (f t)
theorem Fk(n:Nat)(f:Nat->Bool):(bl n f).length=n:=by simp[bl]
theorem Ky{f:Nat->Bool}(h:t<n):(bl n f)[t]?=some (bool (f t)):=by simp[bl,h]
theorem f8(n:Nat):List.replicate n (AV.s (.bool false))=bl n λ_=>false:=by unfold bl;rw[List.map_const',Fcd];rfl
theorem Pa{f:Nat->Bool}(h:t<n)(g:Nat->Bool)(hg:∀s,s≠t->g s=f s):zq (bl n f) t [bool (g t)]=bl n g:=by
 unfold zq;apply Fb4;intro s;by_cases h1:s<t
 ·rw[Fas,Fa5 (by rw[Fai,Fk];omega),Fcg h1,Ky θ,Ky θ,hg s θ]
 ·by_cases h2:s=t
  ·subst h2;rw[Fas,Fa7 (by rw[Fai,Fk];omega),Fai,Fk,show s-min s n=0 by omega,Ky h];rfl
  ·rw[Fa7 (by rw[Fac,Fai,Fk];simp;omega),Fac,Fai,Fk,Fbq];by_cases h3:s<n
   ·have e:t+[bool (g t)].length+(s-(min t n+[bool (g t)].length))=s:=χ;rw[e,Ky h3,Ky h3,hg s h2]
   ·rw[Fbe (by rw[Fk];simp;omega),Fbe θp]
def wj(g:Gnd)(l:List Bld)(i:Nat)(ts:List Int)(k:Nat)(t:Nat):Bool:=xo g (l.take i) t||(ts.take k).contains (t:Int)
def zi7(g:Gnd)(l:List Bld)(i:Nat)(ts:List Int)(t:Nat):wj g l i ts 0 t=xo g (l.take i) t:=by simp[wj]
def zi8{l:List Bld}{ts:List Int}{k n:Nat}(hk:k<ts.length)(hn:ts[k]=(n:Int)):
  wj g l i ts (k+1) n=true/\∀s,s≠n->wj g l i ts (k+1) s=wj g l i ts k s:=by
 unfold wj;rw[Fad hk,hn];refine⟨φ,λs hs=>?_⟩;rw[List.contains_append];have:[((n:Nat):Int)].contains (s:Int)=false:=χ;rw[this,Bool.or_false]
def zi9(hg:zv g){l:List Bld}(hi:i<l.length)(hb:qh l[i]/\onP g l[i])(ht:t<g.T.length):
  wj g l i (Au g.W l[i]) (Au g.W l[i]).length t=xo g (l.take (i+1)) t:=by
 have ha:=xj hg;unfold wj xo;rw[Faj,Fad hi,List.any_append]
 congr 1
 rw[Fb9,List.contains_iff_mem,Il hg hb.1 hb.2];simp only[List.any_cons,List.any_nil,Bool.or_false,decide_eq_true_eq];constructor
 ·rintro⟨n,h1,_,h2⟩;have:n=t:=θ;subst this;exact h2
 ·intro h;exact⟨t,rfl,θ,h⟩
def qu(b:Bool):List AV:=[bool b]
def blL(n:Nat)(f:Nat->Bool):List Bool:=(List.range n).map f
theorem H6(n:Nat)(f:Nat->Bool):(blL n f).length=n:=by simp[blL]
theorem Kz{f:Nat->Bool}(h:t<n):(blL n f)[t]'(by rw[H6];exact h)=f t:=by simp[blL]
theorem ytn(n:Nat)(f:Nat->Bool):(rws qu (blL n f)).flatten=bl n f:=by
 unfold rws blL bl qu;induction List.range n with
 |nil=>rfl
 |cons a l ih=>simp at ih⊢;exact ih
def ytp{f:Nat->Bool}(h:t<n):(rws qu (blL n f))[t]?=some (qu (f t)):=by unfold rws blL;simp[h]
end
section
variable {g:Gnd}
theorem zn5(W:Int)(b:Bld)(y k:Nat):(Dd W b y k).Pairwise (·<·):=by grind[Dd,List.pairwise_lt_range]
def zn1{W:Int}{b:Bld}(hW:1<=W)(hx:0<=b.x/\b.x+b.w<=W)(hw:1<=b.w)(k:Nat):(Dw W b k).Pairwise (·<·)/\∀t∈Dw W b k,t<W*(b.y+(k:Int)):=by
 induction k with
 |zero=>simp_all[Dw]
 |succ k ih=>
  rw[lk];have hrow:∀t∈Dd W b k b.w.toNat,W*(b.y+(k:Int))<=t/\t<W*(b.y+(k:Int))+W:=by intro t ht;obtain⟨x,hx2,rfl⟩:=Fag.1 ht;grind
  have e:W*(b.y+((k+1:Nat):Int))=W*(b.y+(k:Int))+W:=δ;grind[zn5]
def zn2(hg:zv g){b:Bld}(hb:qh b/\onP g b):(Au g.W b).Pairwise (·<·):=by unfold qh onP at hb;exact(zn1 hg.1.1 hb.2.1 θ _).1
theorem yjp{l:List Int}(h:l.Pairwise (·<·)){k:Nat}(hk:k<l.length):l[k]∉l.take k:=by grind[List.getElem_of_mem,List.pairwise_iff_getElem]
theorem zf9(hg:zv g){a b:Bld}(ha:qh a/\onP g a)(hb:qh b/\onP g b):Bb a b↔∃t:Nat,(t:Int)<g.W*g.H/\Ff g a t/\Ff g b t:=by
 unfold qh onP at ha hb;unfold Bb;constructor
 ·intro h;have⟨q1,q2,q3,q4⟩:=Pv hg (x:=max a.x b.x) (y:=max a.y b.y) θ θ;refine⟨(max a.x b.x+g.W*max a.y b.y).toNat,θ,?_⟩;grind[Ff]
 grind[Ff]
def covB_iff{l:List Bld}{t:Nat}:xo g l t=true↔∃b∈l,Ff g b t:=by grind[xo]
def uw(g:Gnd)(l:List Bld)(i:Nat):Prop:=∀j,(h:j<l.length)->j<i->(qh l[j]/\onP g l[j]/\Hw g l[j])/\∀k,(hk:k<j)->¬Bb l[j] (l[k]'θ)
def ytb{l:List Bld}(h:uw g l l.length):(∀b∈l,qh b/\onP g b/\Hw g b)/\gk l:=by refine⟨λb hb=>?_,λj hj k hk=>(h j hj hj).2 k hk⟩;obtain⟨j,hj,rfl⟩:=Faf hb;exact(h j hj hj).1
def yr2(hg:zv g){l:List Bld}{i:Nat}(hi:i<l.length)(hb:qh l[i]/\onP g l[i])(hup:uw g l i):
  (∃t∈Au g.W l[i],xo g (l.take i) t.toNat=true)↔∃k,∃hk:k<i,Bb l[i] (l[k]'θ):=by
 constructor
 ·rintro⟨t,ht,hc⟩;obtain⟨n,rfl,hn,hh⟩:=(Il hg hb.1 hb.2 t).1 ht;rw[Fbc]at hc;have⟨b,hb2,hh2⟩:=covB_iff.1 hc;obtain⟨k,hk,rfl⟩:=Faf hb2;rw[Fai]at hk;rw[Fdr]at hh2;have:=(hup k θ θ).1;grind[zf9]
 ·rintro⟨k,hk,hm⟩;have:=(hup k θ θ).1;have⟨n,hn,h1,h2⟩:=(zf9 hg hb ⟨this.1,this.2.1⟩).1 hm;refine⟨(n:Int),(Il hg hb.1 hb.2 _).2 ⟨n,rfl,hn,h1⟩,?_⟩;rw[Fbc];refine covB_iff.2 ⟨l[k],?_,h2⟩;have:(l.take i)[k]'δ=l[k]:=Fdr;grind
end
end Go.V
namespace Go.V
def dm{g:Gnd}{t:Nat}{p:Vc}{r:Int}(hr:0<r)(h:wz g t p r):
  (tx g t<p.1+r/\p.1-r<tx g t+65536)/\(ty g t<p.2+r/\p.2-r<ty g t+65536):=by
 unfold wz at h;have n:∀x lo:Int,0<=off x lo:=λx lo=>by grind[off]
 have a:=Wa (n p.1 (tx g t)) hr (by have:=Fa8 (n p.2 (ty g t)) (n p.2 (ty g t));omega);have b:=Wa (n p.2 (ty g t)) hr (by have:=Fa8 (n p.1 (tx g t)) (n p.1 (tx g t));omega);grind[off]
section
variable {P:Program} {c:Cfg}
def xf{ops:Array Oper}{o:Oper}{A:Fr}{go skip:Fr->Prop}(hg:o.guard=none)(h:go A):Kr ops o A go skip:=by unfold Kr;grind
def q9{o:Oper}{t:TypeId}{a x:Operand}{K:Fr->Store->Prop}{A:Fr}{st:Store}{i:TI}{v:AV}(ho:o.op=.store t a x)(hd:o.dst=none)(hi:c.I t=some i)(hx:A.ev x=.av v)(h:Dx i A st (A.ev a) v K):Fp P c o K A st:=by unfold Fp;rw[ho];show Hb P c o K A st;simp_all[Hb,za]
end
def zf5{A:Int}{m:Nat}(h:(m:Int)<A):A.toNat-(m+1)<A.toNat-m:=θ
theorem uo(a:Int)(m:Nat):a+((m+1:Nat):Int)=a+(m:Int)+1:=θ
def cx{A x:Int}{m:Nat}(h:x+(m:Int)<A):((m+1:Nat):Int)<=A-x:=θ
def O7(g:Gnd)(l:List Bld)(c:Int)(p:Vc)(r y:Int):Prop:=∀t,t<g.T.length->(t:Int)/g.W<y->qd g l c t=false->¬wz g t p r
def Sv(g:Gnd)(l:List Bld)(c:Int)(p:Vc)(r y x:Int):Prop:=∀t,t<g.T.length->(t:Int)/g.W=y->(t:Int)%g.W<x->qd g l c t=false->¬wz g t p r
def ysp{g:Gnd}{l:List Bld}{c:Int}{p:Vc}{r:Int}(hr:0<r)(hp:0<=p.2-r):O7 g l c p r ((p.2-r)/65536):=by intro t _ hy _ hh;have:=(dm hr hh).2;grind[ty]
def yss{g:Gnd}{l:List Bld}{c:Int}{p:Vc}{r y:Int}(hr:0<r)(hp:0<=p.1-r):Sv g l c p r y ((p.1-r)/65536):=by intro t _ _ hx _ hh;have:=(dm hr hh).1;grind[tx]
def yst{g:Gnd}(hg:zv g){l:List Bld}{c:Int}{p:Vc}{r y x:Int}(hr:0<r)(hp:0<=p.1+r)(hx:¬(x<=(p.1+r)/65536)\/¬(x<g.W))(hu:O7 g l c p r y)(h:Sv g l c p r y x):O7 g l c p r (y+1):=by
 intro t ht hy ho hh;by_cases e:(t:Int)/g.W=y
 ·by_cases e2:(t:Int)%g.W<x
  ·exact h t ht e e2 ho hh
  ·have h1:=(dm hr hh).1;have h2:=(I7 hg (t:=t) (by have:=(xj hg).2.2;omega)).1;grind[tx]
 ·exact hu t ht θ ho hh
def ysq{g:Gnd}(hg:zv g){l:List Bld}{c:Int}{p:Vc}{r y:Int}(hr:0<r)(hp:0<=p.2+r)(hy:¬(y<=(p.2+r)/65536)\/¬(y<g.H))(hu:O7 g l c p r y):∀t,t<g.T.length->qd g l c t=false->¬wz g t p r:=by
 intro t ht ho hh;by_cases e:(t:Int)/g.W<y
 ·exact hu t ht e ho hh
 ·have h1:=(dm hr hh).2;have h2:=(I7 hg (t:=t) (by have:=(xj hg).2.2;omega)).2;grind[ty]
def ysr{g:Gnd}(hg:zv g){l:List Bld}{c:Int}{p:Vc}{r y x:Int}(hx:0<=x/\x<g.W)(hy:0<=y/\y<g.H)(h:Sv g l c p r y x)(hn:qd g l c (x+g.W*y).toNat=false->¬wz g (x+g.W*y).toNat p r):Sv g l c p r y (x+1):=by
 intro t ht e1 e2 ho;by_cases e:(t:Int)%g.W<x
 ·exact h t ht e1 e ho
 ·have e3:(t:Int)%g.W=x:=θ;have q:=Fec (t:Int) g.W;grind
def zhh{F N S:Store}(hd:zj F N):((F.un N).un S).Has (F.un S):=by
 refine⟨λb y h=>?_,λb x h=>?_⟩
 ·rcases zbr h with h1|⟨h1,h2⟩
  ·exact zg h1
  ·have h3:(F.un N).obj b=some y:=yf hd h2;show(match S.obj b with|some y=>some y|none=>(F.un N).obj b)=some y;rw[h1];exact h3
 ·rcases zbq h with h1|⟨h1,h2⟩
  ·exact Ft h1
  ·have h3:(F.un N).tok b=some x:=K7 hd h2;show(match S.tok b with|some y=>some y|none=>(F.un N).tok b)=some x;rw[h1];exact h3
def Hd{l:List Unt}(hr:yl l){a b:Nat}(hab:a<b)(hb:b<l.length):(l[a]'θ).id<l[b].id:=by
 induction b with
 |zero=>omega
 |succ b ih=>
  have h3:=hr (b+1) hb θ;simp only[Fdk]at h3;by_cases e:a=b
  ·subst e;exact h3
  ·have:=ih θ θ;omega
theorem Ls{l:List Unt}(hr:yl l){u v:Unt}(hu:u∈l)(hv:v∈l)(h:u.id=v.id):u=v:=by
 obtain⟨a,ha,rfl⟩:=Faf hu;obtain⟨b,hb,rfl⟩:=Faf hv;rcases Nat.lt_trichotomy a b with q|q|q
 ·have:=Hd hr q hb;omega
 ·subst q;rfl
 ·have:=Hd hr q ha;omega
def F4(w:Wld)(L:List Ent):Prop:=∀e,e∈L↔∃u∈w.U,u.inn=0/\e=(u.id,u.pos)
def Lx{w:Wld}{L:List Ent}(h:F4 w L)(hn:∀u∈w.U,u.pos.ok):∀e∈L,e.2.ok:=λe he=>by obtain⟨u,hu,_,rfl⟩:=(h e).1 he;exact hn u hu
def L8(w:Wld)(p:Vc)(r:Int)(us:List Unt):Prop:=∀u,u∈us↔(u∈w.U/\u.inn=0)/\near p u.pos r=true
def zfq{w:Wld}{L:List Ent}(hr:yl w.U)(hL:F4 w L){p:Vc}{r:Int}{ns:List Int}(hn:Vh L p r ns){us:List Unt}(h1:us.map (·.id)=ns)(h2:∀u∈us,u∈w.U/\u.inn=0):L8 w p r us:=by
 intro u;constructor
 ·intro hu;refine⟨h2 u hu,?_⟩;have:u.id∈ns:=by rw[<-h1];exact Fag.2 ⟨u,hu,rfl⟩
  have⟨e,he,h3,h4⟩:=(hn.2 _).1 this;obtain⟨v,hv,_,rfl⟩:=(hL e).1 he;rw[Ls hr (h2 u hu).1 hv h3.symm];exact h4
 ·rintro⟨⟨h3,h4⟩,h5⟩;have:u.id∈ns:=(hn.2 _).2 ⟨(u.id,u.pos),(hL _).2 ⟨u,h3,h4,rfl⟩,rfl,h5⟩;rw[<-h1]at this;have⟨v,hv,h6⟩:=Fag.1 this;rw[Ls hr h3 (h2 v hv).1 h6.symm];exact hv
theorem Gv(k:Int):0<z6 k/\z6 k<=81920:=by unfold z6;split<;>(try split)<;>omega
def R9(k:Int):qp k=0\/qp k=1\/qp k=2:=by unfold qp;split<;>(try split)<;>(try split)<;>omega
theorem zfp{a b:Vc}{r r':Int}(h:r<=r')(hn:near a b r=true):near a b r'=true:=by unfold near at*;rw[decide_eq_true_iff]at*;have:r*r<=r'*r':=Fbo h h θ θ;omega
def zjq{w:Wld}{id k:Int}{q:Vc}{us:List Unt}(hf:Fh w.G w.B (qp k) q (z6 k))(hus:L8 w q (z6 k+81920) us):
  xz w id k q↔∀u∈us,u.id≠id->Bz q (z6 k) u.pos (z6 u.kind)=true:=by
 constructor
 ·intro h u hu hne;have:=(hus u).1 hu;exact h.2 u this.1.1 this.1.2 hne
 ·intro h;refine⟨hf,λu hu h0 hne=>?_⟩;unfold Bz;cases hc:near q u.pos (z6 k+z6 u.kind)with
  |false=>rfl
  |true=>
   have h1:=zfp (r':=z6 k+81920) (by have:=Gv u.kind;omega) hc;have:=h u ((hus u).2 ⟨⟨hu,h0⟩,h1⟩) hne;unfold Bz at this;rw[hc]at this;exact this
end Go.V
namespace Go.V
def yv{α:Type}(f:α->AV)(e:Int×α):AV×AV:=(int e.1,f e.2)
def yx{α:Type}(cs:List (Int×α))(k:Int):Option α:=(cs.find? λe=>k==e.1).map (·.2)
def yr{α:Type}:List (Int×α)->Int->α->List (Int×α)
 |[],k,v=>[(k,v)]
 |e::l,k,v=>if k==e.1 then(k,v)::l else e::yr l k v
theorem sy{α:Type}(f:α->AV)(cs:List (Int×α))(k:Int):(cs.map (yv f)).find? (qA k)=(cs.find? λe=>k==e.1).map (yv f):=by rw[List.find?_map];rfl
theorem Io{α:Type}(f:α->AV)(cs:List (Int×α))(k:Int)(z:AV):Gt false z ((cs.map (yv f)).find? (qA k))=((yx cs k).map f).getD z:=by
 rw[sy];unfold yx;cases cs.find? λe=>k==e.1 with
 |none=>rfl
 |some e=>rfl
def zeo{α:Type}(f:α->AV)(k:Int)(v:α):∀cs:List (Int×α),
  (match(cs.map (yv f)).findIdx? (qA k)with|some i=>(cs.map (yv f)).set i (int k,f v)|none=>cs.map (yv f)++[(int k,f v)])=(yr cs k v).map (yv f)
 |[]=>rfl
 |e::l=>by
  have ih:=zeo f k v l;rw[Fci,List.findIdx?_cons];unfold yr;by_cases h:k==e.1
  ·have h2:qA k (yv f e)=true:=h;rw[h2];simp only[h,if_true,List.set_cons_zero,Fci];rfl
  ·have h:(k==e.1)=false:=by simpa using h
   have h2:qA k (yv f e)=false:=h;rw[h2];simp only[h,if_false,Fci];cases hx:(l.map (yv f)).findIdx? (qA k)with
   |none=>rw[hx]at ih;simp at ih⊢;exact ih
   |some i=>rw[hx]at ih;simp at ih⊢;exact ih
def Mc{α:Type}(f:α->AV)(cs:List (Int×α))(bs:List Nat)(clk:Nat)(k:Int)(v:α):∃bs' clk',wd (cs.map (yv f)) bs clk (qA k) (int k) (f v)=.map ((yr cs k v).map (yv f)) bs' clk':=by
 have h:=zeo f k v cs;unfold wd;cases hx:(cs.map (yv f)).findIdx? (qA k)with
 |none=>rw[hx]at h;exact⟨_,_,by rw[<-h]⟩
 |some i=>rw[hx]at h;exact⟨_,_,by rw[<-h]⟩
theorem Dr{α:Type}(k:Int)(v:α)(j:Int):∀cs:List (Int×α),yx (yr cs k v) j=if j=k then some v else yx cs j
 |[]=>by unfold yr yx;by_cases h:j=k<;>simp[h]
 |e::l=>by
  have ih:=Dr k v j l;unfold yx at ih⊢;by_cases h:k=e.1
  ·have h1:(k==e.1)=true:=by simpa using h
   rw[show yr (e::l) k v=(k,v)::l by unfold yr;simp[h1]];by_cases h2:j=k
   ·simp[h2]
   ·have e1:(j==k)=false:=by simpa using h2
    have e2:(j==e.1)=false:=by rw[<-h];exact e1
    rw[List.find?_cons,List.find?_cons,if_neg h2];simp only[e1,e2]
  ·have h1:(k==e.1)=false:=by simpa using h
   rw[show yr (e::l) k v=e::yr l k v by rw[yr];simp[h1]];rw[List.find?_cons,List.find?_cons];by_cases h2:j=e.1
   ·have e1:(j==e.1)=true:=by simpa using h2
    simp only[e1];rw[if_neg θ]
   ·have e1:(j==e.1)=false:=by simpa using h2
    simp only[e1];exact ih
end Go.V
namespace Go.V
theorem Sc{l:List Unt}{i:Nat}(hi:i<l.length)(id:Int):((ya (l.take (i+1)) id).length:Int)=((ya (l.take i) id).length:Int)+(if l[i].inn=id then 1 else 0):=by
 unfold ya;rw[Fad hi,Fca,Fav,Fac];by_cases h:l[i].inn=id
 ·simp[h]
 ·simp[h]
def rt{l:List Unt}(i:Nat)(id:Int):(ya (l.take i) id).length<=(ya l id).length:=by
 have h:(ya l id).length=(ya (l.take i) id).length+(ya (l.drop i) id).length:=by unfold ya;rw[<-Fac,<-Fav,<-Fca,Fbu]
 omega
def mw(w:Wld)(i:Nat):Prop:=
 (∀j,(h:j<w.U.length)->j<i->w.U[j].inn≠0->∃x∈w.U,x.id=w.U[j].inn/\(x.inn=0/\x.owner=w.U[j].owner)/\ko w.U[j].kind=0/\w.U[j].pos=(0,0)/\w.U[j].goal=-1/\w.U[j].state=0)∧
 ∀x∈w.U,x.id≠0->((ya (w.U.take i) x.id).length:Int)<=ko x.kind
def yg6{w:Wld}(h:mw w w.U.length):∀u∈w.U,u.inn≠0->Hf w u:=by intro u hu hne;obtain⟨j,hj,rfl⟩:=Faf hu;have⟨x,hx,h1,h2,h3,h4,h5,h6⟩:=h.1 j hj hj hne;have:=h.2 x hx (by rw[h1];exact hne);rw[Faj,h1]at this;exact⟨x,hx,h1,h2,this,h3,h4,h5,h6⟩
theorem R8(k:Int):0<=ko k/\ko k<=4:=by unfold ko;split<;>(try split)<;>(try split)<;>omega
end Go.V
namespace Go.V
def K6(w:Wld)(i:Nat):Prop:=∀j,(h:j<w.U.length)->j<i->(vi w w.U[j]/\∀b∈w.B,b.id≠w.U[j].id)/\(0<j->(w.U[j-1]'θ).id<w.U[j].id)
def zmx{w:Wld}(h:K6 w w.U.length):Pm w:=by refine⟨λj hj h0=>(h j hj hj).2 h0,λu hu=>?_⟩;obtain⟨j,hj,rfl⟩:=Faf hu;exact(h j hj hj).1
def zmw{w:Wld}(h:Pm w)(i:Nat):K6 w i:=λj hj _=>⟨h.2 _ (Faa hj),h.1 j hj⟩
end Go.V
namespace Go.V
def RowsO{α:Type}(k:Nat)(f:α->List AV)(st:Store)(v:AV)(l:List α):Prop:=
 (v=.s (.slice none 0 0)/\l=[])\/∃b cap L,v=.s (.slice (some ⟨b,0,none⟩) l.length cap)/\st.obj b=some (.cells ((rws f l).flatten++L))/\l.length<=cap/\cap*k<=l.length*k+L.length/\cap<=9223372036854775807
section
variable {α:Type} {f:α->List AV} {k:Nat}
theorem qc(hf:∀x,(f x).length=k)(l:List α):(rws f l).flatten.length=l.length*k:=by
 induction l with
 |nil=>simp[rws]
 |cons a l ih=>
  show(f a++(rws f l).flatten).length=(l.length+1)*k;rw[Fac,hf,ih,Fd1];omega
theorem Gm(a b:List α):(rws f (a++b)).flatten=(rws f a).flatten++(rws f b).flatten:=by rw[<-Ke,Fc4]
theorem Wj{l:List α}{i:Nat}(hi:i<l.length):(rws f l).flatten=(rws f (l.take i)).flatten++(f l[i]++(rws f (l.drop (i+1))).flatten):=by
 have e:l=l.take i++(l[i]::l.drop (i+1)):=by rw[<-Fcl hi,Fbu]
 have e2:(rws f (l[i]::l.drop (i+1))).flatten=f l[i]++(rws f (l.drop (i+1))).flatten:=rfl;rw[<-e2,<-Gm,<-e]
theorem yat{X Y ys:List AV}{j:Nat}(h:j+ys.length<=X.length):zq (X++Y) j ys=zq X j ys++Y:=by unfold zq;rw[Fcn θ,List.drop_append_of_le_length θ];simp only[Fas]
def l9(hf:∀x,(f x).length=k){l:List α}{i j:Nat}(hi:i<l.length){x':α}{ys L:List AV}(hj:j+ys.length<=k)(hx:f x'=zq (f l[i]) j ys):
  zq ((rws f l).flatten++L) (i*k+j) ys=(rws f (l.set i x')).flatten++L:=by
 have h1:(rws f (l.take i)).flatten.length=i*k:=by rw[qc hf,Fai,Fdm θ]
 have hi2:i<(l.set i x').length:=by rw[Fak];exact hi
 rw[Wj hi,Wj hi2,Fas,Fas,<-h1,zcx];have e1:(l.set i x').take i=l.take i:=by rw[List.take_set_of_le (Fah i)]
 have e2:(l.set i x').drop (i+1)=l.drop (i+1):=by rw[List.drop_set_of_lt θ]
 rw[e1,e2,Fcx,hx];have h3:=hf l[i];rw[Fas,yat θ];simp only[Fas]
theorem RowsO.un{a g:Store}{v:AV}{l:List α}(h:RowsO k f g v l):RowsO k f (a.un g) v l:=by
 rcases h with h|⟨b1,cap,L,h1,h2,h3⟩
 ·exact .inl h
 ·exact .inr ⟨b1,cap,L,h1,zg h2,h3⟩
def RowsO.unL{a g:Store}{v:AV}{l:List α}(h:RowsO k f a v l)(hd:zj a g):RowsO k f (a.un g) v l:=by
 rcases h with h|⟨b1,cap,L,h1,h2,h3⟩
 ·exact .inl h
 ·exact .inr ⟨b1,cap,L,h1,yf hd h2,h3⟩
theorem RowsO.at{st:Store}{v:AV}{l:List α}(h:RowsO k f st v l){i:Nat}(hi:i<l.length):
  ∃b cap L,v=.s (.slice (some ⟨b,0,none⟩) l.length cap)/\st.obj b=some (.cells ((rws f l).flatten++L))/\l.length<=cap/\cap*k<=l.length*k+L.length/\cap<=9223372036854775807:=by
 rcases h with⟨_,rfl⟩|h
 ·exact absurd hi (Fa3 i)
 ·exact h
def RowsO.borrow{st:Store}{v:AV}{l:List α}(hf:∀x,(f x).length=k)(hs:∀x,∀y∈f x,∃u,y=AV.s u/\xe u=true)(hv:RowsO k f st v l){Oth M:BB}{w:World}(sto:StoreOK st Oth M w){x:Value}(hx:VRel w (λb o=>M b o\/Oth b o) v x):
  VRel w (λb o=>(M b o\/Oth b o)/\st.obj b=none) (lst k f l) x:=by
 rcases hv with⟨rfl,rfl⟩|⟨b,cap,L,rfl,ho,h1,h2,h3⟩
 ·cases hx;exact AV.le_nil k _ _ _ (.s _)
 ·cases hx
  exact zkb (sto.obj b _ ho).1 (λo hT=>ψr) (zi l) h1
   (λrow hr=>by obtain⟨n,_,rfl⟩:=Fag.1 hr;exact hf n) (λrow hr y hy=>by obtain⟨n,_,rfl⟩:=Fag.1 hr;exact hs n y hy)
def yt4{P:Program}{c:Cfg}{e:TypeId}{ie:TI}(hie:c.I e=some ie)(hf:∀x,(f x).length=ie.size)(hby:ie.bytes<=1000){st:Store}{v:AV}{l:List α}(hv:RowsO ie.size f st v l)(x:α){src:AV}(hsrc:kh ie.size (.av src)=some [f x])(hlen:l.length<=1000000000){K:Ja}
  (h:∀b cap L,(Fresh st b\/∃c0,v=.s (.slice (some ⟨b,0,none⟩) l.length c0))->(l++[x]).length<=cap->cap*ie.size<=(l++[x]).length*ie.size+L.length->cap<=9223372036854775807->
   K (.s (.slice (some ⟨b,0,none⟩) (l++[x]).length cap)) (st.sO b (.cells ((rws f (l++[x])).flatten++L)))):appendK P c st e (.av v) (.av src) K:=by
 refine⟨.inr ⟨v,_,rfl,rfl,?_⟩⟩;have hl:(l++[x]).length=l.length+1:=φ;have hfl:=qc hf l;have hmul:(l.length+1)*ie.bytes<=1000000001*1000:=Fde θ hby;have happ:(rws f (l++[x])).flatten=(rws f l).flatten++f x:=by rw[Gm];show _++(f x++[])=_;rw[Fbi]
 rcases hv with⟨rfl,rfl⟩|⟨b,cap,L,rfl,ho,h1,h2,h3⟩
 ·refine zkw hie hsrc ⟨by simp at hmul⊢;omega,φ⟩ φ (λb' cap' hb hc hc2=>?_);have:=h b' cap' (List.replicate ((cap'-[f x].length)*ie.size) .any) (.inl hb) (by simpa using hc) (by
   simp only[Faz,Fdo,Fan,<-Fb8];exact Fa2 _ θ) hc2
  exact this
 ·refine Vd hie (cap:=cap) ho (by rw[Fac,hfl];exact h2) h1 hsrc ⟨χ,χ⟩ (λhc=>?_) (λhc b' cap' hb hc1 hc2=>?_)
  ·have hc:l.length+1<=cap:=hc;have hcm:(l.length+1)*ie.size<=cap*ie.size:=Fa2 _ hc;rw[Fd1]at hcm;have e1:zq ((rws f l).flatten++L) (l.length*ie.size) [f x].flatten=(rws f (l++[x])).flatten++L.drop ie.size:=by
    rw[wu hfl,happ];simp[hf x]
   have:=h b cap (L.drop ie.size) (.inr ⟨cap,rfl⟩) θ (by rw[hl,Fd1,Fbk];omega) h3;rw[hl,<-e1]at this;exact this
  ·have hc1:l.length+1<=cap':=hc1;have e1:((rws f l).flatten++L).take (l.length*ie.size)++[f x].flatten++List.replicate ((cap'-(l.length+1))*ie.size) .any=(rws f (l++[x])).flatten++List.replicate ((cap'-(l.length+1))*ie.size) .any:=by
    rw[Fcn θ,Fck θ,happ];simp
   have:=h b' cap' (List.replicate ((cap'-(l.length+1))*ie.size) .any) (.inl hb) θ (by rw[hl,Faz,<-Fb8];exact Fa2 _ θ) hc2;rw[hl,<-e1]at this;exact this
end
theorem Cy(u:Unt):(zm u).length=10:=rfl
def ip(u:Unt):∀y∈zm u,∃x,y=AV.s x/\xe x=true:=by intro y hy;simp[zm]at hy;rcases hy with rfl|rfl|rfl|rfl|rfl|rfl|rfl|rfl|rfl|rfl<;>exact⟨_,rfl,rfl⟩
def jh(w:Wld)(v:AV):List AV:=[int w.tick,int w.players,int w.next,int w.G.W,int w.G.H,qa w.G.T,lst 6 zl w.B,v]
def Ig{l:List Unt}(hr:yl l){a b:Nat}(hab:a<b)(hb:b<l.length):(l[a]'θ).id<l[b].id:=by
 induction b with
 |zero=>omega
 |succ b ih=>
  have h3:=hr (b+1) hb θ;simp only[Fdk]at h3;by_cases e:a=b
  ·subst e;exact h3
  ·have:=ih θ θ;omega
def k8{i:TI}{A:Fr}{st:Store}{b o:Nat}{v:AV}{xs l:List AV}{K:Fr->Store->Prop}(hc:cellsOf v=some xs)(h1:xs.all AV.one=true)(hi:i.size=xs.length)(ho:st.obj b=some (.cells l))(hl:o+xs.length<=l.length)
  (hk:K A (st.sO b (.cells (zq l o xs)))):Dx i A st (.av (.s (.pointer (some ⟨b,o,none⟩)))) v K:=by
 unfold Dx;rw[hc];show(bif Nat.beq xs.length i.size&&(xs.all AV.one)then _ else False);rw[hi];simp only[h1,Fb5,Fd4,cond_true];rw[ho];exact⟨hl,Iw hk⟩
def Rk(k:Int):24576<=z6 k/\z6 k<=81920:=by unfold z6;split<;>(try split)<;>omega
def Sl{g:Gnd}(hg:zv g){l:List Bld}{c:Int}{p:Vc}{k:Int}(h:Fh g l c p (z6 k)):(24576<=p.1/\p.1+24576<=g.W*65536)/\(24576<=p.2/\p.2+24576<=g.H*65536)/\(p.1<=8388608/\p.2<=8388608):=by have h1:=h.1;have h2:=Rk k;have⟨⟨_,h3⟩,⟨_,h4⟩,_⟩:=hg;omega
def kz(g:Gnd)(p:Vc):Nat:=(p.1/65536+g.W*(p.2/65536)).toNat
def zb5{g:Gnd}(hg:zv g){p:Vc}(h:(0<=p.1/\p.1<g.W*65536)/\(0<=p.2/\p.2<g.H*65536)):
  ((kz g p:Nat):Int)=p.1/65536+g.W*(p.2/65536)/\kz g p<g.T.length/\((kz g p:Nat):Int)%g.W=p.1/65536/\((kz g p:Nat):Int)/g.W=p.2/65536:=by
 have hs:=Pv hg (x:=p.1/65536) (y:=p.2/65536) θ θ;have ha:=xj hg;unfold kz;generalize p.1/65536=x at*;generalize p.2/65536=y at*;have e:((x+g.W*y).toNat:Int)=x+g.W*y:=θ;rw[e];exact⟨rfl,θ,hs.2.2.1,hs.2.2.2⟩
def ACalls.frozen{P:Program}{f:FuncId}{xs:List AV}{Q:Ja}{R:AV->Prop}(h:ACalls P f xs Store.empty Q)
  (hQ:∀r S,Q r S->∃r2,R r2/\∀(Oth M:BB) (w:World) (v:Value),StoreOK S Oth M w->VRel w (λb o=>M b o\/Oth b o) r v->VRel w (λb o=>(M b o\/Oth b o)/\S.obj b=none) r2 v):
  ACalls P f xs Store.empty λr _=>R r:=by
 refine⟨λOth M w vs sto hr=>?_⟩;have h1:=h.out Oth M w vs sto hr;have key:∀v w',xm Store.empty Q Oth M w v w'->xm Store.empty (λr _=>R r) Oth M w v w':=by
  rintro v w' ⟨r,S,M',hq,hv,hs,hc⟩;have⟨r2,hr2,hk⟩:=hQ r S hq;refine⟨r2,Store.empty,λb o=>M' b o/\S.obj b=none,hr2,(hk Oth M' w' v hs hv).mono λb o hT=>?_,?_,?_⟩
  ·rcases hT with⟨h1,h2⟩|h1
   ·exact⟨.inl h1,h2⟩
   ·refine⟨.inr h1,?_⟩;cases hb:S.obj b with
    |none=>rfl
    |some y=>exact absurd ((hs.obj b y hb).2 o) (hs.dis b o h1)
  ·exact{obj:=λb x hx=>γ,tok:=λb x hx=>γ,mlt:=λb o hm=>hs.mlt b o hm.1,olt:=hs.olt,dis:=λb o ho hm=>hs.dis b o ho hm.1}
  ·exact{size:=hc.size,keep:=hc.keep,blk:=hc.blk,shp:=hc.shp,sub:=λb o hm hb=>hc.sub b o hm.1 hb,tape:=hc.tape,os:=hc.os,output:=hc.output}
 generalize(callFunc f vs).run P w=res at h1;cases res with
 |ok n w'=>
  cases n with
  |enter g args=>exact Calls.mono h1 λe w'' ⟨v,he,hv⟩=>⟨v,he,key _ _ hv⟩
  |value v=>exact key _ _ h1
  |_=>exact h1
 |_=>exact h1
def ACalls.frozenTo{P:Program}{f:FuncId}{xs:List AV}{st0:Store}{Q:Ja}{R:Ja}(h:ACalls P f xs st0 Q)
    (hQ:∀r S,Q r S->∃r2 S2,R r2 S2/\(∀b x,S2.obj b=some x->S.obj b=some x)/\(∀b x,S2.tok b≠some x)∧
      ∀(Oth M:BB) (w:World) (v:Value),StoreOK S Oth M w->VRel w (λb o=>M b o\/Oth b o) r v->VRel w (λb o=>(M b o\/Oth b o)/\(S.obj b=none\/S2.obj b≠none)) r2 v):
    ACalls P f xs st0 R:=by
  refine⟨λOth M w vs sto hr=>?_⟩;have h1:=h.out Oth M w vs sto hr;have key:∀v w',xm st0 Q Oth M w v w'->xm st0 R Oth M w v w':=by
    rintro v w' ⟨r,S,M',hq,hv,hs,hc⟩;have⟨r2,S2,hr2,hsub,htok,hk⟩:=hQ r S hq;have hT:∀b o,((M' b o/\(S.obj b=none\/S2.obj b≠none))\/Oth b o)->(M' b o\/Oth b o):=λb o h=>h.imp (·.1) id;refine⟨r2,S2,λb o=>M' b o/\(S.obj b=none\/S2.obj b≠none),hr2,(hk Oth M' w' v hs hv).mono λb o hT=>?_,?_,?_⟩
    · rcases hT with⟨h1,h2⟩|h1
      · exact⟨.inl h1,h2⟩
      · refine⟨.inr h1,?_⟩
        cases hb:S.obj b with
        |none=>exact .inl rfl
        |some y=>exact absurd ((hs.obj b y hb).2 o) (hs.dis b o h1)
    · exact { obj:=λb x hx=>⟨(hs.obj b x (hsub b x hx)).1.mono hT,λo=>⟨(hs.obj b x (hsub b x hx)).2 o,.inr (by rw[hx];simp)⟩⟩
              tok:=λb x hx=>absurd hx (htok b x),mlt:=λb o hm=>hs.mlt b o hm.1,olt:=hs.olt,dis:=λb o ho hm=>hs.dis b o ho hm.1}
    · exact{size:=hc.size,keep:=hc.keep,blk:=hc.blk,shp:=hc.shp,sub:=λb o hm hb=>hc.sub b o hm.1 hb,tape:=hc.tape,os:=hc.os,output:=hc.output}
  generalize(callFunc f vs).run P w=res at h1;cases res with
  | ok n w'=>
    cases n with
    |enter g args=>exact Calls.mono h1 λe w'' ⟨v,he,hv⟩=>⟨v,he,key _ _ hv⟩
    |value v=>exact key _ _ h1
    |_=>exact h1
  |_=>exact h1
def Ia(a:Option Addr):Prop:=∀x,a=some x->x.spot=none
section
variable {P:Program} {c:Cfg} {st:Store}
def zal{e:TypeId}{ie:TI}(hie:c.I e=some ie){a:Option Addr}{x:AV}{rows:List (List AV)}(hx:kh ie.size (.av x)=some rows)(hroom:room rows.length ie.bytes)(hne:0<rows.length){K:Ja}
  (h2:∀b' cap',Fresh st b'->rows.length<=cap'->cap'<=9223372036854775807->K (.s (.slice (some ⟨b',0,none⟩) rows.length cap')) (st.sO b' (.cells (rows.flatten++List.replicate ((cap'-rows.length)*ie.size) .any)))):
  AppX P c st e (.s (.slice a 0 0)) x K:=by
 refine⟨⟨ie,hie⟩,λie' hie' Oth M w sv xv argTypes ty args t sto hs hxv hat ht1 hu hti h0 h1'=>?_⟩;rw[hie]at hie';cases hie';have hs:=VRel.eq_s hs;subst hs;have A:AppArgs P c argTypes args t e ie a 0 0 xv:=⟨hat,ht1,hu,hti,h0,h1'⟩
 have⟨hl1,hl2,new,hnew,hone,hnsz,hfc⟩:=Li (P:=P) (β:=λ_=>0) (k:=ie.size) (x:=.av x) hxv hx;have⟨newCap,rest,g1,g0,g2,g3⟩:=Mz (old:=#[]) ty A hl1 (hfc w.drew rfl) (by cases a<;>simp[Builtin.firstCells,loadCells,loadCellsFrom]) θ (by simpa using hroom);have gd:Grow w w.drew:=Grow.drew w;have sto1:=sto.grow gd;have⟨f1,f2,f3⟩:=Hm sto1 (#[]++new++rest) e (l:=rows.flatten++List.replicate rest.size .any) (by
  rw[Fbn,Fbn];refine((show Reads w _ rows.flatten ([]++new.toList)from hnew).append ⟨φ,λi x y hx hy=>?_⟩).keep (gd.keeps _);rw[Fby]at hx;split at hx
  ·cases hx;exact .any _
  ·cases hx)
 rw[g2]at f2;simp only[Fa9]at g1 g3 f2;exact⟨_,_,g3,_,_,_,h2 _ newCap f1 g1 g0,.s _,f2,(gd.chg M).trans f3⟩
def yt3{e:TypeId}{ie:TI}(hie:c.I e=some ie){x:AV}{rows:List (List AV)}(hx:kh ie.size (.av x)=some rows)(hroom:room rows.length ie.bytes){K:Ja}
  (h1:rows=[]->∀a,Ia a->K (.s (.slice a 0 0)) st)
  (h2:0<rows.length->∀b' cap',Fresh st b'->rows.length<=cap'->cap'<=9223372036854775807->K (.s (.slice (some ⟨b',0,none⟩) rows.length cap')) (st.sO b' (.cells (rows.flatten++List.replicate ((cap'-rows.length)*ie.size) .any)))):
  AppX P c st e .emp x K:=by
 refine⟨⟨ie,hie⟩,λie' hie' Oth M w sv xv argTypes ty args t sto hs hxv hat ht1 hu hti h0 h1'=>?_⟩;cases hs with
 |emp a ha=>
  by_cases hr:0<rows.length
  ·exact(zal hie hx hroom hr (h2 hr)).out ie' hie' Oth M w _ xv argTypes ty args t sto (.s _) hxv hat ht1 hu hti h0 h1'
  ·rw[hie]at hie';cases hie';have hr0:rows=[]:=Fa0 θ;subst hr0;have A:AppArgs P c argTypes args t e ie a 0 0 xv:=⟨hat,ht1,hu,hti,h0,h1'⟩
   have⟨hl1,hl2,new,hnew,hone,hnsz,hfc⟩:=Li (P:=P) (β:=λ_=>0) (k:=ie.size) (x:=.av x) hxv hx;have hn0:new.toList=[]:=θd;have hrun:=My (w':=w) ty A hl1 (hfc w rfl) φ (λb hb=>by rw[hn0];simp[storeCells]) (λ_=>rfl);exact⟨_,_,hrun,_,_,M,h1 rfl a ha,.s _,sto,Chg.refl M w⟩
end
def RowsQ{α:Type}(k:Nat)(f:α->List AV)(st:Store)(v:AV)(l:List α):Prop:=
 RowsO k f st v l\/∃a,Ia a/\v=.s (.slice a 0 0)/\l=[]
section
variable {α:Type} {f:α->List AV} {k:Nat}
theorem RowsO.q{st:Store}{v:AV}{l:List α}(h:RowsO k f st v l):RowsQ k f st v l:=.inl h
theorem RowsQ.un{a g:Store}{v:AV}{l:List α}(h:RowsQ k f g v l):RowsQ k f (a.un g) v l:=h.imp (·.un) id
def RowsQ.unL{a g:Store}{v:AV}{l:List α}(h:RowsQ k f a v l)(hd:zj a g):RowsQ k f (a.un g) v l:=h.imp (·.unL hd) id
def RowsQ.form{st:Store}{v:AV}{l:List α}(h:RowsQ k f st v l):∃oa cap,v=.s (.slice oa l.length cap)/\∀i,i<l.length->∃b L,oa=some ⟨b,0,none⟩/\st.obj b=some (.cells ((rws f l).flatten++L)):=by
 rcases h with(⟨rfl,rfl⟩|⟨b,cap,L,rfl,ho,_⟩)|⟨a,_,rfl,rfl⟩
 ·simp_all
 ·grind
 simp_all
def RowsQ.borrow{st:Store}{v:AV}{l:List α}(hf:∀x,(f x).length=k)(hs:∀x,∀y∈f x,∃u,y=AV.s u/\xe u=true)(hv:RowsQ k f st v l){Oth M:BB}{w:World}(sto:StoreOK st Oth M w){x:Value}(hx:VRel w (λb o=>M b o\/Oth b o) v x):
  VRel w (λb o=>(M b o\/Oth b o)/\st.obj b=none) (lst k f l) x:=by
 rcases hv with hv|⟨a,ha,rfl,rfl⟩
 ·exact hv.borrow hf hs sto hx
 ·cases hx;exact .nil k a
theorem RowsQ.sub{S S2:Store}{v:AV}{l:List α}(h:RowsQ k f S v l)(hk:∀b n c,v=.s (.slice (some ⟨b,0,none⟩) n c)->S2.obj b=S.obj b):RowsQ k f S2 v l:=by
 rcases h with(h|⟨b,cap,L,rfl,ho,h2⟩)|h
 ·exact .inl (.inl h)
 ·exact .inl (.inr ⟨b,cap,L,rfl,by rw[hk b _ _ rfl];exact ho,h2⟩)
 ·exact .inr h
def Dt{P:Program}{c:Cfg}{e:TypeId}{ie:TI}(hie:c.I e=some ie)(hf:∀x,(f x).length=ie.size)(hby:ie.bytes<=1000){st:Store}{v:AV}{l:List α}(hv:RowsQ ie.size f st v l)(x:α){src:AV}(hsrc:kh ie.size (.av src)=some [f x])(hlen:l.length<=1000000000){K:Ja}
  (h:∀b cap L,(Fresh st b\/∃c0,0<c0/\v=.s (.slice (some ⟨b,0,none⟩) l.length c0))->(l++[x]).length<=cap->cap*ie.size<=(l++[x]).length*ie.size+L.length->cap<=9223372036854775807->
   K (.s (.slice (some ⟨b,0,none⟩) (l++[x]).length cap)) (st.sO b (.cells ((rws f (l++[x])).flatten++L)))):appendK P c st e (.av v) (.av src) K:=by
 refine⟨.inr ⟨v,_,rfl,rfl,?_⟩⟩;have hl:(l++[x]).length=l.length+1:=φ;have hfl:=qc hf l;have hmul:(l.length+1)*ie.bytes<=1000000001*1000:=Fde θ hby;have happ:(rws f (l++[x])).flatten=(rws f l).flatten++f x:=by rw[Gm];show _++(f x++[])=_;rw[Fbi]
 have empty:∀a:Option Addr,l=[]->v=.s (.slice a 0 0)->AppX P c st e v src K:=λa hl0 hva=>by subst hl0 hva;refine zal hie hsrc ⟨χ,φ⟩ φ (λb' cap' hb hc hc2=>?_);have:=h b' cap' (List.replicate ((cap'-[f x].length)*ie.size) .any) (.inl hb) (by simpa using hc) (by simp only[Faz,Fdo,Fan,<-Fb8];grind) hc2;exact this
 rcases hv with(⟨hv,hl0⟩|⟨b,cap,L,rfl,ho,h1,h2,h3⟩)|⟨a,ha,hv,hl0⟩
 ·exact empty _ hl0 hv
 ·refine Vd hie (cap:=cap) ho δ h1 hsrc ⟨χ,χ⟩ (λhc=>?_) (λhc b' cap' hb hc1 hc2=>?_)
  ·have hc:l.length+1<=cap:=hc;have hcm:(l.length+1)*ie.size<=cap*ie.size:=Fa2 _ hc;rw[Fd1]at hcm;have e1:zq ((rws f l).flatten++L) (l.length*ie.size) [f x].flatten=(rws f (l++[x])).flatten++L.drop ie.size:=by grind[wu]
   have:=h b cap (L.drop ie.size) (.inr ⟨cap,θ,rfl⟩) θ (by grind[Nat.succ_mul]) h3;grind
  ·have hc1:l.length+1<=cap':=hc1;have e1:((rws f l).flatten++L).take (l.length*ie.size)++[f x].flatten++List.replicate ((cap'-(l.length+1))*ie.size) .any=(rws f (l++[x])).flatten++List.replicate ((cap'-(l.length+1))*ie.size) .any:=by
    rw[Fcn θ,Fck θ,happ];simp
   have:=h b' cap' (List.replicate ((cap'-(l.length+1))*ie.size) .any) (.inl hb) θ (by rw[hl,Faz,<-Fb8];exact Fa2 _ θ) hc2;rw[hl,<-e1]at this;exact this
 ·exact empty _ hl0 hv
def M4{P:Program}{c:Cfg}{e:TypeId}{ie:TI}(hie:c.I e=some ie)(hf:∀x,(f x).length=ie.size)(hby:ie.bytes<=1000){st:Store}{l:List α}(hlen:l.length<=1000000000){K:Ja}
  (h:∀v N,RowsQ ie.size f N v l->zj N st->K v (N.un st)):appendK P c st e (.av .emp) (.av (lst ie.size f l)) K:=by
 refine⟨.inr ⟨_,_,rfl,rfl,?_⟩⟩;have hmul:l.length*ie.bytes<=1000000000*1000:=Fde θ hby;refine yt3 hie (rows:=rws f l) (by simp[kh,lst]) ⟨θe,θe⟩ (λhr a ha=>?_) (λhr b cap hb hc hc2=>?_)
 ·have hl:l=[]:=by
   have:=congrArg List.length hr;rw[zi]at this;exact Fa0 this
  subst hl;have:=h (.s (.slice a 0 0)) Store.empty (.inr ⟨a,ha,rfl,rfl⟩) (λb hb=>(hb.elim (λh=>h rfl) (λh=>h rfl):False).elim)
  rwa [vo]at this
 ·rw[zi]at hc⊢;have:=h (.s (.slice (some ⟨b,0,none⟩) l.length cap)) (Store.empty.sO b (.cells ((rws f l).flatten++List.replicate ((cap-l.length)*ie.size) .any))) (.inl (.inr ⟨b,cap,_,rfl,zd _ _ _,hc,by
   simp only[Faz,<-Fb8];exact Fa2 _ θ,hc2⟩)) (λi hi hs=>by
    have:i=b:=Decidable.byContradiction λhne=>by
     rcases hi with hi|hi
     ·rw[zf hne]at hi;exact hi rfl
     ·exact hi rfl
    subst this;exact fresh_iff.1 hb hs)
  have e:(Store.empty.sO b (.cells ((rws f l).flatten++List.replicate ((cap-l.length)*ie.size) .any))).un st=st.sO b (.cells ((rws f l).flatten++List.replicate ((cap-l.length)*ie.size) .any)):=by rw[<-Fs (fresh_iff.1 hb),vo]
  rw[e]at this;exact this
end
section
variable {w:Wld} {v:AV} {k p:Nat} {S:Store}
def za5{st:Store}(hv:RowsQ 10 zm st v w.U){Oth M:BB}{W:World}(sto:StoreOK st Oth M W){x:Value}(hx:VRel W (λb o=>M b o\/Oth b o) (.agg (jh w v)) x):
  VRel W (λb o=>(M b o\/Oth b o)/\st.obj b=none) (.agg (zr w)) x:=by
 cases hx with
 |agg _ c hl hc=>
  refine .agg _ c hl λi x y hx hy=>?_
  match i with
  |0=>simp only[zr,Fat,Fam]at hx;subst hx;exact qv (hc 0 _ y rfl hy)
  |1=>simp only[zr,Fay,Fat,Fam]at hx;subst hx;exact qv (hc 1 _ y rfl hy)
  |2=>simp only[zr,Fay,Fat,Fam]at hx;subst hx;exact qv (hc 2 _ y rfl hy)
  |3=>simp only[zr,Fay,Fat,Fam]at hx;subst hx;exact qv (hc 3 _ y rfl hy)
  |4=>simp only[zr,Fay,Fat,Fam]at hx;subst hx;exact qv (hc 4 _ y rfl hy)
  |5=>simp only[zr,Fay,Fat,Fam]at hx;subst hx;exact qv (hc 5 _ y rfl hy)
  |6=>simp only[zr,Fay,Fat,Fam]at hx;subst hx;exact qv (hc 6 _ y rfl hy)
  |7=>simp only[zr,Fay,Fat,Fam]at hx;subst hx;exact hv.borrow Cy ip sto (hc 7 _ y rfl hy)
  |i+8=>simp[zr]at hx
def kl(v:AV)(p:Nat):Prop:=∀b n c,v=.s (.slice (some ⟨b,0,none⟩) n c)->0<c->b≠p
theorem RowsQ.set{α:Type}{f:α->List AV}{l:List α}(h:RowsQ k f S v l)(hp:kl v p)(x:AObj):RowsQ k f (S.sO p x) v l:=by
 rcases h with(h|⟨b,cap,L,rfl,ho,h2,h3⟩)|h
 ·exact .inl (.inl h)
 ·by_cases hc:0<cap
  ·exact .inl (.inr ⟨b,cap,L,rfl,by rw[zf (hp b _ _ rfl hc)];exact ho,h2,h3⟩)
  ·have h0:cap=0:=θ;subst h0;have hl:l=[]:=Fa0 θ;subst hl;exact .inr ⟨_,λx hx=>by cases hx;rfl,rfl,rfl⟩
 ·exact .inr h
def Lz{α:Type}{f:α->List AV}{l:List α}(h:RowsQ k f S v l)(hp:S.obj p=none):kl v p:=by
 rcases h with(⟨rfl,rfl⟩|⟨b,cap,L,rfl,ho,h2⟩)|⟨a,ha,rfl,rfl⟩
 ·intro b n c e;simp at e
 ·intro b' n c e _;simp only[AV.s.injEq,Value.slice.injEq,Fam,Addr.mk.injEq]at e;obtain⟨⟨rfl,_⟩,_⟩:=e;intro e2;subst e2;rw[hp]at ho;cases ho
 ·intro b n c e hc;simp only[AV.s.injEq,Value.slice.injEq]at e;omega
def spU(w:Wld)(c:Cmd):Unt:=⟨w.next,c.P,c.N,(c.X,c.Y),-1,-1,0,0,0⟩
def spW(w:Wld)(c:Cmd):Wld:={w with U:=w.U++[spU w c],next:=w.next+1}
def Ks(w:Wld):Prop:=4096<=w.U.length\/1099511627776<=w.next
open Classical in
noncomputable def spE(w:Wld)(c:Cmd):Int:=if Ks w then 4 else if xz w 0 c.N (c.X,c.Y)then 0 else 5
open Classical in
noncomputable def doE(E:Wld->Cmd->Int)(w:Wld)(c:Cmd):Int:=if¬z8 w\/¬vq c\/w.players<c.P then 1 else E w c
open Classical in
noncomputable def doW(E:Wld->Cmd->Int)(W:Wld->Cmd->Wld)(w:Wld)(c:Cmd):Wld:=if doE E w c=0 then W w c else w
theorem ziy{E:Wld->Cmd->Int}{c:Cmd}(h:¬z8 w\/¬vq c\/w.players<c.P):doE E w c=1:=by unfold doE;rw[if_pos h]
theorem zix{E:Wld->Cmd->Int}{c:Cmd}(h1:z8 w)(h2:vq c)(h3:c.P<=w.players):doE E w c=E w c:=by
 unfold doE;rw[if_neg];rintro(h|h|h)
 ·exact h h1
 ·exact h h2
 ·omega
theorem ziv{E:Wld->Cmd->Int}{W:Wld->Cmd->Wld}{c:Cmd}(h:doE E w c=0):doW E W w c=W w c:=by unfold doW;rw[if_pos h]
theorem tj{E:Wld->Cmd->Int}{W:Wld->Cmd->Wld}{c:Cmd}(h:doE E w c≠0):doW E W w c=w:=by unfold doW;rw[if_neg h]
end
structure Scr where
 W:Wld
 L:List Cmd
end Go.V
namespace Go.V
section
variable {j n i k:Nat}
def qlt(a b:Int×Int):Prop:=a.1<b.1\/a.1=b.1/\a.2<b.2
instance(a b:Int×Int):Decidable (qlt a b):=by unfold qlt;exact inferInstance
def na(a:Int×Int):¬qlt a a:=by unfold qlt;omega
theorem Ww{a b c:Int×Int}(h:¬qlt b a)(k:¬qlt c b):¬qlt c a:=by unfold qlt at*;omega
theorem Wx{a b:Int×Int}(h:qlt a b):¬qlt b a:=by unfold qlt at*;omega
def zeh{a b:Int×Int}(h:¬qlt b a):a.1<=b.1:=by unfold qlt at*;omega
def par(j:Nat):Nat:=(j-1)/2
def I9(f:Nat->Int×Int)(i k:Nat):Nat->Int×Int:=λj=>if j=k then f i else if j=i then f k else f j
def M6(f:Nat->Int×Int)(n:Nat):Prop:=∀j,0<j->j<n->¬qlt (f j) (f (par j))
def UpF(f:Nat->Int×Int)(n i:Nat):Prop:=(∀j,0<j->j<n->j≠i->¬qlt (f j) (f (par j)))/\∀j,0<j->j<n->par j=i->0<i->¬qlt (f j) (f (par i))
def I1(f:Nat->Int×Int)(n i:Nat):Prop:=(∀j,0<j->j<n->par j≠i->¬qlt (f j) (f (par j)))/\∀j,0<j->j<n->par j=i->0<i->¬qlt (f j) (f (par i))
theorem D6(h:0<j):par j<j:=by unfold par;omega
def zmv{f:Nat->Int×Int}(h:UpF f n i)(hi:i=0\/¬qlt (f i) (f (par i))):M6 f n:=by
 intro j h0 hj;by_cases e:j=i
 ·grind
 ·exact h.1 j h0 hj e
def zmu{f:Nat->Int×Int}(h:M6 f n):UpF f (n+1) n:=
 ⟨λj h0 hj hn=>h j h0 θ,λj h0 hj hp h1=>by have:=D6 h0;omega⟩
def zmt{f:Nat->Int×Int}(h:UpF f n i)(h0:0<i)(hi:i<n)(hl:qlt (f i) (f (par i))):UpF (I9 f i (par i)) n (par i):=by
 have hp:=D6 h0;refine⟨λj j0 jn jp=>?_,λj j0 jn jp p0=>?_⟩
 ·unfold I9;rw[if_neg jp];by_cases e:j=i
  ·simp_all[Wx]
  ·rw[if_neg e];by_cases e2:par j=par i
   ·rw[if_pos e2];have h1:=h.1 j j0 jn e;grind[Ww,Wx]
   ·rw[if_neg e2];by_cases e3:par j=i
    ·rw[if_pos e3];exact h.2 j j0 jn e3 h0
    ·rw[if_neg e3];exact h.1 j j0 jn e
 ·have hpp:=D6 p0;unfold I9;rw[if_neg (show¬par (par i)=par i by omega),if_neg (show¬par (par i)=i by omega)];have h1:=h.1 (par i) p0 θ θ;by_cases e:j=i
  ·grind
  ·have hjp:j≠par i:=by grind
   rw[if_neg hjp,if_neg e];have h2:=h.1 j j0 jn e;grind[Ww]
def ziu{f:Nat->Int×Int}(h:I1 f n i)(hc:∀j,0<j->j<n->par j=i->¬qlt (f j) (f i)):M6 f n:=by
 intro j h0 hj;by_cases e:par j=i
 ·grind
 ·exact h.1 j h0 hj e
def yq7{f:Nat->Int×Int}(h:I1 f n i)(hk0:0<k)(hk:k<n)(hki:par k=i)(hmin:∀j,0<j->j<n->par j=i->¬qlt (f j) (f k))(hl:qlt (f k) (f i)):I1 (I9 f i k) n k:=by
 have hik:i<k:=hki▸D6 hk0;refine⟨λj j0 jn jp=>?_,λj j0 jn jp _=>?_⟩
 ·unfold I9;rw[if_neg jp];by_cases e:j=k
  ·simp_all[Wx]
  ·rw[if_neg e];by_cases e2:j=i
   ·subst e2;have hpj:par j≠j:=by have:=D6 j0;omega
    rw[if_pos rfl,if_neg hpj];exact h.2 k hk0 hk hki j0
   ·rw[if_neg e2];by_cases e3:par j=i
    ·grind
    ·rw[if_neg e3];exact h.1 j j0 jn e3
 ·have hjk:k<j:=jp▸D6 j0;unfold I9;rw[if_neg (show¬j=k by omega),if_neg (show¬j=i by omega),hki,if_neg (show¬i=k by omega),if_pos rfl];have h1:=h.1 j j0 jn θ;grind
def ynj{f:Nat->Int×Int}(h:M6 f n):∀j,j<n->¬qlt (f j) (f 0):=by
 intro j;induction j using Nat.strongRecOn with
 |_ j ih=>
  intro hj;by_cases e:j=0
  ·subst e;exact na _
  ·have hp:=D6 (Nat.pos_of_ne_zero e);exact Ww (ih _ hp θ) (h j θ hj)
def Rr(h:0<j):par j=i↔j=2*i+1\/j=2*i+2:=by unfold par;omega
def qat(l:List (Int×Int))(j:Nat):Int×Int:=l.getD j (0,0)
def Ad(l:List (Int×Int)):Prop:=M6 (qat l) l.length
def wt(l:List (Int×Int))(i k:Nat):List (Int×Int):=(l.set i (qat l k)).set k (qat l i)
theorem Nl(l:List (Int×Int))(i k:Nat):(wt l i k).length=l.length:=by simp[wt]
theorem Wy{l:List (Int×Int)}(h:j<l.length):qat l j=l[j]:=by grind[qat]
theorem yhw{l:List (Int×Int)}(h:i<l.length)(x:Int×Int)(j:Nat):qat (l.set i x) j=if j=i then x else qat l j:=by unfold qat;grind
theorem zei{l:List (Int×Int)}(hi:i<l.length)(hk:k<l.length):qat (wt l i k)=I9 (qat l) i k:=by grind[wt,I9,yhw]
def zcj{l:List (Int×Int)}(hi:i<l.length)(hk:k<l.length):(wt l i k).Perm l:=by grind[wt,Wy]
theorem zej(l:List (Int×Int))(x:Int×Int)(j:Nat)(h:j<l.length):qat (l++[x]) j=qat l j:=by grind[qat]
end
end Go.V
