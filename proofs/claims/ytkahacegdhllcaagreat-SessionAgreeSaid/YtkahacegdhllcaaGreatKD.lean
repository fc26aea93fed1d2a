/- Ground of laws of thronglaw30: contracts and plain lemmas; no condition beyond the row's own. -/
import Derived.Shelf.Sort.Plain
import Derived.Shelf.Slices.SearchI
import Derived.Shelf.Slices.Empties
import Derived.Shelf.Slices.Delete
import Derived.Shelf.Slices.In.SortNone
import Derived.Shelf.Spec.SlicesInsertGrow
import Derived.Shelf.Spec.BitsCarry
import Derived.Test.YtkahacegdhllcaaGreatKC
set_option linter.unusedSimpArgs false
set_option linter.unusedVariables false
set_option linter.defProp false
namespace Go.V
open Go.Proofs Go.Shelf Go.Sort Go.RowKit
section
variable {P:Program} {ρ:Ren} {w:World} {st:Store} {Oth M:BB}
def vI(n:Int):Value:=.int .i64 n
def aI(n:Int):AV:=.s (.int .i64 n)
def Gi(T:BB)(ns:List Int):Reads w T (ns.map aI) (ns.map vI):=by
  have:=Reads.map_s (w:=w) (T:=T) (ns.map vI)
  rwa [Fdh]at this
def p8{w:World}{b q:Nat}{c:Array Value}{e:TypeId}{fr:Nat×Nat}(hb:w.heap[b]?=some (.cells c e fr))(ns:List Int)(hl:ns.length<=c.size):
    Wrote w b 0 (ns.map vI) (putRow (Value.int .i64) (Sort.ahead w q) b 0 ns.toArray) where
  size:=φ
  other b' hne:=by simp_all[putRow,mapBlock,Fc4,Ne.symm]
  blk c' e' fr' h:=by
    rw[hb]at h;cases h;refine⟨putCells (Value.int .i64) 0 ns.toArray c,?_,?_,by simp[putCells]⟩
    · simp_all[putRow,mapBlock,Fc4,onCells]
    · apply Fb8
      intro i;simp only[putCells,Fdj,Fdb,Fdg,Fba,Fam,Array.getElem?_mapIdx];by_cases hi:i<ns.length
      · grind[vI]
      grind
  tape:=rfl
  os:=rfl
  output:=rfl
def yiv(w:World)(os:Array Obj):Grow w (Sort.grow w os) where
  size:=φ
  blk b hb:=by grind[Sort.grow]
  tape:=rfl
  os:=rfl
  output:=rfl
def Mz{T:BB}{b:Nat}{ns:List Int}{L:List AV}(h:CellsRel w T (ns.map aI++L) b):
    ∃c e fr,w.heap[b]?=some (.cells c e fr)/\fr.2=fr.1/\ns.length+L.length=c.size/\∀j,j<ns.length->c[j]?=some (vI (ns.getD j 0)):=by
  obtain⟨c,e,fr,h1,h2,h3,h4⟩:=h;refine⟨c,e,fr,h1,h2,δ,λj hj=>?_⟩;have hlt:j<c.size:=δ;have h5:=h4 j (aI ns[j]) c[j] δ φ;rw[Fbn hlt,VRel.eq_s h5];simp[hj,vI]
def zdq{T:BB}{b:Nat}{ns:List Int}{L:List AV}(h:CellsRel w T (ns.map aI++L) b):Holds (Value.int .i64) w b 0 ns.toArray:=by obtain⟨c,e,fr,h1,h2,h3,h4⟩:=Mz h;intro j hj;simp_all[World.cell?,vI,World.frozen?]
theorem ud{xs l L:List AV}(h:xs.length=l.length):zq (l++L) 0 xs=xs++L:=by simp_all[zq]
theorem ve{A B xs:List AV}{o:Nat}(h:A.length=o):zq (A++B) o xs=A++xs++B.drop xs.length:=by grind[zq,List.take_left,List.drop_append]
def zgs{x:AV}{vs:Array Value}{T:BB}(h:Reads w T [x] vs.toList):∃v,vs=#[v]/\VRel w T x v:=by grind[Ii]
def zgr{x y:AV}{vs:Array Value}{T:BB}(h:Reads w T [x,y] vs.toList):∃u v,vs=#[u,v]/\VRel w T x u/\VRel w T y v:=by grind[Mo]
def pd{x y z:AV}{vs:Array Value}{T:BB}(h:Reads w T [x,y,z] vs.toList):∃u v t,vs=#[u,v,t]/\VRel w T x u/\VRel w T y v/\VRel w T z t:=by grind[zat]
def Ph{v:AV}{ns:List Int}(h:Ints st v ns):(v=.s (.slice none 0 0)/\ns=[])\/∃b cap L,v=.s (.slice (some ⟨b,0,none⟩) ns.length cap)/\st.obj b=some (.cells (ns.map aI++L))/\ns.length<=cap/\cap<=ns.length+L.length/\cap<=9223372036854775807:=h
def zwp (Ly : Lays.n189 P ρ) {fn : Func} {code : Code} (hf : P.funcs[ρ.f 189]? = some fn) (hb : fn.body = some code) (hname : (fn.name == "runtime.NumGoroutine") = false) {b cap : Nat} {ns : List Int} {L : List AV} (ho : st.obj b = some (.cells (ns.map aI ++ L)))
    (hlen:ns.length<4611686018427387904) {R:Ja} (h:R (.tup []) (st.sO b (.cells ((ns.mergeSort λx y=>decide (x<=y)).map aI++L)))):
    ACalls P (ρ.f 189) [.s (.slice (some ⟨b,0,none⟩) ns.length cap)] st R:=by
  refine ACalls.of_calls hf hb hname λOth M w vs sto hr=>?_;obtain⟨v,rfl,hv⟩:=zgs hr;cases hv;have hobj:=(sto.obj b _ ho).1;obtain⟨c,e,fr,h1,h2,h3,h4⟩:=Mz hobj;refine Calls.mono (Any.slices_Sort_int Ly b 0 cap ns w (zdq hobj) (Gr h1) hlen) λe' w' ⟨he,n,os,hw'⟩=>⟨_,he,?_⟩
  subst hw';have hsl:(ns.mergeSort λx y=>decide (x<=y)).length=ns.length:=List.length_mergeSort ns;have hw:=p8 (q:=n) h1 (ns.mergeSort λx y=>decide (x<=y)) θ;obtain⟨k1,k2⟩:=Bm sto ho (Gi _ _) hw;have hg:=yiv (putRow (Value.int .i64) (Sort.ahead w n) b 0 (ns.mergeSort λx y=>decide (x<=y)).toArray) os;refine⟨.tup [],_,M,h,ko Reads.nil,?_,k2.trans (hg.chg M)⟩;rw[ud φ]at k1;exact k1.grow hg
def zwo (Ly : Lays.n189 P ρ) {fn : Func} {code : Code} (hf : P.funcs[ρ.f 189]? = some fn) (hb : fn.body = some code) (hname : (fn.name == "runtime.NumGoroutine") = false) {R : Ja} (h : R (.tup []) st) :
    ACalls P (ρ.f 189) [.s (.slice none 0 0)] st R:=by
  refine ACalls.of_calls hf hb hname λOth M w vs sto hr=>?_;obtain⟨v,rfl,hv⟩:=zgs hr;cases hv;refine Calls.mono (Any.slices_Sort_int_none Ly none 0 w) λe' w' ⟨he,hw'⟩=>⟨_,he,?_⟩
  subst hw';exact⟨.tup [],st,M,h,ko Reads.nil,sto,Chg.refl _ _⟩
def zxa (Ly : Lays2.n25 P ρ) {fn : Func} {code : Code} (hf : P.funcs[ρ.f 25]? = some fn) (hb : fn.body = some code) (hname : (fn.name == "runtime.NumGoroutine") = false) {v : AV} {ns : List Int} (hv : Ints st v ns) (x : Int)
    (hlen:ns.length<4611686018427387904) (hs:ns.Pairwise (·<=·)) {R:Ja} (h:R (.tup [aI (ns.countP (·<x):Nat),.s (.bool (ns.contains x))]) st):
    ACalls P (ρ.f 25) [v,aI x] st R:=by
  refine ACalls.of_calls hf hb hname λOth M w vs sto hr=>?_;obtain⟨u,t,rfl,hu,ht⟩:=zgr hr;cases ht;rcases Ph hv with⟨rfl,rfl⟩|⟨b,cap,L,rfl,ho,hc1,hc2⟩
  · cases hu
    refine Calls.mono (Any.slices_BinarySearch_int_empty Ly none 0 x w) λe' w' ⟨he,hw'⟩=>⟨_,he,?_⟩
    subst hw';refine⟨_,st,M,h,ko (Reads.cons (.s _) (Reads.cons (.s _) Reads.nil)),sto,Chg.refl _ _⟩
  · cases hu
    have hobj:=(sto.obj b _ ho).1;obtain⟨c,e,fr,h1,h2,h3,h4⟩:=Mz hobj;refine Calls.mono (Any.slices_BinarySearch_int Ly b 0 ns.length cap ns x w (Fai _) hlen (λj hj=>?_) δ) λe' w' ⟨he,q,hw'⟩=>⟨_,he,?_⟩
    · rw[Fba]
      simp only[World.cell?,h1];exact h4 j hj
    · subst hw'
      rw[Faj];have hg:Grow w (w.drewN q):=⟨Fai _,λ_ _=>rfl,rfl,rfl,rfl⟩
      exact⟨_,st,M,h,ko (Reads.cons (.s _) (Reads.cons (.s _) Reads.nil)),sto.grow hg,hg.chg M⟩
def yl9 (Ly : Lays2.n23 P ρ) {fn : Func} {code : Code} (hf : P.funcs[ρ.f 23]? = some fn) (hb : fn.body = some code) (hname : (fn.name == "runtime.NumGoroutine") = false) {b cap i j : Nat} {ns : List Int} {L : List AV} (ho : st.obj b = some (.cells (ns.map aI ++ L)))
    (hc1:ns.length<=cap) (hc2:cap<=9223372036854775807) (hij:i<=j) (hj:j<=ns.length) {R:Ja}
    (h:R (.s (.slice (some ⟨b,0,none⟩) (ns.take i++ns.drop j).length cap)) (st.sO b (.cells ((ns.take i++ns.drop j).map aI++(List.replicate (j-i) (aI 0)++L))))):
    ACalls P (ρ.f 23) [.s (.slice (some ⟨b,0,none⟩) ns.length cap),aI i,aI j] st R:=by
  refine ACalls.of_calls hf hb hname λOth M w vs sto hr=>?_;obtain⟨u,v,t,rfl,hu,hv,ht⟩:=pd hr;cases hu;cases hv;cases ht;have hobj:=(sto.obj b _ ho).1;obtain⟨c,e,fr,h1,h2,h3,h4⟩:=Mz hobj;have hl2:(ns.take i++ns.drop j++List.replicate (j-i) 0).length=ns.length:=δ;have hl1:(ns.take i++ns.drop j).length=ns.length-(j-i):=δ;refine Calls.mono (Any.slices_Delete_int Ly b 0 cap i j ns w (zdq hobj) hc1 hc2 hij hj) λe' w' ⟨he,q,hw'⟩=>⟨_,he,?_⟩
  subst hw';have hw:=p8 (q:=q) h1 (ns.take i++ns.drop j++List.replicate (j-i) 0) θ;obtain⟨k1,k2⟩:=Bm sto ho (Gi _ _) hw;rw[<-hl1];refine⟨_,_,M,h,.s _,?_,k2⟩;grind[ud,List.map_replicate]
def ypg(Ly:Lays7.n25 P ρ)(x y c:Nat)(hc:c<=1){R:Ja}
    (h:R (.tup [.s (.int .u64 ((x+y+c)%18446744073709551616:Nat)),.s (.int .u64 ((x+y+c)/18446744073709551616:Nat))]) st):
    ACalls P (ρ.f 25) [.s (.int .u64 x),.s (.int .u64 y),.s (.int .u64 c)] st R:=by
  refine ACalls.of_value λOth M w vs sto hr=>?_;obtain⟨u,v,t,rfl,hu,hv,ht⟩:=pd hr;cases hu;cases hv;cases ht;exact⟨_,w,Any7.bits_Add64 Ly x y c hc w,_,st,M,h,ko (Reads.cons (.s _) (Reads.cons (.s _) Reads.nil)),sto,Chg.refl _ _⟩
def L6{b:Nat}:∀(vs:List Value) (o:Nat) (w:World) (c:Array Value) (e:TypeId) (fr:Nat×Nat),w.heap[b]?=some (.cells c e fr)->o+vs.length<=c.size->Wrote w b o vs (w.setCells b o vs):=by
  intro vs;induction vs with
  |nil=>intro o w c e fr h _;exact⟨rfl,λ_ _=>rfl,λc e fr h=>⟨c,h,φ,rfl⟩,rfl,rfl,rfl⟩
  | cons v vs ih=>
    intro o w c e fr h hl;simp only[Fbg]at hl;have h1:(w.setCell ⟨b,o,none⟩ v).heap[b]?=some (.cells (c.setIfInBounds o v) e fr):=by rw[Wl,if_pos rfl,h];rfl
    have k:=ih (o+1) (w.setCell ⟨b,o,none⟩ v) _ e fr h1 δ;refine⟨by rw[World.setCells,k.size];simp,λb' hb=>by rw[World.setCells,k.other b' hb,Wl,if_neg hb],λc1 e1 fr1 hc1=>?_,by rw[World.setCells,k.tape];rfl,by rw[World.setCells,k.os];rfl,by rw[World.setCells,k.output];rfl⟩;rw[h]at hc1;cases hc1;obtain⟨c',g1,g2,g3⟩:=k.blk _ _ _ h1;refine⟨c',g1,?_,δ⟩;rw[g2,Fef];have hlt:o<c.toList.length:=δ;have hA:(c.toList.take o).length=o:=δ;rw[List.set_eq_take_append_cons_drop,if_pos hlt];have t1:(c.toList.take o++v::c.toList.drop (o+1)).take (o+1)=c.toList.take o++[v]:=δ;have t2:(c.toList.take o++v::c.toList.drop (o+1)).drop (o+1+vs.length)=c.toList.drop (o+(vs.length+1)):=by rw[List.drop_append,hA,show o+1+vs.length-o=vs.length+1 by omega,Fc2 θ,Fdg,List.drop_succ_cons,Fdr];grind
    grind
def yhl (Ly : Lays2.n21 P ρ) {fn : Func} {code : Code} (hf : P.funcs[ρ.f 21]? = some fn) (hb : fn.body = some code) (hname : (fn.name == "runtime.NumGoroutine") = false) {v : AV} {ns : List Int} (hv : Ints st v ns) {vb : Nat} (x : Int) (i : Nat) (hi : i <= ns.length)
    (hvb:st.obj vb=some (.cells [aI x])) (hne:∀b cap,v=.s (.slice (some ⟨b,0,none⟩) ns.length cap)->b≠vb) (hlen:(ns.length+1)*8<=140737488355328) {R:Ja}
    (h:∀b cap L,(Fresh st b\/∃c0,v=.s (.slice (some ⟨b,0,none⟩) ns.length c0))->(ns.take i++x::ns.drop i).length<=cap->cap<=(ns.take i++x::ns.drop i).length+L.length->cap<=9223372036854775807->
      R (.s (.slice (some ⟨b,0,none⟩) (ns.take i++x::ns.drop i).length cap)) (st.sO b (.cells ((ns.take i++x::ns.drop i).map aI++L)))):
    ACalls P (ρ.f 21) [v,aI i,.s (.slice (some ⟨vb,0,none⟩) 1 1)] st R:=by
  refine ACalls.of_calls hf hb hname λOth M w vs sto hr=>?_;obtain⟨u,t,s,rfl,hu,ht,hs⟩:=pd hr;cases ht;cases hs;have hvo:=(sto.obj vb _ hvb).1;obtain⟨cv,ev,frv,v1,v2,v3,v4⟩:=Mz (ns:=[x]) (L:=[]) (show CellsRel w _ ([x].map aI++[]) vb from hvo);have hvs:∀j v,([vI x]:List Value)[j]?=some v->w.cell? ⟨vb,0+j,none⟩=some v:=by grind[World.cell?]
  have h1v:∀v∈([vI x]:List Value),v.oneCell'=true:=by intro v hv;simp at hv;subst hv;rfl
  have hl':(ns.take i++x::ns.drop i).length=ns.length+1:=δ;have hcut:∀(w:World) (need old:Nat) (e:TypeId),need<=140737488355328->need<=grownCap w need old e/\grownCap w need old e<=9223372036854775807:=by intro w need old e hn;unfold grownCap;simp only[Question.cut];have:=Nat.mod_lt (w.tape w.drawn (.appendCap need old e)) (show 0<2^63-need by omega);omega
  rcases Ph hv with⟨rfl,rfl⟩|⟨b,cap,L,rfl,ho,hc1,hc2,hc3⟩
  · cases hu
    simp only[Fdi,Nat.le_zero]at hi;subst hi;refine Calls.mono (Any2.slices_Insert_int_end_grow Ly none 0 0 vb 0 1 1 [] [vI x] w θ (Fai _) θ θ rfl rfl (λ_=>rfl) (λa ha=>by cases ha) hvs h1v) λe' w' ⟨he,hw'⟩=>⟨_,he,?_⟩
    obtain⟨g1,g2⟩:=hcut w (0+1) 0 (ρ.t 3) θ;generalize grownCap w (0+1) 0 (ρ.t 3)=gc at*;subst hw';have gd:Grow w w.drew:=Grow.drew w;obtain⟨f1,f2,f3⟩:=Gp (sto.grow gd) ((([]:List Value)++[vI x]).toArray++Builtin.zeroCells (Value.int .i64 0).cells (gc-(0+1))) (ρ.t 3) (l:=[x].map aI++List.replicate (gc-(0+1)) .any) (by
      rw[Fbk];refine Reads.append (Gi _ [x]) ⟨ψm,λi x y hx hy=>?_⟩;rw[Fbu]at hx;split at hx
      · cases hx;exact .any _
      grind)
    have:=h w.heap.size gc (List.replicate (gc-(0+1)) .any) (.inl f1) δ δ g2;exact⟨_,_,_,this,.s _,f2,(gd.chg M).trans f3⟩
  · cases hu
    have hbv:b≠vb:=hne b cap rfl;have hobj:=(sto.obj b _ ho).1;obtain⟨c,e,fr,h1,h2,h3,h4⟩:=Mz hobj;have cell:∀j,j<c.size->w.cell? ⟨b,0+j,none⟩=c[j]?:=λj hj=>by simp_all[World.cell?]
    have froz:∀o,w.frozen? ⟨b,o,none⟩=false:=λo=>by grind[World.frozen?]
    have hcs:∀j v,(ns.map vI)[j]?=some v->w.cell? ⟨b,0+j,none⟩=some v:=δ;have h1c:∀v∈ns.map vI,v.oneCell'=true:=by intro v hv;obtain⟨n,_,rfl⟩:=Fag.1 hv;rfl
    by_cases hroom:ns.length+1<=cap
    · obtain⟨L0,hL⟩:∃L0,L=L0:=⟨_,rfl⟩
      by_cases hin:i=ns.length
      · subst hin
        refine Calls.mono (Any2.slices_Insert_int_end_room Ly b 0 ns.length cap vb 0 1 1 [vI x] w θ hroom hc3 rfl (λj hj=>?_) (λj hj=>froz _) hvs h1v) λe' w' ⟨he,hw'⟩=>⟨_,he,?_⟩
        · grind
        · subst hw'
          rw[Fba];have hw:=L6 [vI x] ns.length w c e fr h1 δ;obtain⟨k1,k2⟩:=Bm sto ho (Gi _ [x]) hw;rw[ve φ]at k1;have e2:(ns.take ns.length++x::ns.drop ns.length).map aI=ns.map aI++[x].map aI:=φ;have:=h b cap (L.drop 1) (.inr ⟨cap,rfl⟩) θ δ hc3;rw[hl',e2]at this;exact⟨_,_,M,this,.s _,k1,k2⟩
      · have hsz:∀j,j<ns.length+1->(w.cell? ⟨b,0+j,none⟩).isSome=true:=λj hj=>by grind
        refine Calls.mono (Any2.slices_Insert_int_shift Ly b 0 ns.length cap i vb 0 1 1 (ns.map vI) [vI x] w θ θ hroom hc3 (Ne.symm hbv) φ rfl hcs hsz (λj _=>froz _) hvs h1c h1v ev e cv.size c.size
          (by simp[World.shape?,v1]) (by simp[World.shape?,h1]) θ ?_ ?_) λe' w' ⟨he,hw'⟩=>⟨_,he,?_⟩
        · grind[World.frozen?]
        · grind[World.frozen?]
        · subst hw'
          rw[Fba,Fba,<-List.map_drop];have gd:Grow w w.drew:=Grow.drew w;have hw1:=L6 ((ns.drop i).map vI) (i+1) w.drew c e fr h1 δ;obtain⟨k1,k2⟩:=Bm (sto.grow gd) ho (Gi _ _) hw1;obtain⟨c',m1,_,m2⟩:=hw1.blk c e fr h1;have hw2:=L6 [vI x] i _ c' e fr m1 δ;obtain⟨k3,k4⟩:=Bm k1 (zd _ _ _) (Gi _ [x]) hw2;rw[yu]at k3;have e1:zq (zq (ns.map aI++L) (i+1) ((ns.drop i).map aI)) i ([x].map aI)=(ns.take i++x::ns.drop i).map aI++L.drop 1:=by
            have hL1:1<=L.length:=θ;cases L with
            |nil=>grind
            | cons y L=>
              have q1:ns.map aI++y::L=(ns.map aI++[y]).take (i+1)++((ns.map aI++[y]).drop (i+1)++L):=by grind[List.take_append_drop]
              have q2:((ns.map aI++[y]).take (i+1)).length=i+1:=δ;grind[ve,List.map_take,List.take_succ_eq_append_getElem]
          rw[e1]at k3;have:=h b cap (L.drop 1) (.inr ⟨cap,rfl⟩) θ (by rw[hl'];simp;omega) hc3;rw[hl']at this;exact⟨_,_,M,this,.s _,k3,((gd.chg M).trans k2).trans k4⟩
    · obtain⟨g1,g2⟩:=hcut w (ns.length+1) cap (ρ.t 3) θ
      by_cases hin:i=ns.length
      · subst hin
        refine Calls.mono (Any2.slices_Insert_int_end_grow Ly (some ⟨b,0,none⟩) ns.length cap vb 0 1 1 (ns.map vI) [vI x] w θ hc1 θ hlen φ rfl (λhh=>by cases hh) (λa ha j v hj=>?_) hvs h1v) λe' w' ⟨he,hw'⟩=>⟨_,he,?_⟩
        · cases ha;rw[vr];exact hcs j v hj
        · generalize grownCap w (ns.length+1) cap (ρ.t 3)=gc at*
          subst hw';have gd:Grow w w.drew:=Grow.drew w;obtain⟨f1,f2,f3⟩:=Gp (sto.grow gd) ((ns.map vI++[vI x]).toArray++Builtin.zeroCells (Value.int .i64 0).cells (gc-(ns.length+1))) (ρ.t 3) (l:=(ns++[x]).map aI++List.replicate (gc-(ns.length+1)) .any) (by
            rw[Fbk];refine Reads.append ?_ ⟨ψm,λi x y hx hy=>?_⟩
            · have:=Gi (w:=w.drew) (λb o=>M b o\/Oth b o) (ns++[x])
              rw[Faz (f:=vI)]at this;exact this
            · rw[Fbu]at hx
              split at hx
              · cases hx;exact .any _
              · cases hx)
          have e2:ns.take ns.length++x::ns.drop ns.length=ns++[x]:=φ;rw[e2]at h;have:=h w.heap.size gc (List.replicate (gc-(ns.length+1)) .any) (.inl f1) (by simpa using g1) χ g2;rw[Fab]at this;exact⟨_,_,_,this,.s _,f2,(gd.chg M).trans f3⟩
      · refine Calls.mono (Any2.slices_Insert_int_grow Ly b 0 ns.length cap i vb 0 1 1 (ns.map vI) [vI x] w θ θ hc1 θ hlen φ rfl hcs hvs h1c h1v) λe' w' ⟨he,hw'⟩=>⟨_,he,?_⟩
        generalize grownCap w (ns.length+1) cap (ρ.t 3)=gc at*;subst hw';rw[<-Fep,<-List.map_drop];obtain⟨f1,f2,f3⟩:=Gp sto (((ns.take i).map vI).toArray++Builtin.zeroCells (Value.int .i64 0).cells (ns.length+1-i)++Builtin.zeroCells (Value.int .i64 0).cells (gc-(ns.length+1))) (ρ.t 3) (l:=(ns.take i).map aI++List.replicate (ns.length+1-i+(gc-(ns.length+1))) .any) (by
          rw[Array.append_assoc,Fbk];refine Reads.append (Gi _ _) ⟨ψm,λi x y hx hy=>?_⟩;rw[Fbu]at hx;split at hx
          · cases hx;exact .any _
          · cases hx)
        generalize hArr:(((ns.take i).map vI).toArray++Builtin.zeroCells (Value.int .i64 0).cells (ns.length+1-i)++Builtin.zeroCells (Value.int .i64 0).cells (gc-(ns.length+1)))=Arr at*;have hAs:Arr.size=gc:=by rw[<-hArr];simp[Builtin.zeroCells,Value.cells];omega
        have hb1:(w.alloc (.cells Arr (ρ.t 3))).drew.heap[w.heap.size]?=some (.cells Arr (ρ.t 3) (0,0)):=Ir w _;have gd1:Grow (w.alloc (.cells Arr (ρ.t 3))) (w.alloc (.cells Arr (ρ.t 3))).drew:=Grow.drew _;have hw1:=L6 [vI x] i _ _ _ _ hb1 χ;obtain⟨k1,k2⟩:=Bm (f2.grow gd1) (zd _ _ _) (Gi _ [x]) hw1;obtain⟨c',m1,_,m2⟩:=hw1.blk _ _ _ hb1;have gd2:Grow ((w.alloc (.cells Arr (ρ.t 3))).drew.setCells w.heap.size i [vI x]) ((w.alloc (.cells Arr (ρ.t 3))).drew.setCells w.heap.size i [vI x]).drew:=Grow.drew _;have hw2:=L6 ((ns.drop i).map vI) (i+1) ((w.alloc (.cells Arr (ρ.t 3))).drew.setCells w.heap.size i [vI x]).drew c' _ _ m1 χ;obtain⟨k3,k4⟩:=Bm (k1.grow gd2) (zd _ _ _) (Gi _ _) hw2;rw[yu,yu]at k3;have e1:zq (zq ((ns.take i).map aI++List.replicate (ns.length+1-i+(gc-(ns.length+1))) .any) i ([x].map aI)) (i+1) ((ns.drop i).map aI)=(ns.take i++x::ns.drop i).map aI++List.replicate (gc-(ns.length+1)) .any:=by rw[ve χ,ve χ,Fed,Fed];have q:ns.length+1-i+(gc-(ns.length+1))-([x].map aI).length-((ns.drop i).map aI).length=gc-(ns.length+1):=χ;rw[q];simp
        rw[e1]at k3;have:=h w.heap.size gc (List.replicate (gc-(ns.length+1)) .any) (.inl f1) θ (by rw[hl'];simp;omega) g2;rw[hl']at this;exact⟨_,_,_,this,.s _,k3,((((f3.trans (gd1.chg _)).trans k2).trans (gd2.chg _)).trans k4)⟩
end
section
variable {a g:Store} {b j:Nat} {x id:Int}
theorem zy(a g:Store)(b:Nat)(x:AObj):(a.un g).sO b x=a.un (g.sO b x):=by unfold Store.un Store.sO;grind
theorem Aj(a:Store):a.un Store.empty=a:=ξ
def yl3(a:Store):zi a Store.empty:=λb _ h=>h.elim (λh=>h rfl) (λh=>h rfl)
def fresh_un(h:Fresh (a.un g) b):Fresh a b/\Fresh g b:=by grind[fresh_iff,un_has]
theorem has_setObj_iff{i:Nat}{x:AObj}:(g.sO b x).has i↔i=b\/g.has i:=by grind[Store.has,zd,y9,Store.sO]
def disj_setR{x:AObj}(h:zi a g)(hb:Fresh a b):zi a (g.sO b x):=by
 intro i hi hg;rcases has_setObj_iff.1 hg with rfl|hg
 ·exact(fresh_iff.1 hb) hi
 ·exact h i hi hg
theorem Nj{x y:AObj}(h:zi a g)(hb:g.obj b=some y):zi a (g.sO b x):=by
 intro i hi hg;rcases has_setObj_iff.1 hg with rfl|hg
 ·exact h i hi (jz hb)
 ·exact h i hi hg
def zx(p:Vc):Int×Int:=(nrm p.1/131072,nrm p.2/131072)
abbrev Ent:=Int×Vc
def wk(e:Ent):AV×AV:=(int e.1,.agg (yi e.2))
structure Grp where
 x:Int
 y:Int
 ns:List Int
 b:Nat
 cap:Nat
 L:List AV
def Grp.key(g:Grp):Int×Int:=(g.x,g.y)
def wj(g:Grp):AV×AV:=(.agg [int g.x,int g.y],.s (.slice (some ⟨g.b,0,none⟩) g.ns.length g.cap))
def Grp.fits(g:Grp):Prop:=g.ns.length<=g.cap/\g.cap<=g.ns.length+g.L.length/\g.cap<=9223372036854775807
structure CellsAt(a:Store)(p ma mi:Nat)(l:List Ent)(bs1:List Nat)(c1:Nat)(G:List Grp)(bs2:List Nat)(c2:Nat):Prop where
 hp:a.obj p=some (.cells [.s (.map (some ma)),.s (.map (some mi))])
 ha:a.obj ma=some (.map (l.map wk) bs1 c1)
 hi:a.obj mi=some (.map (G.map wj) bs2 c2)
 ne:ma≠mi
 hg:∀g∈G,a.obj g.b=some (.cells (g.ns.map aI++g.L))/\g.fits/\g.b≠p
 nd:(G.map (·.b)).Nodup
structure Inv(l:List Ent)(G:List Grp):Prop where
 n1:(l.map (·.1)).Nodup
 n2:(G.map (·.key)).Nodup
 s:∀g∈G,g.ns.Pairwise (·<·)/\g.ns≠[]
 m1:∀g∈G,∀id,id∈g.ns↔∃e∈l,e.1=id/\zx e.2=g.key
 m2:∀e∈l,∃g∈G,g.key=zx e.2
def kl(a:Store)(p:Nat)(l:List Ent):Prop:=∃ma mi bs1 c1 G bs2 c2,CellsAt a p ma mi l bs1 c1 G bs2 c2/\Inv l G
def ze8(x:Int):∀{ns:List Int},ns.Pairwise (·<·)->ns.take (ns.countP (·<x))=ns.filter (·<x)/\ns.drop (ns.countP (·<x))=ns.filter (x<=·):=by
 intro ns;induction ns with
 |nil=>simp
 |cons a ns ih=>
  intro h;obtain⟨h1,h2⟩:=Fb2.1 h;grind
def ymm(x:Int)(ns:List Int):ns.countP (·<x)<=ns.length:=List.countP_le_length
def yho{ns:List Int}(h:ns.Pairwise (·<·))(hx:x∉ns):
  (ns.take (ns.countP (·<x))++x::ns.drop (ns.countP (·<x))).Pairwise (·<·)/\∀y,y∈ns.take (ns.countP (·<x))++x::ns.drop (ns.countP (·<x))↔y=x\/y∈ns:=by
 obtain⟨h1,h2⟩:=ze8 x h;rw[h1,h2];refine⟨?_,λy=>?_⟩
 ·rw[List.pairwise_append,Fb2];refine⟨h.filter _,⟨λy hy=>?_,h.filter _⟩,λa ha b hb=>?_⟩
  ·have h3:=Fbc.1 hy;have h4:x<=y:=by simpa using h3.2
   have h5:y≠x:=λe=>hx (e▸h3.1);omega
  ·have h3:=(Fbc.1 ha).2;have h3:a<x:=by simpa using h3
   rcases Fax.1 hb with rfl|hb
   ·exact h3
   ·have h4:x<=b:=by simpa using(Fbc.1 hb).2
    omega
 grind
def yma{ns:List Int}(h:ns.Pairwise (·<·))(hx:x∈ns):
  ns.countP (·<x)+1<=ns.length/\(ns.take (ns.countP (·<x))++ns.drop (ns.countP (·<x)+1)).Pairwise (·<·)/\∀y,y∈ns.take (ns.countP (·<x))++ns.drop (ns.countP (·<x)+1)↔y≠x/\y∈ns:=by
 obtain⟨h1,h2⟩:=ze8 x h;have hsub:(ns.take (ns.countP (·<x))++ns.drop (ns.countP (·<x)+1)).Sublist ns:=by grind[List.take_append_drop]
 have h3:ns.filter (x<=·)=x::ns.filter (x<·):=by
  clear h1 h2 hsub;induction ns with
  |nil=>cases hx
  |cons a ns ih=>
   obtain⟨k1,k2⟩:=Fb2.1 h;rcases Fax.1 hx with rfl|hx
   ·grind[List.filter_congr]
   grind
 have h4:ns.drop (ns.countP (·<x)+1)=ns.filter (x<·):=by rw[<-Fdr,h2,h3];rfl
 grind
theorem Fq{α β:Type}{f:α->β}:∀{G:List α} {i j:Nat} {a b:α},(G.map f).Nodup->G[i]?=some a->G[j]?=some b->f a=f b->i=j:=by
 intro G i j a b hn hi hj h;have hi':(G.map f)[i]?=some (f a):=by simp[hi]
 have hj':(G.map f)[j]?=some (f b):=by simp[hj]
 grind[List.getElem?_inj]
def Fs{α β:Type}{f:α->β}{G:List α}{g g' g1:α}(hn:(G.map f).Nodup)(hj:G[j]?=some g):g1∈G.set j g'↔g1=g'\/(g1∈G/\f g1≠f g):=by
 have hlt:=(Faw.1 hj).1;constructor
 ·intro h;obtain⟨i,hi⟩:=Fbb.1 h;by_cases hij:j=i
  ·grind
  grind[Fq]
 ·rintro(rfl|⟨h1,h2⟩)
  ·grind[List.getElem?_set_self]
  ·obtain⟨i,hi⟩:=Fbb.1 h1;have hij:j≠i:=λe=>by grind
   exact Fbb.2 ⟨i,δ⟩
def Vx{α β:Type}{f:α->β}{G:List α}{g g1:α}(hn:(G.map f).Nodup)(hj:G[j]?=some g):g1∈G.eraseIdx j↔(g1∈G/\f g1≠f g):=by
 constructor
 ·grind[List.mem_iff_getElem?,Fq]
 ·rintro⟨h1,h2⟩;obtain⟨i,hi⟩:=Fbb.1 h1;have hij:i≠j:=λe=>by grind
  refine Fbb.2 ?_;by_cases hlt:i<j
  ·exact⟨i,δ⟩
  ·refine⟨i-1,?_⟩;grind
theorem map_set_same{α β:Type}(f:α->β){G:List α}{g g':α}(hj:G[j]?=some g)(h:f g'=f g):(G.set j g').map f=G.map f:=by rw[Fc3,h];apply Fb8;grind
def yg7{G:List Grp}(hn:(G.map (·.key)).Nodup){g g1:Grp}(h:g∈G)(h1:g1∈G)(hk:g1.key=g.key):g1=g:=by grind[List.mem_iff_getElem?,Fq]
theorem Pm{l:List Ent}(hn:(l.map (·.1)).Nodup){e e1:Ent}(h:e∈l)(h1:e1∈l)(hk:e1.1=e.1):e1=e:=by obtain⟨i,hi⟩:=Fbb.1 h;obtain⟨j,hj⟩:=Fbb.1 h1;have:=Fq (f:=λ(e:Ent)=>e.1) hn hj hi hk;grind
def qm(l:List Ent)(id:Int):List Ent:=l.filter λe=>e.1 != id
theorem mem_dropId{l:List Ent}{e:Ent}:e∈qm l id↔e∈l/\e.1≠id:=by simp[qm]
def zew{l:List Ent}(h:(l.map (·.1)).Nodup):((qm l id).map (·.1)).Nodup:=h.sublist ((List.filter_sublist).map _)
def yhd{l:List Ent}{G:List Grp}(h:Inv l G){e:Ent}(he:e∈l){g:Grp}(hj:G[j]?=some g)(hk:g.key=zx e.2){ns':List Int}(hs:ns'.Pairwise (·<·))(hm:∀y,y∈ns'↔y≠e.1/\y∈g.ns):
  (ns'=[]->Inv (qm l e.1) (G.eraseIdx j))/\(ns'≠[]->∀g':Grp,g'.key=g.key->g'.ns=ns'->Inv (qm l e.1) (G.set j g')):=by
 have hgm:=Fa5 hj;have key:∀g1∈G,g1.key≠g.key->∀id,id∈g1.ns↔∃e1∈qm l e.1,e1.1=id/\zx e1.2=g1.key:=by
  intro g1 h1 h2 id;rw[h.m1 g1 h1 id];constructor
  ·rintro⟨e1,h3,h4,h5⟩;refine⟨e1,mem_dropId.2 ⟨h3,λh6=>h2 ?_⟩,h4,h5⟩;rw[<-h5,Pm h.n1 he h3 h6,hk]
  grind[mem_dropId]
 refine⟨λhn=>?_,λhn g' hk' hns=>?_⟩
 ·refine⟨zew h.n1,h.n2.sublist ((List.eraseIdx_sublist ..).map _),λg1 h1=>?_,λg1 h1=>?_,λe1 h1=>?_⟩
  ·exact h.s g1 ((Vx (f:=Grp.key) h.n2 hj).1 h1).1
  ·obtain⟨h2,h3⟩:=(Vx (f:=Grp.key) h.n2 hj).1 h1;grind
  ·obtain⟨h2,h3⟩:=mem_dropId.1 h1;obtain⟨g1,h4,h5⟩:=h.m2 e1 h2;refine⟨g1,(Vx (f:=Grp.key) h.n2 hj).2 ⟨h4,λh6=>?_⟩,h5⟩;have h7:e1.1∈g.ns:=(h.m1 g hgm e1.1).2 ⟨e1,h2,rfl,δ⟩;grind
 ·refine⟨zew h.n1,by rw[map_set_same Grp.key hj hk'];exact h.n2,λg1 h1=>?_,λg1 h1=>?_,λe1 h1=>?_⟩
  ·rcases(Fs (f:=Grp.key) h.n2 hj).1 h1 with rfl|⟨h2,_⟩
   ·grind
   ·exact h.s g1 h2
  ·rcases(Fs (f:=Grp.key) h.n2 hj).1 h1 with rfl|⟨h2,h3⟩
   ·intro id;rw[hns,hm,h.m1 g hgm,hk'];constructor
    ·rintro⟨h4,e1,h5,h6,h7⟩;grind[mem_dropId]
    grind[mem_dropId]
   grind
  ·obtain⟨h2,h3⟩:=mem_dropId.1 h1;obtain⟨g1,h4,h5⟩:=h.m2 e1 h2;by_cases h6:g1.key=g.key
   ·exact⟨g',(Fs (f:=Grp.key) h.n2 hj).2 (.inl rfl),δ⟩
   ·exact⟨g1,(Fs (f:=Grp.key) h.n2 hj).2 (.inr ⟨h4,h6⟩),h5⟩
def yhe{l:List Ent}{G:List Grp}(h:Inv l G){e:Ent}(he:∀e1∈l,e1.1≠e.1):
  (∀j g g',G[j]?=some g->g.key=zx e.2->g'.key=g.key->g'.ns.Pairwise (·<·)->(∀y,y∈g'.ns↔y=e.1\/y∈g.ns)->Inv (l++[e]) (G.set j g'))∧
  ((∀g∈G,g.key≠zx e.2)->∀g',g'.key=zx e.2->g'.ns=[e.1]->Inv (l++[e]) (G++[g'])):=by
 have n1:((l++[e]).map (·.1)).Nodup:=by rw[Faz,Fdk];refine⟨h.n1,φ,λa ha b hb=>?_⟩;grind
 have key:∀g1∈G,g1.key≠zx e.2->∀id,id∈g1.ns↔∃e1∈l++[e],e1.1=id/\zx e1.2=g1.key:=by
  intro g1 h1 h2 id;rw[h.m1 g1 h1 id];constructor
  ·simp_all
  grind
 refine⟨λj g g' hj hk hk' hs hm=>?_,λhno g' hk' hns=>?_⟩
 ·have hgm:=Fa5 hj;refine⟨n1,by rw[map_set_same Grp.key hj hk'];exact h.n2,λg1 h1=>?_,λg1 h1=>?_,λe1 h1=>?_⟩
  ·rcases(Fs (f:=Grp.key) h.n2 hj).1 h1 with rfl|⟨h2,_⟩
   ·grind
   ·exact h.s g1 h2
  ·rcases(Fs (f:=Grp.key) h.n2 hj).1 h1 with rfl|⟨h2,h3⟩
   ·intro id;rw[hm,h.m1 g hgm,hk'];constructor
    ·rintro(rfl|⟨e1,h5,h6,h7⟩)
     ·grind
     grind
    grind
   grind
  ·rcases Fas.1 h1 with h1|h1
   ·obtain⟨g1,h4,h5⟩:=h.m2 e1 h1;by_cases h6:g1.key=g.key
    ·exact⟨g',(Fs (f:=Grp.key) h.n2 hj).2 (.inl rfl),δ⟩
    ·exact⟨g1,(Fs (f:=Grp.key) h.n2 hj).2 (.inr ⟨h4,h6⟩),h5⟩
   ·simp at h1;subst h1;exact⟨g',(Fs (f:=Grp.key) h.n2 hj).2 (.inl rfl),δ⟩
 ·refine⟨n1,?_,λg1 h1=>?_,λg1 h1=>?_,λe1 h1=>?_⟩
  ·rw[Faz,Fdk];refine⟨h.n2,φ,λa ha b hb=>?_⟩;grind
  ·rcases Fas.1 h1 with h1|h1
   ·exact h.s g1 h1
   grind
  ·rcases Fas.1 h1 with h1|h1
   ·grind
   ·simp at h1;subst h1;intro id;rw[hns,hk'];constructor
    ·grind
    ·rintro⟨e1,h2,h3,h4⟩;rcases Fas.1 h2 with h2|h2
     ·obtain⟨g2,h5,h6⟩:=h.m2 e1 h2;grind
     grind
  ·rcases Fas.1 h1 with h1|h1
   ·obtain⟨g1,h4,h5⟩:=h.m2 e1 h1;grind
   grind
end
def qA(id:Int)(e:AV×AV):Bool:=match e.1 with|.s (.int _ n)=>id==n|_=>false
def qG(x y:Int)(e:AV×AV):Bool:=match e.1 with|.agg [.s (.int _ a),.s (.int _ b)]=>(x==a&&(y==b&&true))|_=>false
def Af(id:Int)(e:Ent):Bool:=id==e.1
def He(k:Int×Int)(g:Grp):Bool:=(k.1==g.x&&(k.2==g.y&&true))
theorem atKey_iff{k:Int×Int}{g:Grp}:He k g=true↔g.key=k:=by grind[He,Grp.key]
theorem zeh(l:List Ent)(id:Int):(l.map wk).find? (qA id)=(l.find? (Af id)).map wk:=by rw[List.find?_map];rfl
theorem Ww(l:List Ent)(id:Int):(l.map wk).findIdx? (qA id)=l.findIdx? (Af id):=by rw[List.findIdx?_map];rfl
theorem Pw(G:List Grp)(k:Int×Int):(G.map wj).find? (qG k.1 k.2)=(G.find? (He k)).map wj:=by rw[List.find?_map];rfl
theorem Wv(G:List Grp)(k:Int×Int):(G.map wj).findIdx? (qG k.1 k.2)=G.findIdx? (He k):=by rw[List.findIdx?_map];rfl
def Wu{α:Type}{q:α->Bool}{l:List α}{e:α}(h:l.find? q=some e):e∈l/\q e=true:=⟨Fc5 h,List.find?_some h⟩
def ykn{α:Type}{q:α->Bool}{l:List α}{i:Nat}(h:l.findIdx? q=some i):∃e,l[i]?=some e/\q e=true/\l.find? q=some e:=by grind[List.findIdx?_eq_some_iff_getElem,zef]
def mp{α:Type}{q:α->Bool}{l:List α}{e:α}(h:l.find? q=some e):∃i,l.findIdx? q=some i/\l[i]?=some e:=by
 cases hi:l.findIdx? q with
 |none=>grind
 |some i=>
  obtain⟨e',h1,_,h3⟩:=ykn hi;grind
theorem yky{l:List Ent}(hn:(l.map (·.1)).Nodup){i:Nat}{e:Ent}(hi:l[i]?=some e):l.eraseIdx i=qm l e.1:=by
 induction l generalizing i with
 |nil=>rfl
 |cons a l ih=>
  rw[Fcb,List.nodup_cons]at hn;grind[List.eraseIdx_cons_zero,qm,List.filter_eq_self]
theorem yli{l:List Ent}{id:Int}(h:l.find? (Af id)=none):qm l id=l:=by grind[qm,List.filter_eq_self,Af]
section
variable {a:Store} {p ma mi:Nat} {l:List Ent} {bs1:List Nat} {c1:Nat} {G:List Grp} {bs2:List Nat} {c2:Nat}
def CellsAt.p_ne(h:CellsAt a p ma mi l bs1 c1 G bs2 c2):ma≠p/\mi≠p:=by
 refine⟨λe=>?_,λe=>?_⟩
 ·have:=h.ha;rw[e,h.hp]at this;cases this
 ·have:=h.hi;rw[e,h.hp]at this;cases this
theorem CellsAt.g_ne(h:CellsAt a p ma mi l bs1 c1 G bs2 c2){g:Grp}(hg:g∈G):g.b≠ma/\g.b≠mi/\g.b≠p:=by
 obtain⟨h1,h2,h3⟩:=h.hg g hg;refine⟨λe=>?_,λe=>?_,h3⟩
 ·have:=h.ha;grind
 ·have:=h.hi;grind
theorem CellsAt.other(h:CellsAt a p ma mi l bs1 c1 G bs2 c2){b:Nat}(x:AObj)(hp:b≠p)(hma:b≠ma)(hmi:b≠mi)(hg:∀g∈G,b≠g.b):CellsAt (a.sO b x) p ma mi l bs1 c1 G bs2 c2:=
 ⟨by rw[zg (Ne.symm hp)];exact h.hp,by rw[zg (Ne.symm hma)];exact h.ha,by rw[zg (Ne.symm hmi)];exact h.hi,h.ne,
  λg hg'=>by rw[zg (Ne.symm (hg g hg'))];exact h.hg g hg',h.nd⟩
def CellsAt.fresh(h:CellsAt a p ma mi l bs1 c1 G bs2 c2){b:Nat}(x:AObj)(hb:Fresh a b):CellsAt (a.sO b x) p ma mi l bs1 c1 G bs2 c2:=
 h.other x (hb.ne_obj h.hp) (hb.ne_obj h.ha) (hb.ne_obj h.hi) λg hg=>hb.ne_obj (h.hg g hg).1
def CellsAt.setA(h:CellsAt a p ma mi l bs1 c1 G bs2 c2)(l':List Ent)(bs:List Nat)(c:Nat):CellsAt (a.sO ma (.map (l'.map wk) bs c)) p ma mi l' bs c G bs2 c2:=
 ⟨by rw[zg (Ne.symm h.p_ne.1)];exact h.hp,zd _ _ _,by rw[zg (Ne.symm h.ne)];exact h.hi,h.ne,
  λg hg=>by rw[zg (h.g_ne hg).1];exact h.hg g hg,h.nd⟩
theorem CellsAt.setI(h:CellsAt a p ma mi l bs1 c1 G bs2 c2){G':List Grp}(bs:List Nat)(c:Nat)(hg:∀g∈G',a.obj g.b=some (.cells (g.ns.map aI++g.L))/\g.fits/\g.b≠p)(nd:(G'.map (·.b)).Nodup):
  CellsAt (a.sO mi (.map (G'.map wj) bs c)) p ma mi l bs1 c1 G' bs c:=
 ⟨by rw[zg (Ne.symm h.p_ne.2)];exact h.hp,by rw[zg h.ne];exact h.ha,zd _ _ _,h.ne,
  λg hg'=>by
   obtain⟨h1,h2,h3⟩:=hg g hg';have:g.b≠mi:=λe=>by have:=h.hi;grind
   grind[zg],nd⟩
structure CellsMid(a:Store)(p ma mi:Nat)(l:List Ent)(bs1:List Nat)(c1:Nat)(G:List Grp)(bs2:List Nat)(c2:Nat)(b:Nat):Prop where
 hp:a.obj p=some (.cells [.s (.map (some ma)),.s (.map (some mi))])
 ha:a.obj ma=some (.map (l.map wk) bs1 c1)
 hi:a.obj mi=some (.map (G.map wj) bs2 c2)
 ne:ma≠mi
 hg:∀g∈G,g.b≠b->a.obj g.b=some (.cells (g.ns.map aI++g.L))/\g.fits/\g.b≠p
 nd:(G.map (·.b)).Nodup
def CellsAt.mid(h:CellsAt a p ma mi l bs1 c1 G bs2 c2){b:Nat}(x:AObj)(hp:b≠p)(hma:b≠ma)(hmi:b≠mi):CellsMid (a.sO b x) p ma mi l bs1 c1 G bs2 c2 b:=
 ⟨by rw[zg (Ne.symm hp)];exact h.hp,by rw[zg (Ne.symm hma)];exact h.ha,by rw[zg (Ne.symm hmi)];exact h.hi,h.ne,
  λg hg' hne=>by rw[zg hne];exact h.hg g hg',h.nd⟩
theorem CellsMid.setI{b:Nat}(h:CellsMid a p ma mi l bs1 c1 G bs2 c2 b){G':List Grp}(bs:List Nat)(c:Nat)(hg:∀g∈G',(g∈G/\g.b≠b)\/(a.obj g.b=some (.cells (g.ns.map aI++g.L))/\g.fits/\g.b≠p))(nd:(G'.map (·.b)).Nodup):
  CellsAt (a.sO mi (.map (G'.map wj) bs c)) p ma mi l bs1 c1 G' bs c:=by
 have hpi:mi≠p:=λe=>by have:=h.hi;rw[e,h.hp]at this;cases this
 refine⟨by rw[zg (Ne.symm hpi)];exact h.hp,by rw[zg h.ne];exact h.ha,zd _ _ _,h.ne,λg hg'=>?_,nd⟩;have key:a.obj g.b=some (.cells (g.ns.map aI++g.L))/\g.fits/\g.b≠p:=by grind[hg]
 obtain⟨h1,h2,h3⟩:=key;have:g.b≠mi:=λe=>by have:=h.hi;grind
 grind[zg]
end
def yc7{a:Store}{p ma mi:Nat}{l:List Ent}{bs1:List Nat}{c1:Nat}{G:List Grp}{bs2:List Nat}{c2:Nat}(ha:CellsAt a p ma mi l bs1 c1 G bs2 c2)(hi:Inv l G){id:Int}{pos:Vc}(hno:∀e∈l,e.1≠id):
  ∃cur ns,Fv false (.s (.slice none 0 0)) ((G.find? (He (zx pos))).map wj)=cur/\Ints a cur ns/\ns.Pairwise (·<·)/\(ns=[]\/∃g∈G,ns=g.ns)/\(∀b cap,cur=.s (.slice (some ⟨b,0,none⟩) ns.length cap)->a.obj b≠none)∧
   ∀vb lit b cap L,Fresh a vb->(Fresh (a.sO vb lit) b\/∃c0,cur=.s (.slice (some ⟨b,0,none⟩) ns.length c0))->
    (ns.take (ns.countP (·<id))++id::ns.drop (ns.countP (·<id))).length<=cap->cap<=(ns.take (ns.countP (·<id))++id::ns.drop (ns.countP (·<id))).length+L.length->cap<=9223372036854775807->
    ((a.sO vb lit).sO b (.cells ((ns.take (ns.countP (·<id))++id::ns.drop (ns.countP (·<id))).map aI++L))).obj mi=some (.map (G.map wj) bs2 c2)∧
    ((a.sO vb lit).sO b (.cells ((ns.take (ns.countP (·<id))++id::ns.drop (ns.countP (·<id))).map aI++L))).obj p=some (.cells [.s (.map (some ma)),.s (.map (some mi))])∧
    ∃G' bs2' c2',ku (G.map wj) bs2 c2 (qG (zx pos).1 (zx pos).2) (.agg [int (zx pos).1,int (zx pos).2]) (.s (.slice (some ⟨b,0,none⟩) (ns.take (ns.countP (·<id))++id::ns.drop (ns.countP (·<id))).length cap))=.map (G'.map wj) bs2' c2'∧
     CellsAt (((a.sO vb lit).sO b (.cells ((ns.take (ns.countP (·<id))++id::ns.drop (ns.countP (·<id))).map aI++L))).sO mi (.map (G'.map wj) bs2' c2')) p ma mi l bs1 c1 G' bs2' c2'/\Inv (l++[(id,pos)]) G':=by
 obtain⟨w1,w2⟩:=yhe (e:=(id,pos)) hi hno;cases hf:G.find? (He (zx pos))with
 |none=>
  refine⟨_,[],rfl,.inl ⟨rfl,rfl⟩,List.Pairwise.nil,.inl rfl,λb cap h=>?_,λvb lit b cap L hvb hb h1 h2 h3=>?_⟩
  ·simp[Fv]at h
  have hb:Fresh (a.sO vb lit) b:=by grind[Fv]
  simp only[List.countP_nil,List.take_nil,List.drop_nil,Fdg]at*;have a1:=ha.fresh lit hvb;have a2:=a1.fresh (.cells ([id].map aI++L)) hb;refine⟨a2.hi,a2.hp,G++[⟨(zx pos).1,(zx pos).2,[id],b,cap,L⟩],bs2++[c2],c2+1,?_,?_,?_⟩
  ·unfold ku;have:G.findIdx? (He (zx pos))=none:=by grind
   rw[Wv,this,Faz];rfl
  ·refine a2.setI _ _ (λg hg=>?_) ?_
   ·rcases Fas.1 hg with hg|hg
    ·exact a2.hg g hg
    ·simp at hg;subst hg;exact⟨zd _ _ _,⟨h1,h2,h3⟩,hb.ne_obj a1.hp⟩
   ·rw[Faz,Fdk];refine⟨ha.nd,φ,λx hx y hy=>?_⟩;obtain⟨g,hg,rfl⟩:=Fag.1 hx;simp at hy;subst hy;exact Ne.symm (hb.ne_obj (a1.hg g hg).1)
  ·refine w2 (λg hg hk=>?_) _ rfl rfl;grind[atKey_iff]
 |some g=>
  obtain⟨hg,hk⟩:=Wu hf;have hk:=atKey_iff.1 hk;obtain⟨j,hj1,hj2⟩:=mp hf;obtain⟨k1,k2,k3⟩:=ha.hg g hg;obtain⟨s1,s2⟩:=hi.s g hg;have hnin:id∉g.ns:=λh=>by obtain⟨e,he,h1,_⟩:=(hi.m1 g hg id).1 h;grind
  obtain⟨i1,i2⟩:=yho s1 hnin;refine⟨_,g.ns,rfl,.inr ⟨g.b,g.cap,g.L,rfl,k1,k2⟩,s1,.inr ⟨g,hg,rfl⟩,λb cap h=>?_,λvb lit b cap L hvb hb h1 h2 h3=>?_⟩
  ·grind[Fv,wj]
  generalize g.ns.take (g.ns.countP (·<id))++id::g.ns.drop (g.ns.countP (·<id))=ins at*;have a1:=ha.fresh lit hvb;have hbne:b≠p/\b≠ma/\b≠mi/\∀g1∈G,g1≠g->g1.b≠b:=by
   rcases hb with hb|⟨c0,hb⟩
   ·exact⟨hb.ne_obj a1.hp,hb.ne_obj a1.ha,hb.ne_obj a1.hi,λg1 hg1 _=>Ne.symm (hb.ne_obj (a1.hg g1 hg1).1)⟩
   ·have:g.b=b:=by simp[Fv,wj]at hb;exact hb.1
    subst this;obtain⟨n1,n2,n3⟩:=ha.g_ne hg;refine⟨n3,n1,n2,λg1 hg1 hne he=>hne ?_⟩;obtain⟨i,hi1⟩:=Fbb.1 hg1;have:=Fq (f:=λg:Grp=>g.b) ha.nd hi1 hj2 he;grind
  obtain⟨n3,n1,n2,n4⟩:=hbne;have mid:=a1.mid (.cells (ins.map aI++L)) n3 n1 n2
  let g2:Grp:=⟨g.x,g.y,ins,b,cap,L⟩
  have hmem:∀g1,g1∈G.set j g2->g1=g2\/(g1∈G/\g1≠g):=λg1 h=>by
   rcases(Fs (f:=Grp.key) hi.n2 hj2).1 h with h|⟨h,h'⟩
   ·grind
   grind
  refine⟨mid.hi,mid.hp,G.set j g2,bs2,c2,?_,?_,w1 j g g2 hj2 hk rfl i1 i2⟩
  ·unfold ku;rw[Wv,hj1,Fc3];simp only
   congr 2
   show _=(AV.agg [int g.x,int g.y],_)
   rw[<-hk];rfl
  ·refine mid.setI _ _ (λg1 h1'=>?_) ?_
   ·rcases hmem g1 h1' with rfl|⟨q1,q2⟩
    ·exact .inr ⟨zd _ _ _,⟨h1,h2,h3⟩,n3⟩
    grind
   ·rw[Fc3];have hlt:=(Faw.1 hj2).1;unfold List.Nodup;rw[Fbv];intro i1 i2 hl1' hl2 hlt12 he;replace he:=congrArg some he;rw[<-Fac,<-Fac]at he;rw[Fdm,Fdm]at he;simp only[Fam,Fak]at hl2 he;have nd:=ha.nd;by_cases e1:j=i1
    ·subst e1;rw[if_pos rfl,if_pos hlt,if_neg θ,Faq,Fac hl2]at he;simp at he;refine n4 G[i2] (Faa hl2) (λe=>?_) he.symm;have:=Fq (f:=Grp.key) hi.n2 (Fac hl2) hj2 (by rw[e]);omega
    ·by_cases e2:j=i2
     ·subst e2;have hl1:i1<G.length:=θ;rw[if_neg e1,if_pos rfl,if_pos hlt,Faq,Fac hl1]at he;simp at he;refine n4 G[i1] (Faa hl1) (λe=>?_) he;have:=Fq (f:=Grp.key) hi.n2 (Fac hl1) hj2 (by rw[e]);omega
     ·have hl1:i1<G.length:=θ;rw[if_neg e1,if_neg e2,Faq,Faq,Fac hl1,Fac hl2]at he;simp at he;have:=Fq (f:=λg:Grp=>g.b) nd (Fac hl1) (Fac hl2) he;omega
def Ints.fresh{st:Store}{v:AV}{ns:List Int}(h:Ints st v ns){b:Nat}(x:AObj)(hb:Fresh st b):Ints (st.sO b x) v ns:=by
 rcases h with h|⟨b1,cap,L,h1,h2,h3⟩
 ·exact .inl h
 ·exact .inr ⟨b1,cap,L,h1,by rw[zg (Ne.symm (hb.ne_obj h2))];exact h2,h3⟩
def yol{P:Program}{c:Cfg}{e:TypeId}{ie:TI}(hie:c.I e=some ie)(hsz:ie.size=1)(hby:ie.bytes=8){st:Store}{v:AV}{ns:List Int}(hv:Ints st v ns)(x:Int)(hlen:ns.length<=1000000000000){K:Ja}
  (h:∀b cap L,(Fresh st b\/∃c0,v=.s (.slice (some ⟨b,0,none⟩) ns.length c0))->(ns++[x]).length<=cap->cap<=(ns++[x]).length+L.length->cap<=9223372036854775807->
   K (.s (.slice (some ⟨b,0,none⟩) (ns++[x]).length cap)) (st.sO b (.cells ((ns++[x]).map aI++L)))):appendK P c st e (.av v) (.av (.lst 1 [[aI x]] none)) K:=by
 have hrows:kb ie.size (.av (.lst 1 [[aI x]] none))=some [[aI x]]:=by simp[kb,hsz]
 refine⟨.inr ⟨v,_,rfl,rfl,?_⟩⟩;have hl:(ns++[x]).length=ns.length+1:=φ;rcases hv with⟨rfl,rfl⟩|⟨b,cap,L,rfl,ho,h1,h2,h3⟩
 ·refine zgv hie hrows ⟨δ,φ⟩ φ (λb' cap' hb hc hc2=>?_);grind
 ·refine Ri hie (cap:=cap) ho δ h1 hrows ⟨δ,δ⟩ (λhc=>?_) (λhc b' cap' hb hc1 hc2=>?_)
  ·have hc:ns.length+1<=cap:=hc;have e1:zq (ns.map aI++L) (ns.length*ie.size) ([[aI x]]:List (List AV)).flatten=(ns++[x]).map aI++L.drop 1:=by simp_all[ve]
   have e0:ns.map (λn=>AV.s (.int .i64 n))++L=ns.map aI++L:=rfl;have:=h b cap (L.drop 1) (.inr ⟨cap,rfl⟩) θ δ h3;grind
  ·have hc1:ns.length+1<=cap':=hc1;have e1:(ns.map aI++L).take (ns.length*ie.size)++([[aI x]]:List (List AV)).flatten++List.replicate ((cap'-(ns.length+1))*ie.size) .any=(ns++[x]).map aI++List.replicate (cap'-(ns.length+1)) .any:=by simp_all
   have:=h b' cap' (List.replicate (cap'-(ns.length+1)) .any) (.inl hb) θ δ hc2;rw[hl,<-e1]at this;exact this
structure NearAt(N:Store)(b3 b4 b5 b6 p:Nat)(q:Vc)(r:Int)(v:AV)(acc:List Int):Prop where
 h3:N.obj b3=some (.cells [.s (.pointer (some ⟨p,0,none⟩))])
 h4:N.obj b4=some (.cells (yi q))
 h5:N.obj b5=some (.cells [int r])
 h6:N.obj b6=some (.cells [v])
 hv:Ints N v acc
 n36:b3≠b6
 n46:b4≠b6
 n56:b5≠b6
 nv:∀b n cap,v=.s (.slice (some ⟨b,0,none⟩) n cap)->b≠b3/\b≠b4/\b≠b5/\b≠b6
def NearAt.app{N:Store}{b3 b4 b5 b6 p:Nat}{q:Vc}{r:Int}{v:AV}{acc:List Int}(h:NearAt N b3 b4 b5 b6 p q r v acc){b cap:Nat}{L:List AV}{x:Int}
  (hb:Fresh N b\/∃c0,v=.s (.slice (some ⟨b,0,none⟩) acc.length c0)) (h1:(acc++[x]).length<=cap) (h2:cap<=(acc++[x]).length+L.length) (h3:cap<=9223372036854775807):
  NearAt ((N.sO b (.cells ((acc++[x]).map aI++L))).sO b6 (.cells [.s (.slice (some ⟨b,0,none⟩) (acc++[x]).length cap)])) b3 b4 b5 b6 p q r (.s (.slice (some ⟨b,0,none⟩) (acc++[x]).length cap)) (acc++[x]):=by
 have hne:b≠b3/\b≠b4/\b≠b5/\b≠b6:=by
  rcases hb with hb|⟨c0,hb⟩
  ·exact⟨hb.ne_obj h.h3,hb.ne_obj h.h4,hb.ne_obj h.h5,hb.ne_obj h.h6⟩
  ·exact h.nv b _ _ hb
 obtain⟨n3,n4,n5,n6⟩:=hne;refine⟨?_,?_,?_,zd _ _ _,.inr ⟨b,cap,L,rfl,?_,h1,h2,h3⟩,h.n36,h.n46,h.n56,λb' n c e=>?_⟩
 ·rw[zg h.n36,zg (Ne.symm n3)];exact h.h3
 ·rw[zg h.n46,zg (Ne.symm n4)];exact h.h4
 ·rw[zg h.n56,zg (Ne.symm n5)];exact h.h5
 ·rw[zg n6,zd];rfl
 grind
theorem Ints.un{a g:Store}{v:AV}{ns:List Int}(h:Ints g v ns):Ints (a.un g) v ns:=by
 rcases h with h|⟨b1,cap,L,h1,h2,h3⟩
 ·exact .inl h
 ·exact .inr ⟨b1,cap,L,h1,zf h2,h3⟩
section
variable {P:Program} {c:Cfg} {w:World} {st:Store} {Oth M:BB}
structure Stamps(es:List (AV×AV))(bs:List Nat)(clk:Nat):Prop where
  len:es.length=bs.length
  lt:∀t∈bs,t<clk
  inc:bs.Pairwise (·<·)
def yo7{o:Oper}{args:List AV}{m clk:Nat}{es:List (AV×AV)}{bs:List Nat}(hm:st.obj m=some (.map es bs clk)){R:Ja}(h:Stamps es bs clk->AEff P c o args st R):AEff P c o args st R:=by refine⟨λOth M w ρ hI sto hr=>?_⟩;obtain⟨⟨ms,g1,g2,g3,g4,g5,g6⟩,hM⟩:=sto.obj m _ hm;exact(h ⟨δ,g5,g6⟩).out Oth M w ρ hI sto hr
def ykk{t:Nat}{me:MapEntry}:∀{L:List MapEntry} {i:Nat},(L.map (·.born)).Pairwise (·<·)->L[i]?=some me->me.born=t->L.find? (λe=>e.born==t)=some me:=by
  intro L;induction L with
  |nil=>simp
  | cons a L ih=>
    grind[List.pairwise_cons]
def ypc{o:Oper}{x:Operand}(ho:o.op=.entry x){b m clk since:Nat}{es:List (AV×AV)}{bs seen:List Nat}{i t:Nat}{e:AV×AV}(hb:st.obj b=some (.iter m since (seen++[t]) clk))(hm:st.obj m=some (.map es bs clk))
    (he:es[i]?=some e) (hbi:bs[i]?=some t) {R:Ja} (h:R (.tup [e.1,e.2]) st):AEff P c o [.s (.pointer (some ⟨b,0,none⟩))] st R:=by
  refine⟨λOth M w ρ hI sto hr=>?_⟩;rw[ho]at hr;have hr:Reads w (λb o=>M b o\/Oth b o) [.s (.pointer (some ⟨b,0,none⟩))] [ρ x]:=θt;obtain⟨u,hx0,hx⟩:=Ii hr;simp only[Fce,and_true]at hx0;rw[<-hx0]at hx;have hx:=VRel.eq_s hx;obtain⟨⟨ms,g1,g2,g3,g4,g5,g6⟩,hM⟩:=sto.obj m _ hm;obtain⟨hit,hMb⟩:=sto.obj b _ hb;have hit:w.heap[b]?=some (.mapIter (some m) since (seen++[t]).toArray clk):=hit;have hgo:(getObj b).run P w=.ok (.mapIter (some m) since (seen++[t]).toArray clk) w:=by simp[getObj,Sem.run,hit]
  have hlt:i<ms.size:=δ;have hmi:ms[i]?=some ms[i]:=Fbn hlt;have hbt:ms[i].born=t:=δ;have hfind:ms.find? (λe=>e.born==t)=some ms[i]:=by rw[<-Array.find?_toList];exact ykk δ (by rw[Fdj];exact hmi) hbt
  have hback:(seen++[t]).toArray.back?=some t:=φ;have hrun:(execOp ρ o).run P w=.ok (.value (.tuple #[ms[i].key,ms[i].val])) w:=by simp only[execOp,ho,Instr.entry,hx,Sem.run_bind,hgo,Result.andThen_ok,hback,Cv g1,bne_self_eq_false,Fao,if_false,hfind,Sem.run_pure]
  rw[hrun];have hrel:=g3 i e ms[i] he hmi;exact⟨_,st,M,h,ko (Reads.cons hrel.1 (Reads.cons hrel.2 Reads.nil)),sto,Chg.refl _ _⟩
end
section
variable {r:Int} {g:Store}
def zcz{x:Int}(hx:0<=x)(hr:0<r)(h:x*x<r*r):x<r:=by
 by_cases h1:x<r
 ·exact h1
 ·have h2:r<=x:=θ;have h3:r*r<=x*x:=Fbm h2 h2 θ hx;omega
def ze5{a b:Int}(ha:yq a)(hb:yq b)(hr:0<r)(hr2:r<=9223372036854775807)(h:asz (qa a b)<r):qa a r<=nrm b/\nrm b<=ql a r:=by grind[D2,Gn,nrm,qa,asz,ql,Ae]
def yfb{q p:Vc}(hq:q.ok)(hp:p.ok)(hr:0<r)(hr2:r<=9223372036854775807)(h:near q p r=true):
  ((zx (qa q.1 r,qa q.2 r)).1<=(zx p).1/\(zx p).1<=(zx (ql q.1 r,ql q.2 r)).1)/\((zx (qa q.1 r,qa q.2 r)).2<=(zx p).2/\(zx p).2<=(zx (ql q.1 r,ql q.2 r)).2):=by
 unfold near at h;have h:=(of_decide_eq_true h).2;have e1:=Ny (Iw q.1 p.1);have e2:=Ny (Iw q.2 p.2);have m1:0<=asz (qa q.1 p.1)*asz (qa q.1 p.1):=Fa8 e1.1 e1.1;have m2:0<=asz (qa q.2 p.2)*asz (qa q.2 p.2):=Fa8 e2.1 e2.1;have h':asz (qa q.1 p.1)*asz (qa q.1 p.1)+asz (qa q.2 p.2)*asz (qa q.2 p.2)<r*r:=h;have d1:=ze5 hq.1 hp.1 hr hr2 (zcz e1.1 hr θ);have d2:=ze5 hq.2 hp.2 hr hr2 (zcz e2.1 hr θ);grind[Gn,mg,zx]
def yck{q:Vc}(hq:q.ok)(hr:0<r)(hr2:r<=9223372036854775807):
  (zx (qa q.1 r,qa q.2 r)).1<=(zx (ql q.1 r,ql q.2 r)).1/\(zx (qa q.1 r,qa q.2 r)).2<=(zx (ql q.1 r,ql q.2 r)).2:=by
 have key:∀a:Int,yq a->qa a r<=ql a r:=by grind[qa,ql,Ae,nrm]
 have k1:=key q.1 hq.1;have k2:=key q.2 hq.2;grind[Gn,mg,zx]
def zf4{p:Vc}(h:p.ok):(-70368744177664<=(zx p).1/\(zx p).1<=70368744177664)/\(-70368744177664<=(zx p).2/\(zx p).2<=70368744177664):=by have h1:=D2 h.1;have h2:=D2 h.2;unfold zx;omega
def NearIn(l:List Ent)(q:Vc)(r:Int)(D:Ent->Prop)(acc:List Int):Prop:=acc.Nodup/\∀id,id∈acc↔∃e∈l,e.1=id/\near q e.2 r=true/\D e
def NearIn.congr{l:List Ent}{q:Vc}{D D':Ent->Prop}{acc:List Int}(h:NearIn l q r D acc)(hD:∀e∈l,near q e.2 r=true->(D e↔D' e)):NearIn l q r D' acc:=by refine⟨h.1,λid=>?_⟩;rw[h.2 id];grind
theorem NearIn.len{l:List Ent}{q:Vc}{D:Ent->Prop}{acc:List Int}(h:NearIn l q r D acc):acc.length<=l.length:=by have:=Fbz (l₂:=l.map (·.1)) h.1 (λid hid=>by obtain⟨e,h1,h2,_⟩:=(h.2 id).1 hid;grind);grind
def NearIn.step{l:List Ent}(hn:(l.map (·.1)).Nodup){q:Vc}{D:Ent->Prop}{acc:List Int}(h:NearIn l q r D acc){e:Ent}(he:e∈l)(hD:¬D e):NearIn l q r (λe'=>D e'\/e'=e) (if near q e.2 r then acc++[e.1]else acc):=by
 cases hnr:near q e.2 r with
 |false=>
  refine h.congr λe' he' hn'=>⟨.inl,λhh=>hh.elim id λhh=>?_⟩
  grind
 |true=>
  refine⟨?_,λid=>?_⟩
  ·rw[if_pos rfl,Fdk];refine⟨h.1,φ,λa ha b hb=>?_⟩;simp at hb;subst hb;intro hab;subst hab;obtain⟨e',h1,h2,_,h4⟩:=(h.2 _).1 ha;grind[Pm]
  ·rw[if_pos rfl,Fas,h.2 id];grind
def yiw{l:List Ent}{G:List Grp}(h:Inv l G):G.length<=l.length:=by
 have h1:(G.map λg=>g.ns.headD 0).Nodup:=by
  unfold List.Nodup;rw[List.pairwise_map];have n2:=h.n2;unfold List.Nodup at n2;rw[List.pairwise_map]at n2;have key:∀g∈G,g.ns.headD 0∈g.ns:=λg hg=>by
   have:=(h.s g hg).2;cases hns:g.ns with
   |nil=>grind
   |cons a t=>simp
  rw[Fbv]at n2⊢;intro i j hi hj hij he;obtain⟨e1,q1,q2,q3⟩:=(h.m1 G[i] (Faa hi) _).1 (key _ (Faa hi));obtain⟨e2,q4,q5,q6⟩:=(h.m1 G[j] (Faa hj) _).1 (key _ (Faa hj));refine n2 i j hi hj hij ?_;rw[<-q3,<-q6,Pm h.n1 q4 q1 θ]
 have:=Fbz (l₂:=l.map (·.1)) h1 (λid hid=>by
  obtain⟨g,hg,rfl⟩:=Fag.1 hid;have:=(h.s g hg).2;cases hns:g.ns with
  |nil=>grind
  |cons a t=>
   obtain⟨e,q1,q2,_⟩:=(h.m1 g hg a).1 δ;grind)
 grind
def yfy{xs:List Int}(h:xs.Nodup):(xs.mergeSort λx y=>decide (x<=y)).Pairwise (·<·)/\∀n,n∈(xs.mergeSort λx y=>decide (x<=y))↔n∈xs:=by have h1:=List.pairwise_mergeSort (le:=λx y:Int=>decide (x<=y)) (λa b c h1 h2=>δ) (λa b=>δ) xs;have h2:(xs.mergeSort λx y=>decide (x<=y)).Nodup:=(List.mergeSort_perm xs _).nodup_iff.2 h;refine⟨?_,λn=>List.mem_mergeSort⟩;have h3:=h1.and h2;grind
def Rn(l:List Ent)(q:Vc)(r:Int)(ns:List Int):Prop:=ns.Pairwise (·<·)/\∀id,id∈ns↔∃e∈l,e.1=id/\near q e.2 r=true
theorem Dp{a:Store}{b:Nat}{x:AObj}(h:¬g.has b):(a.un g).sO b x=(a.sO b x).un g:=by obtain⟨h1,h2⟩:=ke h;unfold Store.un Store.sO;grind[y9]
def ni{a:Store}{b:Nat}{x:AObj}(h:zi a g)(hb:¬g.has b):zi (a.sO b x) g:=by
 intro i hi hg;rcases has_setObj_iff.1 hi with rfl|hi
 ·grind
 ·exact h i hi hg
def yl2{a:Store}{b:Nat}{x y:AObj}(h:zi (a.sO b x) g):zi (a.sO b y) g/\¬g.has b:=by
 have h1:¬g.has b:=h b (has_setObj_iff.2 (.inl rfl));refine⟨λi hi hg=>?_,h1⟩;rcases has_setObj_iff.1 hi with rfl|hi
 ·grind
 ·exact h i (has_setObj_iff.2 (.inr hi)) hg
def zee{l:List Ent}(hn:(l.map (·.1)).Nodup){e:Ent}(he:e∈l):l.find? (Af e.1)=some e:=by
 cases hf:l.find? (Af e.1)with
 |none=>
  grind[Af]
 |some e'=>
  grind[Af,Pm]
end
def Be:Option Nat->Int|some i=>(i:Int)|none=>-1
theorem Ob(a b c:Store):(a.un b).un c=a.un (b.un c):=by unfold Store.un;grind
theorem kj(a:Store):Store.empty.un a=a:=by
 unfold Store.un Store.empty
 congr<;>funext i
 ·grind
 grind
def disj_un{a b c:Store}:zi (a.un b) c↔zi a c/\zi b c:=
 ⟨λh=>⟨λi h1=>h i (un_has.2 (.inl h1)),λi h1=>h i (un_has.2 (.inr h1))⟩,λ⟨h1,h2⟩ i h=>(un_has.1 h).elim (h1 i) (h2 i)⟩
def zi7{a g:Store}:(a.un g).Le g:=⟨λb y h=>⟨y,zf h,AObj.le_refl y⟩,λb x h=>Dq h⟩
def AWp.leS{P:Program}{c:Cfg}{code:Code}{Q:Exit->Fr->Store->Prop}{A:Fr}{st st':Store}(hle:st.Le st')(h:AWp P c code Q A st'):AWp P c code Q A st:=by
 refine⟨λOth M a w ⟨β,s⟩=>h.out Oth M a w ⟨β,{tsz:=s.tsz,dfr:=s.dfr,tm:=s.tm,bx:=s.bx,inj:=s.inj,sep:=λk b hk hb=>s.sep k b hk ?_,sto:=s.sto.weakenLe hle}⟩⟩;rcases hb with hb|hb
 ·cases hx:st'.obj b with
  |none=>grind
  |some y=>
   obtain⟨x,h1,_⟩:=hle.obj b y hx;grind
 ·cases hx:st'.tok b with
  |none=>grind
  |some y=>exact .inr (by rw[hle.tok b y hx];simp)
theorem qn{st:Store}{x:AV}{Oth M:BB}{w:World}{v:Value}(h:VRel w (λb o=>M b o\/Oth b o) x v):VRel w (λb o=>(M b o\/Oth b o)/\st.obj b=none) x v:=
 h.mono λ_ _ h=>h.1
structure Bld where
 id:Int
 owner:Int
 x:Int
 y:Int
 w:Int
 h:Int
 deriving DecidableEq
structure Unt where
 id:Int
 owner:Int
 kind:Int
 pos:Vc
 goal:Int
 next:Int
 stuck:Int
 inn:Int
 state:Int
 deriving DecidableEq
structure Wld where
 tick:Int
 players:Int
 next:Int
 G:Gnd
 B:List Bld
 U:List Unt
 deriving DecidableEq
def zl(b:Bld):List AV:=[int b.id,int b.owner,int b.x,int b.y,int b.w,int b.h]
def zm(u:Unt):List AV:=[int u.id,int u.owner,int u.kind,int u.pos.1,int u.pos.2,int u.goal,int u.next,int u.stuck,int u.inn,int u.state]
def zt(w:Wld):List AV:=[int w.tick,int w.players,int w.next,int w.G.W,int w.G.H,qx w.G.T,lst 6 zl w.B,lst 10 zm w.U]
def Wld.fits(w:Wld):Prop:=w.G.fits/\w.B.length<=1000000000000/\w.U.length<=1000000000000
def zz(k:Int):Int:=if k=0 then 24576 else if k=2 then 81920 else 32768
def wh(k:Int):Int:=if k=0 then 16384 else if k=1 then 24576 else if k=2 then 8192 else 16384
def qo(k:Int):Int:=if k=0 then 0 else if k=1 then 1 else if k=2 then 0 else 2
def ki(k:Int):Int:=if k=2 then 1 else 0
def jy(k:Int):Int:=if k=0 then 0 else if k=1 then 0 else if k=2 then 0 else 4
def K9(k:Int):List AV:=[int (zz k),int (wh k),int (qo k),int (ki k),int (jy k)]
def Gt(k:Int):Prop:=0<=k/\k<=3
def Dt(c:Int)(t:Nat):Int:=((if c=0 then [2,1,3,5,0,0]else if c=1 then [2,1,6,0,0,0]else [2,1,0,3,2,0]):List Int).getD t 0
def qb(b:Bld):Prop:=(1<=b.id/\b.id<=1099511627776)/\(1<=b.owner/\b.owner<=8)/\(1<=b.w/\b.w<=4)/\(1<=b.h/\b.h<=4)
def onP(g:Gnd)(b:Bld):Prop:=(0<=b.x/\b.x+b.w<=g.W)/\(0<=b.y/\b.y+b.h<=g.H)
def Dc(g:Gnd)(b:Bld)(t:Nat):Prop:=(b.x<=(t:Int)%g.W/\(t:Int)%g.W<b.x+b.w)/\(b.y<=(t:Int)/g.W/\(t:Int)/g.W<b.y+b.h)
instance(g:Gnd)(b:Bld)(t:Nat):Decidable (Dc g b t):=inferInstanceAs (Decidable (_/\_))
def Gz(g:Gnd)(b:Bld):Prop:=∀t,t<g.T.length->Dc g b t->(g.T.getD t 0).toNat<=1
def w9(a b:Bld):Prop:=(a.x<b.x+b.w/\b.x<a.x+a.w)/\(a.y<b.y+b.h/\b.y<a.y+a.h)
def Ss(l:List Bld):Prop:=∀j,(h:j<l.length)->0<j->(l[j-1]'θ).id<l[j].id
def yk(l:List Unt):Prop:=∀j,(h:j<l.length)->0<j->(l[j-1]'θ).id<l[j].id
def ce(l:List Bld):Prop:=∀j,(h:j<l.length)->∀i,(hi:i<j)->¬w9 l[j] (l[i]'θ)
def Ls(g:Gnd)(l:List Bld):Prop:=l.length<=256/\Ss l/\(∀b∈l,qb b/\onP g b/\Gz g b)/\ce l
def j1(g:Gnd)(l:List Bld)(t:Nat):Bool:=l.any λb=>decide (Dc g b t)
def yy(g:Gnd)(l:List Bld)(c:Int)(t:Nat):Bool:= !j1 g l t&&decide (0<Dt c (g.T.getD t 0).toNat)
def tx(g:Gnd)(t:Nat):Int:=(t:Int)%g.W*65536
def ty(g:Gnd)(t:Nat):Int:=(t:Int)/g.W*65536
def off(x lo:Int):Int:=if x<lo then lo-x else if x>lo+65536 then x-(lo+65536)else 0
def vj(g:Gnd)(t:Nat)(p:Vc)(r:Int):Prop:=off p.1 (tx g t)*off p.1 (tx g t)+off p.2 (ty g t)*off p.2 (ty g t)<r*r
instance(g:Gnd)(t:Nat)(p:Vc)(r:Int):Decidable (vj g t p r):=inferInstanceAs (Decidable (_<_))
def De(g:Gnd)(l:List Bld)(c:Int)(p:Vc)(r:Int):Prop:=
 ((r<=p.1/\p.1+r<=g.W*65536)/\(r<=p.2/\p.2+r<=g.H*65536))/\∀t,t<g.T.length->yy g l c t=false->¬vj g t p r
def Av(p:Vc)(r:Int)(q:Vc)(s:Int):Bool:= !near p q (r+s)
def xo(w:Wld)(id k:Int)(p:Vc):Prop:=
 De w.G w.B (qo k) p (zz k)/\∀u∈w.U,u.inn=0->u.id≠id->Av p (zz k) u.pos (zz u.kind)=true
def Ca(g:Gnd)(t:Int):Prop:=t=-1\/(0<=t/\t<g.W*g.H)
def ka(w:Wld)(u:Unt):Prop:=
 ((1<=u.id/\u.id<w.next)/\(1<=u.owner/\u.owner<=w.players)/\Gt u.kind)/\(Ca w.G u.goal/\Ca w.G u.next/\(0<=u.stuck/\u.stuck<8))∧
 ((0<=u.state/\u.state<=4)/\(u.state=1↔u.goal≠-1))/\(u.goal=-1->u.next=-1/\u.stuck=0)
def Pn(w:Wld):Prop:=
 ((0<=w.tick/\w.tick<=1099511627776)/\(1<=w.players/\w.players<=8)/\(1<=w.next/\w.next<=1099511627776))∧
 (zv w.G/\Ls w.G w.B/\w.U.length<=4096)/\∀b∈w.B,b.owner<=w.players/\b.id<w.next
def Oa(w:Wld):Prop:=yk w.U/\∀u∈w.U,ka w u/\∀b∈w.B,b.id≠u.id
def z8(l:List Unt)(id:Int):List Int:=(l.filter λu=>u.inn==id).map (·.id)
def Gh(w:Wld)(u:Unt):Prop:=
 ∃x∈w.U,x.id=u.inn/\(x.inn=0/\x.owner=u.owner)/\((z8 w.U u.inn).length:Int)<=jy x.kind/\jy u.kind=0/\u.pos=(0,0)/\u.goal=-1/\u.state=0
def yc(w:Wld):Prop:=(Pn w/\Oa w)/\(∀u∈w.U,u.inn=0->xo w u.id u.kind u.pos)/\∀u∈w.U,u.inn≠0->Gh w u
theorem zgj(a b:Int):(a==b)=decide (a=b):=ξ
def xc{g:Gnd}(h:zv g):1<=g.W*g.H/\g.W*g.H<=16384/\(g.T.length:Int)=g.W*g.H:=by obtain⟨⟨h1,h2⟩,⟨h3,h4⟩,h5,_⟩:=h;have:1*1<=g.W*g.H:=Fbm h1 h3 ψ θ;have:g.W*g.H<=128*128:=Fbm h2 h4 θ ψ;omega
section
variable {x r w:Int} {g:Gnd} {t:Nat}
theorem rj{a b:Vc}(h1:-2305843009213693952<=a.1/\a.1<=2305843009213693952)(h2:-2305843009213693952<=a.2/\a.2<=2305843009213693952)(h3:-2305843009213693952<=b.1/\b.1<=2305843009213693952)(h4:-2305843009213693952<=b.2/\b.2<=2305843009213693952):
  xq a b=(a.1-b.1,a.2-b.2):=by
 have n:∀x:Int,-4611686018427387904<=x/\x<=4611686018427387904->nrm x=x:=λx hx=>by unfold nrm;omega
 have c:∀x:Int,-4611686018427387904<=x/\x<=4611686018427387904->Ae x=x:=λx hx=>by unfold Ae;omega
 grind[xq,qa,ql]
theorem o7(h:-4611686018427387904<=x/\x<=4611686018427387904):asz x*asz x=x*x:=by
 have n:nrm x=x:=by unfold nrm;omega
 grind[asz]
theorem ii{a b:Vc}(h1:-2305843009213693952<=a.1/\a.1<=2305843009213693952)(h2:-2305843009213693952<=a.2/\a.2<=2305843009213693952)(h3:-2305843009213693952<=b.1/\b.1<=2305843009213693952)(h4:-2305843009213693952<=b.2/\b.2<=2305843009213693952)(hr:0<r):
  near a b r=decide ((a.1-b.1)*(a.1-b.1)+(a.2-b.2)*(a.2-b.2)<r*r):=by
 unfold near sqr;rw[rj h1 h2 h3 h4,o7 θ,o7 θ];grind
def H6(hg:zv g){t:Nat}(ht:(t:Int)<g.W*g.H):(0<=(t:Int)%g.W/\(t:Int)%g.W<g.W)/\(0<=(t:Int)/g.W/\(t:Int)/g.W<g.H):=by obtain⟨⟨h1,h2⟩,⟨h3,h4⟩,_⟩:=hg;have h5:=Fdy (t:Int) (show g.W≠0 by omega);have h6:=Fdd (t:Int) (show 0<g.W by omega);have h7:0<=(t:Int)/g.W:=Fcu θ θ;have h8:(t:Int)/g.W<g.H:=Fd8 θ δ;omega
def Oh(hw:1<=w):(t:Int).tdiv w=(t:Int)/w:=Fbd θ
def Og(hw:1<=w):(t:Int).tmod w=(t:Int)%w:=Fdn θ
def Oe(hg:zv g){t:Nat}(ht:(t:Int)<g.W*g.H):(0<=tx g t/\tx g t<=8323072)/\(0<=ty g t/\ty g t<=8323072):=by have:=H6 hg ht;obtain⟨⟨h1,h2⟩,⟨h3,h4⟩,_⟩:=hg;unfold tx ty;omega
def Hb(x lo:Int):Int:=min2 (max2 x lo) (lo+65536)
theorem min2_eq(a b:Int):min2 a b=min a b:=by grind[min2]
theorem max2_eq(a b:Int):max2 a b=max a b:=by grind[max2]
theorem zfw(x lo:Int):Hb x lo=min (max x lo) (lo+65536):=by unfold Hb;rw[min2_eq,max2_eq]
theorem zfv(x lo:Int):(x-Hb x lo)*(x-Hb x lo)=off x lo*off x lo:=by rw[zfw];unfold off;grind
def bq{lo:Int}(h:0<=lo/\lo<=8323072):0<=Hb x lo/\Hb x lo<=8388608:=by rw[zfw];omega
def yfd(hg:zv g){t:Nat}(ht:(t:Int)<g.W*g.H){p:Vc}(hp:ji p.1 p.2)(hr:0<r):
  near p (Hb p.1 (tx g t),Hb p.2 (ty g t)) r=decide (vj g t p r):=by
 have hb:=Oe hg ht;have h1:=bq (x:=p.1) hb.1;have h2:=bq (x:=p.2) hb.2;obtain⟨h3,h4⟩:=hp;rw[ii θ θ θ θ hr];dsimp only;rw[zfv,zfv];rfl
def Sb{a:Int}(ha:0<=a)(hr:0<r)(h:a*a<r*r):a<r:=by apply Decidable.byContradiction;intro hn;have:r*r<=a*a:=Fbm θ θ θ ha;omega
end
section
variable {b:Nat} {P:Program} {c:Cfg} {A:Fr}
def Store.dO(st:Store)(b:Nat):Store:={st with obj:=λi=>bif Nat.beq i b then none else st.obj i}
theorem G8{st:Store}{b':Nat}{x:AObj}(h:(st.dO b).obj b'=some x):b'≠b/\st.obj b'=some x:=by have h:(bif Nat.beq b' b then none else st.obj b')=some x:=h;grind[Nat.beq_refl]
theorem AWp.freeze{code:Code}{Q:Exit->Fr->Store->Prop}{st:Store}{d n cap k:Nat}{rows:List (List AV)}{pad:List AV}
    (hA:A.t d=.av (.s (.slice (some ⟨b,0,none⟩) n cap))) (ho:st.obj b=some (.cells (rows.flatten++pad))) (ht:st.tok b=none) (hn:rows.length=n) (hcap:n<=cap)
    (hk:∀row∈rows,row.length=k) (hall:∀row∈rows,∀x∈row,∃v,x=AV.s v/\qw v=true)
    (h:AWp P c code Q (A.put d (.av (.lst k rows none))) (st.dO b)):AWp P c code Q A st:=by
  refine⟨λOth M a w ⟨β,sim⟩=>?_⟩;have hs:∀b' o,((M b' o/\b'≠b)\/Oth b' o)->(M b' o\/Oth b' o):=λ_ _ h=>h.imp (·.1) id;have sim':SimB c.N Oth β (A.put d (.av (.lst k rows none))) (st.dO b) (λb' o=>M b' o/\b'≠b) a w:=by
    refine{tsz:=sim.tsz,dfr:=sim.dfr.sub λ_ _ h=>h.1,tm:=λi=>?_,bx:=λj l hj=>⟨(sim.bx j l hj).1.mono hs,λo=>⟨(sim.bx j l hj).2 o,?_⟩⟩,inj:=sim.inj,sep:=λj b' hj hb'=>?_,sto:=?_}
    · by_cases hi:i=d
      · subst hi
        have e:(A.put i (.av (.lst k rows none))).t i=.av (.lst k rows none):=by show(bif Nat.beq i i then _ else A.t i)=_;simp
        rw[e];have h1:=sim.tm i;rw[hA]at h1;have h1:VRel w (λb o=>M b o\/Oth b o) (.s (.slice (some ⟨b,0,none⟩) n cap)) (a.tmps.getD i undef):=h1;generalize a.tmps.getD i undef=v at h1;cases h1;obtain⟨⟨cs,e0,fr,hb0,huf,hlen,hrel⟩,hM⟩:=sim.sto.obj b _ ho;subst hn;have at1:∀(i:Nat) (row:List AV) (j:Nat) (x:AV),rows[i]?=some row->row[j]?=some x->∃v,x=.s v/\qw v=true/\cs[i*k+j]?=some v:=by
          intro i row j x hi hj;obtain⟨v,rfl,hv⟩:=hall row (Fa5 hi) x (Fa5 hj);have h5:=Ix hk hi hj;have hlt:=(Faw.1 h5).1;have h6:(rows.flatten++pad)[i*k+j]?=some (.s v):=δ;have hlt2:i*k+j<cs.size:=δ;have h7:=hrel _ _ cs[i*k+j] h6 (by simp[hlt2]);have:cs[i*k+j]=v:=by generalize cs[i*k+j]=y at h7;cases h7;rfl
          grind
        refine VRel.lst rows none b 0 cap k (λp=>cs.getD p undef) hcap (λi row hi=>hk row (Fa5 hi)) (λ_ h=>ω) (λi row j x hi hj=>?_) (λi row j x hi hj=>?_) (λi row j x hi hj=>?_)
        · obtain⟨v,rfl,hv,h5⟩:=at1 i row j x hi hj
          refine⟨?_,?_⟩
          · simp_all[World.cell?]
          · rintro(⟨_,h⟩|h)
            · omega
            · exact sim.sto.dis _ _ h (hM _)
        · obtain⟨v,rfl,hv,h5⟩:=at1 i row j x hi hj
          simp_all
        · obtain⟨v,rfl,hv,h5⟩:=at1 i row j x hi hj
          rw[Fbi,h5];exact .s _
      · have e:(A.put d (.av (.lst k rows none))).t i=A.t i:=by
          show(bif Nat.beq i d then _ else A.t i)=_;grind[kk]
        rw[e];have h1:=sim.tm i;generalize A.t i=x at h1;cases x with
        |any=>trivial
        |und=>exact h1
        |av x=>exact VRel.mono hs h1
        |bx k off=>exact h1
    · exact sim.sep j b (λe=>by rw[show A.bx j=some l from hj]at e;cases e) (.inl δ)
    · refine sim.sep j b' hj ?_
      rcases hb' with hb'|hb'
      · cases hx:(st.dO b).obj b' with
        |none=>grind
        |some y=>grind[G8]
      · exact .inr hb'
    · exact { obj:=λb' y hy=>⟨(sim.sto.obj b' y (G8 hy).2).1.mono hs,λo=>⟨(sim.sto.obj b' y (G8 hy).2).2 o,(G8 hy).1⟩⟩
              tok:=λb' top htk=>ψy
              mlt:=λb' o hm=>sim.sto.mlt b' o hm.1,olt:=sim.sto.olt,dis:=λb' o ho hm=>sim.sto.dis b' o ho hm.1}
  refine Code.wpF_mono ?_ (h.out Oth _ a w ⟨β,sim'⟩);rintro e a' w' ⟨A',st',M',h1,h2,h3⟩;exact⟨A',st',M',h1,h2,{size:=h3.size,keep:=λb' o hb hm=>h3.keep b' o hb λh=>hm h.1,blk:=λb' hb hm=>h3.blk b' hb λo h=>hm o h.1,shp:=h3.shp,sub:=λb' o hm hb=>(h3.sub b' o hm hb).1,tape:=h3.tape,os:=h3.os,output:=h3.output}⟩
def AWp.loopA{σ:Type}(H:LoopHead σ){b:Code}{Q:Exit->Fr->Store->Prop}{st:Store}(h0:H.at A st λ_=>True)
    (round:∀s st,H.inv s st->AWp P c b (zak H s Q) (Hq (H.t s) (H.bx s)) st):AWp P c (.loop b) Q A st:=by
  obtain⟨s0,_,hi0,ht0,hb0⟩:=h0;refine⟨λOth M a w sim=>?_⟩
  refine wpIn_loop_ghost (λn a' w'=>∃s st' M',H.μ s=n/\H.inv s st'/\Sim c.N Oth (Hq (H.t s) (H.bx s)) st' M' a' w'/\Chg M w M' w') (H.μ s0)
    ⟨s0,st,M,rfl,hi0,sim.fits ht0 hb0 (Store.Has.refl st),Chg.refl M w⟩ ?_
  rintro n a' w' ⟨s,st',M',rfl,hi,hsim,hchg⟩;refine Code.wpF_mono ?_ ((round s st' hi).out Oth M' a' w' hsim);rintro e a'' w'' ⟨A'',st'',M'',h1,h2,h3⟩;cases e with
  | normal=>
    obtain⟨s',hlt,hi',ht',hb'⟩:=h1;exact⟨H.μ s',hlt,s',st'',M'',rfl,hi',h2.fits ht' hb' (Store.Has.refl st''),hchg.trans h3⟩
  |_=>exact⟨A'',st'',M'',h1,h2,hchg.trans h3⟩
end
section
variable {g:Gnd} {n t i:Nat}
theorem nj{st:Store}{b:Nat}{x:AObj}(h:st.obj b=none):(st.sO b x).dO b=st:=by
 unfold Store.sO Store.dO
 congr 1
 funext i
 by_cases hi:i=b
 ·subst hi;simp[h]
 ·simp[y9 hi]
def Bz(W:Int)(b:Bld)(y k:Nat):List Int:=(List.range k).map λ(x:Nat)=>b.x+(x:Int)+W*(b.y+(y:Int))
def Cs(W:Int)(b:Bld)(k:Nat):List Int:=(List.range k).flatMap λy=>Bz W b y b.w.toNat
def wt(W:Int)(b:Bld):List Int:=Cs W b b.h.toNat
theorem zj1(W:Int)(b:Bld)(y k:Nat):Bz W b y (k+1)=Bz W b y k++[b.x+(k:Int)+W*(b.y+(y:Int))]:=by unfold Bz;rw[Fc7];simp
theorem dv(W:Int)(b:Bld)(k:Nat):Cs W b (k+1)=Cs W b k++Bz W b k b.w.toNat:=by unfold Cs;rw[Fc7];simp
theorem sn(W:Int)(b:Bld)(y k:Nat):(Bz W b y k).length=k:=by unfold Bz;simp
theorem dw(W:Int)(b:Bld)(k:Nat):(Cs W b k).length=k*b.w.toNat:=by
 induction k with
 |zero=>simp[Cs]
 |succ k ih=>rw[dv,Fab,ih,sn,Fdv]
def dz(W:Int){b:Bld}(hb:qb b):(wt W b).length<=16:=by unfold wt;rw[dw];unfold qb at hb;have:b.h.toNat*b.w.toNat<=4*4:=Fdp θ θ;omega
def Oj(hg:zv g){x y:Int}(hx:0<=x/\x<g.W)(hy:0<=y/\y<g.H):
  0<=x+g.W*y/\x+g.W*y<g.W*g.H/\(x+g.W*y)%g.W=x/\(x+g.W*y)/g.W=y:=by
 obtain⟨⟨h1,h2⟩,⟨h3,h4⟩,_⟩:=hg;have a1:0<=g.W*y:=Fa8 θ hy.1;have a2:g.W*y<=g.W*(g.H-1):=Fda θ θ;have a3:g.W*(g.H-1)=g.W*g.H-g.W:=by rw[Int.mul_sub,Int.mul_one]
 refine⟨θ,θ,?_,?_⟩
 ·rw[Int.add_mul_emod_self_left];exact Fen hx.1 hx.2
 ·rw[Int.add_mul_ediv_left _ _ θ,Fd0 hx.1 hx.2];omega
theorem Hr(hg:zv g){b:Bld}(hb:qb b)(ho:onP g b)(t:Int):t∈wt g.W b↔∃n:Nat,t=(n:Int)/\(n:Int)<g.W*g.H/\Dc g b n:=by
 have hb':=hb;have ho':=ho;unfold qb at hb';unfold onP at ho';unfold wt Cs Bz;rw[List.mem_flatMap];constructor
 ·rintro⟨y,hy,hx⟩;obtain⟨x,hx2,rfl⟩:=Fag.1 hx;have hy:=Fbf.1 hy;have hx:=Fbf.1 hx2;obtain⟨q1,q2,q3,q4⟩:=Oj hg (x:=b.x+x) (y:=b.y+y) θ θ;refine⟨(b.x+(x:Int)+g.W*(b.y+(y:Int))).toNat,θ,θ,?_⟩;unfold Dc;rw[show(((b.x+(x:Int)+g.W*(b.y+(y:Int))).toNat:Nat):Int)=b.x+(x:Int)+g.W*(b.y+(y:Int)) by omega,q3,q4];omega
 ·rintro⟨n,rfl,hn,hh⟩;unfold Dc at hh;refine⟨((n:Int)/g.W-b.y).toNat,Fbf.2 θ,Fag.2 ⟨((n:Int)%g.W-b.x).toNat,Fbf.2 θ,?_⟩⟩;have:=Fd7 (n:Int) g.W;rw[show(((n:Int)%g.W-b.x).toNat:Int)=(n:Int)%g.W-b.x by omega,show(((n:Int)/g.W-b.y).toNat:Int)=(n:Int)/g.W-b.y by omega];rw[show b.x+((n:Int)%g.W-b.x)=(n:Int)%g.W by omega,show b.y+((n:Int)/g.W-b.y)=(n:Int)/g.W by omega];exact this
def bl(n:Nat)(f:Nat->Bool):List AV:=(List.range n).map λt=>bool (f t)
theorem Dh(n:Nat)(f:Nat->Bool):(bl n f).length=n:=by simp[bl]
theorem I2{f:Nat->Bool}(h:t<n):(bl n f)[t]?=some (bool (f t)):=by simp[bl,h]
theorem br(n:Nat):List.replicate n (AV.s (.bool false))=bl n λ_=>false:=by unfold bl;rw[List.map_const',Fcn];rfl
theorem Nw{f:Nat->Bool}(h:t<n)(g:Nat->Bool)(hg:∀s,s≠t->g s=f s):zq (bl n f) t [bool (g t)]=bl n g:=by
 unfold zq;apply Fb8;intro s;by_cases h1:s<t
 ·rw[Fat,Fa3 (by rw[Fah,Dh];omega),Fca h1,I2 θ,I2 θ,hg s θ]
 ·by_cases h2:s=t
  ·subst h2;rw[Fat,Fa6 (by rw[Fah,Dh];omega),Fah,Dh,show s-min s n=0 by omega,I2 h];rfl
  ·rw[Fa6 (by rw[Fab,Fah,Dh];simp;omega),Fab,Fah,Dh,Fbw];by_cases h3:s<n
   ·have e:t+[bool (g t)].length+(s-(min t n+[bool (g t)].length))=s:=χ;rw[e,I2 h3,I2 h3,hg s h2]
   ·rw[Fbl (by rw[Dh];simp;omega),Fbl θl]
def kx(g:Gnd)(l:List Bld)(i:Nat)(ts:List Int)(k:Nat)(t:Nat):Bool:=j1 g (l.take i) t||(ts.take k).contains (t:Int)
def zfc(g:Gnd)(l:List Bld)(i:Nat)(ts:List Int)(t:Nat):kx g l i ts 0 t=j1 g (l.take i) t:=by simp[kx]
def zfd{l:List Bld}{ts:List Int}{k n:Nat}(hk:k<ts.length)(hn:ts[k]=(n:Int)):
  kx g l i ts (k+1) n=true/\∀s,s≠n->kx g l i ts (k+1) s=kx g l i ts k s:=by
 unfold kx;rw[Fad hk,hn];refine⟨φ,λs hs=>?_⟩;rw[List.contains_append];have:[((n:Nat):Int)].contains (s:Int)=false:=χ;rw[this,Bool.or_false]
def zfe(hg:zv g){l:List Bld}(hi:i<l.length)(hb:qb l[i]/\onP g l[i])(ht:t<g.T.length):
  kx g l i (wt g.W l[i]) (wt g.W l[i]).length t=j1 g (l.take (i+1)) t:=by
 have ha:=xc hg;unfold kx j1;rw[Faj,Fad hi,List.any_append]
 congr 1
 rw[Fcv,List.contains_iff_mem,Hr hg hb.1 hb.2];simp only[List.any_cons,List.any_nil,Bool.or_false,decide_eq_true_eq];constructor
 ·rintro⟨n,h1,_,h2⟩;have:n=t:=θ;subst this;exact h2
 ·intro h;exact⟨t,rfl,θ,h⟩
def qu(b:Bool):List AV:=[bool b]
def blL(n:Nat)(f:Nat->Bool):List Bool:=(List.range n).map f
theorem Hd(n:Nat)(f:Nat->Bool):(blL n f).length=n:=by simp[blL]
theorem I3{f:Nat->Bool}(h:t<n):(blL n f)[t]'(by rw[Hd];exact h)=f t:=by simp[blL]
theorem yn2(n:Nat)(f:Nat->Bool):(rws qu (blL n f)).flatten=bl n f:=by
 unfold rws blL bl qu;induction List.range n with
 |nil=>rfl
 |cons a l ih=>simp at ih⊢;exact ih
def yn4{f:Nat->Bool}(h:t<n):(rws qu (blL n f))[t]?=some (qu (f t)):=by unfold rws blL;simp[h]
end
section
variable {g:Gnd}
theorem zj0(W:Int)(b:Bld)(y k:Nat):(Bz W b y k).Pairwise (·<·):=by grind[Bz,List.pairwise_lt_range]
def zjy{W:Int}{b:Bld}(hW:1<=W)(hx:0<=b.x/\b.x+b.w<=W)(hw:1<=b.w)(k:Nat):(Cs W b k).Pairwise (·<·)/\∀t∈Cs W b k,t<W*(b.y+(k:Int)):=by
 induction k with
 |zero=>simp_all[Cs]
 |succ k ih=>
  rw[dv];have hrow:∀t∈Bz W b k b.w.toNat,W*(b.y+(k:Int))<=t/\t<W*(b.y+(k:Int))+W:=by intro t ht;obtain⟨x,hx2,rfl⟩:=Fag.1 ht;grind
  have e:W*(b.y+((k+1:Nat):Int))=W*(b.y+(k:Int))+W:=δ;grind[zj0]
def zjz(hg:zv g){b:Bld}(hb:qb b/\onP g b):(wt g.W b).Pairwise (·<·):=by unfold qb onP at hb;exact(zjy hg.1.1 hb.2.1 θ _).1
theorem yey{l:List Int}(h:l.Pairwise (·<·)){k:Nat}(hk:k<l.length):l[k]∉l.take k:=by grind[List.getElem_of_mem,List.pairwise_iff_getElem]
theorem zco(hg:zv g){a b:Bld}(ha:qb a/\onP g a)(hb:qb b/\onP g b):w9 a b↔∃t:Nat,(t:Int)<g.W*g.H/\Dc g a t/\Dc g b t:=by
 unfold qb onP at ha hb;unfold w9;constructor
 ·intro h;obtain⟨q1,q2,q3,q4⟩:=Oj hg (x:=max a.x b.x) (y:=max a.y b.y) θ θ;refine⟨(max a.x b.x+g.W*max a.y b.y).toNat,θ,?_⟩;grind[Dc]
 grind[Dc]
def covB_iff{l:List Bld}{t:Nat}:j1 g l t=true↔∃b∈l,Dc g b t:=by grind[j1]
def ol(g:Gnd)(l:List Bld)(i:Nat):Prop:=∀j,(h:j<l.length)->j<i->(qb l[j]/\onP g l[j]/\Gz g l[j])/\∀k,(hk:k<j)->¬w9 l[j] (l[k]'θ)
def ynq{l:List Bld}(h:ol g l l.length):(∀b∈l,qb b/\onP g b/\Gz g b)/\ce l:=by refine⟨λb hb=>?_,λj hj k hk=>(h j hj hj).2 k hk⟩;obtain⟨j,hj,rfl⟩:=Faf hb;exact(h j hj hj).1
def ymk(hg:zv g){l:List Bld}{i:Nat}(hi:i<l.length)(hb:qb l[i]/\onP g l[i])(hup:ol g l i):
  (∃t∈wt g.W l[i],j1 g (l.take i) t.toNat=true)↔∃k,∃hk:k<i,w9 l[i] (l[k]'θ):=by
 constructor
 ·rintro⟨t,ht,hc⟩;obtain⟨n,rfl,hn,hh⟩:=(Hr hg hb.1 hb.2 t).1 ht;rw[Fbe]at hc;obtain⟨b,hb2,hh2⟩:=covB_iff.1 hc;obtain⟨k,hk,rfl⟩:=Faf hb2;rw[Fah]at hk;rw[Fdl]at hh2;have:=(hup k θ θ).1;grind[zco]
 ·rintro⟨k,hk,hm⟩;have:=(hup k θ θ).1;obtain⟨n,hn,h1,h2⟩:=(zco hg hb ⟨this.1,this.2.1⟩).1 hm;refine⟨(n:Int),(Hr hg hb.1 hb.2 _).2 ⟨n,rfl,hn,h1⟩,?_⟩;rw[Fbe];refine covB_iff.2 ⟨l[k],?_,h2⟩;have:(l.take i)[k]'δ=l[k]:=Fdl;grind
end
end Go.V
namespace Go.V
def Wj{g:Gnd}{t:Nat}{p:Vc}{r:Int}(hr:0<r)(h:vj g t p r):
  (tx g t<p.1+r/\p.1-r<tx g t+65536)/\(ty g t<p.2+r/\p.2-r<ty g t+65536):=by
 unfold vj at h;have n:∀x lo:Int,0<=off x lo:=λx lo=>by grind[off]
 have a:=Sb (n p.1 (tx g t)) hr (by have:=Fa8 (n p.2 (ty g t)) (n p.2 (ty g t));omega);have b:=Sb (n p.2 (ty g t)) hr (by have:=Fa8 (n p.1 (tx g t)) (n p.1 (tx g t));omega);grind[off]
section
variable {P:Program} {c:Cfg}
def xa{ops:Array Oper}{o:Oper}{A:Fr}{go skip:Fr->Prop}(hg:o.guard=none)(h:go A):Iu ops o A go skip:=by unfold Iu;grind
def qz{o:Oper}{t:TypeId}{a x:Operand}{K:Fr->Store->Prop}{A:Fr}{st:Store}{i:TI}{v:AV}(ho:o.op=.store t a x)(hd:o.dst=none)(hi:c.I t=some i)(hx:A.ev x=.av v)(h:Hg i A st (A.ev a) v K):Dm P c o K A st:=by unfold Dm;rw[ho];show Gd P c o K A st;simp_all[Gd,za]
end
def zck{A:Int}{m:Nat}(h:(m:Int)<A):A.toNat-(m+1)<A.toNat-m:=θ
theorem od(a:Int)(m:Nat):a+((m+1:Nat):Int)=a+(m:Int)+1:=θ
def V8{A x:Int}{m:Nat}(h:x+(m:Int)<A):((m+1:Nat):Int)<=A-x:=θ
def No(g:Gnd)(l:List Bld)(c:Int)(p:Vc)(r y:Int):Prop:=∀t,t<g.T.length->(t:Int)/g.W<y->yy g l c t=false->¬vj g t p r
def P0(g:Gnd)(l:List Bld)(c:Int)(p:Vc)(r y x:Int):Prop:=∀t,t<g.T.length->(t:Int)/g.W=y->(t:Int)%g.W<x->yy g l c t=false->¬vj g t p r
def ym7{g:Gnd}{l:List Bld}{c:Int}{p:Vc}{r:Int}(hr:0<r)(hp:0<=p.2-r):No g l c p r ((p.2-r)/65536):=by intro t _ hy _ hh;have:=(Wj hr hh).2;grind[ty]
def yna{g:Gnd}{l:List Bld}{c:Int}{p:Vc}{r y:Int}(hr:0<r)(hp:0<=p.1-r):P0 g l c p r y ((p.1-r)/65536):=by intro t _ _ hx _ hh;have:=(Wj hr hh).1;grind[tx]
def ynb{g:Gnd}(hg:zv g){l:List Bld}{c:Int}{p:Vc}{r y x:Int}(hr:0<r)(hp:0<=p.1+r)(hx:¬(x<=(p.1+r)/65536)\/¬(x<g.W))(hu:No g l c p r y)(h:P0 g l c p r y x):No g l c p r (y+1):=by
 intro t ht hy ho hh;by_cases e:(t:Int)/g.W=y
 ·by_cases e2:(t:Int)%g.W<x
  ·exact h t ht e e2 ho hh
  ·have h1:=(Wj hr hh).1;have h2:=(H6 hg (t:=t) (by have:=(xc hg).2.2;omega)).1;grind[tx]
 ·exact hu t ht θ ho hh
def ym8{g:Gnd}(hg:zv g){l:List Bld}{c:Int}{p:Vc}{r y:Int}(hr:0<r)(hp:0<=p.2+r)(hy:¬(y<=(p.2+r)/65536)\/¬(y<g.H))(hu:No g l c p r y):∀t,t<g.T.length->yy g l c t=false->¬vj g t p r:=by
 intro t ht ho hh;by_cases e:(t:Int)/g.W<y
 ·exact hu t ht e ho hh
 ·have h1:=(Wj hr hh).2;have h2:=(H6 hg (t:=t) (by have:=(xc hg).2.2;omega)).2;grind[ty]
def ym9{g:Gnd}(hg:zv g){l:List Bld}{c:Int}{p:Vc}{r y x:Int}(hx:0<=x/\x<g.W)(hy:0<=y/\y<g.H)(h:P0 g l c p r y x)(hn:yy g l c (x+g.W*y).toNat=false->¬vj g (x+g.W*y).toNat p r):P0 g l c p r y (x+1):=by
 intro t ht e1 e2 ho;by_cases e:(t:Int)%g.W<x
 ·exact h t ht e1 e ho
 ·have e3:(t:Int)%g.W=x:=θ;have q:=Fd7 (t:Int) g.W;grind
def zds{F N S:Store}(hd:zi F N):((F.un N).un S).Has (F.un S):=by
 refine⟨λb y h=>?_,λb x h=>?_⟩
 ·rcases sb h with h1|⟨h1,h2⟩
  ·exact zf h1
  ·have h3:(F.un N).obj b=some y:=yf hd h2;show(match S.obj b with|some y=>some y|none=>(F.un N).obj b)=some y;rw[h1];exact h3
 ·rcases sa h with h1|⟨h1,h2⟩
  ·exact Dq h1
  ·have h3:(F.un N).tok b=some x:=I9 hd h2;show(match S.tok b with|some y=>some y|none=>(F.un N).tok b)=some x;rw[h1];exact h3
def Gf{l:List Unt}(hr:yk l){a b:Nat}(hab:a<b)(hb:b<l.length):(l[a]'θ).id<l[b].id:=by
 induction b with
 |zero=>omega
 |succ b ih=>
  have h3:=hr (b+1) hb θ;simp only[Fdw]at h3;by_cases e:a=b
  ·subst e;exact h3
  ·have:=ih θ θ;omega
theorem Kp{l:List Unt}(hr:yk l){u v:Unt}(hu:u∈l)(hv:v∈l)(h:u.id=v.id):u=v:=by
 obtain⟨a,ha,rfl⟩:=Faf hu;obtain⟨b,hb,rfl⟩:=Faf hv;rcases Nat.lt_trichotomy a b with q|q|q
 ·have:=Gf hr q hb;omega
 ·subst q;rfl
 ·have:=Gf hr q ha;omega
def Dy(w:Wld)(L:List Ent):Prop:=∀e,e∈L↔∃u∈w.U,u.inn=0/\e=(u.id,u.pos)
def Ku{w:Wld}{L:List Ent}(h:Dy w L)(hn:∀u∈w.U,u.pos.ok):∀e∈L,e.2.ok:=λe he=>by obtain⟨u,hu,_,rfl⟩:=(h e).1 he;exact hn u hu
def K1(w:Wld)(p:Vc)(r:Int)(us:List Unt):Prop:=∀u,u∈us↔(u∈w.U/\u.inn=0)/\near p u.pos r=true
def zb7{w:Wld}{L:List Ent}(hr:yk w.U)(hL:Dy w L){p:Vc}{r:Int}{ns:List Int}(hn:Rn L p r ns){us:List Unt}(h1:us.map (·.id)=ns)(h2:∀u∈us,u∈w.U/\u.inn=0):K1 w p r us:=by
 intro u;constructor
 ·intro hu;refine⟨h2 u hu,?_⟩;have:u.id∈ns:=by rw[<-h1];exact Fag.2 ⟨u,hu,rfl⟩
  obtain⟨e,he,h3,h4⟩:=(hn.2 _).1 this;obtain⟨v,hv,_,rfl⟩:=(hL e).1 he;rw[Kp hr (h2 u hu).1 hv h3.symm];exact h4
 ·rintro⟨⟨h3,h4⟩,h5⟩;have:u.id∈ns:=(hn.2 _).2 ⟨(u.id,u.pos),(hL _).2 ⟨u,h3,h4,rfl⟩,rfl,h5⟩;rw[<-h1]at this;obtain⟨v,hv,h6⟩:=Fag.1 this;rw[Kp hr h3 (h2 v hv).1 h6.symm];exact hv
theorem Fx(k:Int):0<zz k/\zz k<=81920:=by unfold zz;split<;>(try split)<;>omega
def Pg(k:Int):qo k=0\/qo k=1\/qo k=2:=by unfold qo;split<;>(try split)<;>(try split)<;>omega
theorem zb6{a b:Vc}{r r':Int}(h:r<=r')(hn:near a b r=true):near a b r'=true:=by unfold near at*;rw[decide_eq_true_iff]at*;have:r*r<=r'*r':=Fbm h h θ θ;omega
def zft{w:Wld}{id k:Int}{q:Vc}{us:List Unt}(hf:De w.G w.B (qo k) q (zz k))(hus:K1 w q (zz k+81920) us):
  xo w id k q↔∀u∈us,u.id≠id->Av q (zz k) u.pos (zz u.kind)=true:=by
 constructor
 ·intro h u hu hne;have:=(hus u).1 hu;exact h.2 u this.1.1 this.1.2 hne
 ·intro h;refine⟨hf,λu hu h0 hne=>?_⟩;unfold Av;cases hc:near q u.pos (zz k+zz u.kind)with
  |false=>rfl
  |true=>
   have h1:=zb6 (r':=zz k+81920) (by have:=Fx u.kind;omega) hc;have:=h u ((hus u).2 ⟨⟨hu,h0⟩,h1⟩) hne;unfold Av at this;rw[hc]at this;exact this
end Go.V
namespace Go.V
def yp{α:Type}(f:α->AV)(e:Int×α):AV×AV:=(int e.1,f e.2)
def yr{α:Type}(cs:List (Int×α))(k:Int):Option α:=(cs.find? λe=>k==e.1).map (·.2)
def yl{α:Type}:List (Int×α)->Int->α->List (Int×α)
 |[],k,v=>[(k,v)]
 |e::l,k,v=>if k==e.1 then(k,v)::l else e::yl l k v
theorem mq{α:Type}(f:α->AV)(cs:List (Int×α))(k:Int):(cs.map (yp f)).find? (qA k)=(cs.find? λe=>k==e.1).map (yp f):=by rw[List.find?_map];rfl
theorem Hs{α:Type}(f:α->AV)(cs:List (Int×α))(k:Int)(z:AV):Fv false z ((cs.map (yp f)).find? (qA k))=((yr cs k).map f).getD z:=by
 rw[mq];unfold yr;cases cs.find? λe=>k==e.1 with
 |none=>rfl
 |some e=>rfl
def za3{α:Type}(f:α->AV)(k:Int)(v:α):∀cs:List (Int×α),
  (match(cs.map (yp f)).findIdx? (qA k)with|some i=>(cs.map (yp f)).set i (int k,f v)|none=>cs.map (yp f)++[(int k,f v)])=(yl cs k v).map (yp f)
 |[]=>rfl
 |e::l=>by
  have ih:=za3 f k v l;rw[Fcb,List.findIdx?_cons];unfold yl;by_cases h:k==e.1
  ·have h2:qA k (yp f e)=true:=h;rw[h2];simp only[h,if_true,List.set_cons_zero,Fcb];rfl
  ·have h:(k==e.1)=false:=by simpa using h
   have h2:qA k (yp f e)=false:=h;rw[h2];simp only[h,if_false,Fcb];cases hx:(l.map (yp f)).findIdx? (qA k)with
   |none=>rw[hx]at ih;simp at ih⊢;exact ih
   |some i=>rw[hx]at ih;simp at ih⊢;exact ih
def K6{α:Type}(f:α->AV)(cs:List (Int×α))(bs:List Nat)(clk:Nat)(k:Int)(v:α):∃bs' clk',ku (cs.map (yp f)) bs clk (qA k) (int k) (f v)=.map ((yl cs k v).map (yp f)) bs' clk':=by
 have h:=za3 f k v cs;unfold ku;cases hx:(cs.map (yp f)).findIdx? (qA k)with
 |none=>rw[hx]at h;exact⟨_,_,by rw[<-h]⟩
 |some i=>rw[hx]at h;exact⟨_,_,by rw[<-h]⟩
theorem Cm{α:Type}(k:Int)(v:α)(j:Int):∀cs:List (Int×α),yr (yl cs k v) j=if j=k then some v else yr cs j
 |[]=>by unfold yl yr;by_cases h:j=k<;>simp[h]
 |e::l=>by
  have ih:=Cm k v j l;unfold yr at ih⊢;by_cases h:k=e.1
  ·have h1:(k==e.1)=true:=by simpa using h
   rw[show yl (e::l) k v=(k,v)::l by unfold yl;simp[h1]];by_cases h2:j=k
   ·simp[h2]
   ·have e1:(j==k)=false:=by simpa using h2
    have e2:(j==e.1)=false:=by rw[<-h];exact e1
    rw[List.find?_cons,List.find?_cons,if_neg h2];simp only[e1,e2]
  ·have h1:(k==e.1)=false:=by simpa using h
   rw[show yl (e::l) k v=e::yl l k v by rw[yl];simp[h1]];rw[List.find?_cons,List.find?_cons];by_cases h2:j=e.1
   ·have e1:(j==e.1)=true:=by simpa using h2
    simp only[e1];rw[if_neg θ]
   ·have e1:(j==e.1)=false:=by simpa using h2
    simp only[e1];exact ih
end Go.V
namespace Go.V
theorem Pj{l:List Unt}{i:Nat}(hi:i<l.length)(id:Int):((z8 (l.take (i+1)) id).length:Int)=((z8 (l.take i) id).length:Int)+(if l[i].inn=id then 1 else 0):=by
 unfold z8;rw[Fad hi,Fb5,Faz,Fab];by_cases h:l[i].inn=id
 ·simp[h]
 ·simp[h]
def l4{l:List Unt}(i:Nat)(id:Int):(z8 (l.take i) id).length<=(z8 l id).length:=by
 have h:(z8 l id).length=(z8 (l.take i) id).length+(z8 (l.drop i) id).length:=by unfold z8;rw[<-Fab,<-Faz,<-Fb5,Fbs]
 omega
def fm(w:Wld)(i:Nat):Prop:=
 (∀j,(h:j<w.U.length)->j<i->w.U[j].inn≠0->∃x∈w.U,x.id=w.U[j].inn/\(x.inn=0/\x.owner=w.U[j].owner)/\jy w.U[j].kind=0/\w.U[j].pos=(0,0)/\w.U[j].goal=-1/\w.U[j].state=0)∧
 ∀x∈w.U,x.id≠0->((z8 (w.U.take i) x.id).length:Int)<=jy x.kind
def ycg{w:Wld}(h:fm w w.U.length):∀u∈w.U,u.inn≠0->Gh w u:=by intro u hu hne;obtain⟨j,hj,rfl⟩:=Faf hu;obtain⟨x,hx,h1,h2,h3,h4,h5,h6⟩:=h.1 j hj hj hne;have:=h.2 x hx (by rw[h1];exact hne);rw[Faj,h1]at this;exact⟨x,hx,h1,h2,this,h3,h4,h5,h6⟩
theorem Pf(k:Int):0<=jy k/\jy k<=4:=by unfold jy;split<;>(try split)<;>(try split)<;>omega
end Go.V
namespace Go.V
def I8(w:Wld)(i:Nat):Prop:=∀j,(h:j<w.U.length)->j<i->(ka w w.U[j]/\∀b∈w.B,b.id≠w.U[j].id)/\(0<j->(w.U[j-1]'θ).id<w.U[j].id)
def zi0{w:Wld}(h:I8 w w.U.length):Oa w:=by refine⟨λj hj h0=>(h j hj hj).2 h0,λu hu=>?_⟩;obtain⟨j,hj,rfl⟩:=Faf hu;exact(h j hj hj).1
def ziz{w:Wld}(h:Oa w)(i:Nat):I8 w i:=λj hj _=>⟨h.2 _ (Faa hj),h.1 j hj⟩
end Go.V
namespace Go.V
def RowsO{α:Type}(k:Nat)(f:α->List AV)(st:Store)(v:AV)(l:List α):Prop:=
 (v=.s (.slice none 0 0)/\l=[])\/∃b cap L,v=.s (.slice (some ⟨b,0,none⟩) l.length cap)/\st.obj b=some (.cells ((rws f l).flatten++L))/\l.length<=cap/\cap*k<=l.length*k+L.length/\cap<=9223372036854775807
section
variable {α:Type} {f:α->List AV} {k:Nat}
theorem yx(hf:∀x,(f x).length=k)(l:List α):(rws f l).flatten.length=l.length*k:=by
 induction l with
 |nil=>simp[rws]
 |cons a l ih=>
  show(f a++(rws f l).flatten).length=(l.length+1)*k;rw[Fab,hf,ih,Fdv];omega
theorem Fm(a b:List α):(rws f (a++b)).flatten=(rws f a).flatten++(rws f b).flatten:=by rw[<-Ie,Fc9]
theorem Sj{l:List α}{i:Nat}(hi:i<l.length):(rws f l).flatten=(rws f (l.take i)).flatten++(f l[i]++(rws f (l.drop (i+1))).flatten):=by
 have e:l=l.take i++(l[i]::l.drop (i+1)):=by rw[<-Fc6 hi,Fbs]
 have e2:(rws f (l[i]::l.drop (i+1))).flatten=f l[i]++(rws f (l.drop (i+1))).flatten:=rfl;rw[<-e2,<-Fm,<-e]
theorem zwj{X Y ys:List AV}{j:Nat}(h:j+ys.length<=X.length):zq (X++Y) j ys=zq X j ys++Y:=by unfold zq;rw[Fcf θ,List.drop_append_of_le_length θ];simp only[Fat]
def ew(hf:∀x,(f x).length=k){l:List α}{i j:Nat}(hi:i<l.length){x':α}{ys L:List AV}(hj:j+ys.length<=k)(hx:f x'=zq (f l[i]) j ys):
  zq ((rws f l).flatten++L) (i*k+j) ys=(rws f (l.set i x')).flatten++L:=by
 have h1:(rws f (l.take i)).flatten.length=i*k:=by rw[yx hf,Fah,Fde θ]
 have hi2:i<(l.set i x').length:=by rw[Fak];exact hi
 rw[Sj hi,Sj hi2,Fat,Fat,<-h1,t8];have e1:(l.set i x').take i=l.take i:=by rw[List.take_set_of_le (Fai i)]
 have e2:(l.set i x').drop (i+1)=l.drop (i+1):=by rw[List.drop_set_of_lt θ]
 rw[e1,e2,Fcs,hx];have h3:=hf l[i];rw[Fat,zwj θ];simp only[Fat]
theorem RowsO.un{a g:Store}{v:AV}{l:List α}(h:RowsO k f g v l):RowsO k f (a.un g) v l:=by
 rcases h with h|⟨b1,cap,L,h1,h2,h3⟩
 ·exact .inl h
 ·exact .inr ⟨b1,cap,L,h1,zf h2,h3⟩
def RowsO.unL{a g:Store}{v:AV}{l:List α}(h:RowsO k f a v l)(hd:zi a g):RowsO k f (a.un g) v l:=by
 rcases h with h|⟨b1,cap,L,h1,h2,h3⟩
 ·exact .inl h
 ·exact .inr ⟨b1,cap,L,h1,yf hd h2,h3⟩
def RowsO.borrow{st:Store}{v:AV}{l:List α}(hf:∀x,(f x).length=k)(hs:∀x,∀y∈f x,∃u,y=AV.s u/\qw u=true)(hv:RowsO k f st v l){Oth M:BB}{w:World}(sto:StoreOK st Oth M w){x:Value}(hx:VRel w (λb o=>M b o\/Oth b o) v x):
  VRel w (λb o=>(M b o\/Oth b o)/\st.obj b=none) (lst k f l) x:=by
 rcases hv with⟨rfl,rfl⟩|⟨b,cap,L,rfl,ho,h1,h2,h3⟩
 ·cases hx;exact AV.le_nil k _ _ _ (.s _)
 ·cases hx
  exact zgb (sto.obj b _ ho).1 (λo hT=>ψn) (zj l) h1
   (λrow hr=>by obtain⟨n,_,rfl⟩:=Fag.1 hr;exact hf n) (λrow hr y hy=>by obtain⟨n,_,rfl⟩:=Fag.1 hr;exact hs n y hy)
def yoj{P:Program}{c:Cfg}{e:TypeId}{ie:TI}(hie:c.I e=some ie)(hf:∀x,(f x).length=ie.size)(hby:ie.bytes<=1000){st:Store}{v:AV}{l:List α}(hv:RowsO ie.size f st v l)(x:α){src:AV}(hsrc:kb ie.size (.av src)=some [f x])(hlen:l.length<=1000000000){K:Ja}
  (h:∀b cap L,(Fresh st b\/∃c0,v=.s (.slice (some ⟨b,0,none⟩) l.length c0))->(l++[x]).length<=cap->cap*ie.size<=(l++[x]).length*ie.size+L.length->cap<=9223372036854775807->
   K (.s (.slice (some ⟨b,0,none⟩) (l++[x]).length cap)) (st.sO b (.cells ((rws f (l++[x])).flatten++L)))):appendK P c st e (.av v) (.av src) K:=by
 refine⟨.inr ⟨v,_,rfl,rfl,?_⟩⟩;have hl:(l++[x]).length=l.length+1:=φ;have hfl:=yx hf l;have hmul:(l.length+1)*ie.bytes<=1000000001*1000:=Fdp θ hby;have happ:(rws f (l++[x])).flatten=(rws f l).flatten++f x:=by rw[Fm];show _++(f x++[])=_;rw[Fbh]
 rcases hv with⟨rfl,rfl⟩|⟨b,cap,L,rfl,ho,h1,h2,h3⟩
 ·refine zgv hie hsrc ⟨by simp at hmul⊢;omega,φ⟩ φ (λb' cap' hb hc hc2=>?_);have:=h b' cap' (List.replicate ((cap'-[f x].length)*ie.size) .any) (.inl hb) (by simpa using hc) (by
   simp only[Fav,Fdg,Fan,<-Fcc];exact Fa4 _ θ) hc2
  exact this
 ·refine Ri hie (cap:=cap) ho (by rw[Fab,hfl];exact h2) h1 hsrc ⟨χ,χ⟩ (λhc=>?_) (λhc b' cap' hb hc1 hc2=>?_)
  ·have hc:l.length+1<=cap:=hc;have hcm:(l.length+1)*ie.size<=cap*ie.size:=Fa4 _ hc;rw[Fdv]at hcm;have e1:zq ((rws f l).flatten++L) (l.length*ie.size) [f x].flatten=(rws f (l++[x])).flatten++L.drop ie.size:=by
    rw[ve hfl,happ];simp[hf x]
   have:=h b cap (L.drop ie.size) (.inr ⟨cap,rfl⟩) θ (by rw[hl,Fdv,Fbj];omega) h3;rw[hl,<-e1]at this;exact this
  ·have hc1:l.length+1<=cap':=hc1;have e1:((rws f l).flatten++L).take (l.length*ie.size)++[f x].flatten++List.replicate ((cap'-(l.length+1))*ie.size) .any=(rws f (l++[x])).flatten++List.replicate ((cap'-(l.length+1))*ie.size) .any:=by
    rw[Fcf θ,Fcm θ,happ];simp
   have:=h b' cap' (List.replicate ((cap'-(l.length+1))*ie.size) .any) (.inl hb) θ (by rw[hl,Fav,<-Fcc];exact Fa4 _ θ) hc2;rw[hl,<-e1]at this;exact this
end
theorem Bp(u:Unt):(zm u).length=10:=rfl
def dh(u:Unt):∀y∈zm u,∃x,y=AV.s x/\qw x=true:=by intro y hy;simp[zm]at hy;rcases hy with rfl|rfl|rfl|rfl|rfl|rfl|rfl|rfl|rfl|rfl<;>exact⟨_,rfl,rfl⟩
def xx(w:Wld)(v:AV):List AV:=[int w.tick,int w.players,int w.next,int w.G.W,int w.G.H,qx w.G.T,lst 6 zl w.B,v]
def Hk{l:List Unt}(hr:yk l){a b:Nat}(hab:a<b)(hb:b<l.length):(l[a]'θ).id<l[b].id:=by
 induction b with
 |zero=>omega
 |succ b ih=>
  have h3:=hr (b+1) hb θ;simp only[Fdw]at h3;by_cases e:a=b
  ·subst e;exact h3
  ·have:=ih θ θ;omega
def j4{i:TI}{A:Fr}{st:Store}{b o:Nat}{v:AV}{xs l:List AV}{K:Fr->Store->Prop}(hc:cellsOf v=some xs)(h1:xs.all AV.one=true)(hi:i.size=xs.length)(ho:st.obj b=some (.cells l))(hl:o+xs.length<=l.length)
  (hk:K A (st.sO b (.cells (zq l o xs)))):Hg i A st (.av (.s (.pointer (some ⟨b,o,none⟩)))) v K:=by
 unfold Hg;rw[hc];show(bif Nat.beq xs.length i.size&&(xs.all AV.one)then _ else False);rw[hi];simp only[h1,Fb7,Fet,cond_true];rw[ho];exact⟨hl,Lk hk⟩
def Oz(k:Int):24576<=zz k/\zz k<=81920:=by unfold zz;split<;>(try split)<;>omega
def Pt{g:Gnd}(hg:zv g){l:List Bld}{c:Int}{p:Vc}{k:Int}(h:De g l c p (zz k)):(24576<=p.1/\p.1+24576<=g.W*65536)/\(24576<=p.2/\p.2+24576<=g.H*65536)/\(p.1<=8388608/\p.2<=8388608):=by have h1:=h.1;have h2:=Oz k;obtain⟨⟨_,h3⟩,⟨_,h4⟩,_⟩:=hg;omega
def Al(g:Gnd)(p:Vc):Nat:=(p.1/65536+g.W*(p.2/65536)).toNat
def sr{g:Gnd}(hg:zv g){p:Vc}(h:(0<=p.1/\p.1<g.W*65536)/\(0<=p.2/\p.2<g.H*65536)):
  ((Al g p:Nat):Int)=p.1/65536+g.W*(p.2/65536)/\Al g p<g.T.length/\((Al g p:Nat):Int)%g.W=p.1/65536/\((Al g p:Nat):Int)/g.W=p.2/65536:=by
 have hs:=Oj hg (x:=p.1/65536) (y:=p.2/65536) θ θ;have ha:=xc hg;unfold Al;generalize p.1/65536=x at*;generalize p.2/65536=y at*;have e:((x+g.W*y).toNat:Int)=x+g.W*y:=θ;rw[e];exact⟨rfl,θ,hs.2.2.1,hs.2.2.2⟩
def ACalls.frozen{P:Program}{f:FuncId}{xs:List AV}{Q:Ja}{R:AV->Prop}(h:ACalls P f xs Store.empty Q)
  (hQ:∀r S,Q r S->∃r2,R r2/\∀(Oth M:BB) (w:World) (v:Value),StoreOK S Oth M w->VRel w (λb o=>M b o\/Oth b o) r v->VRel w (λb o=>(M b o\/Oth b o)/\S.obj b=none) r2 v):
  ACalls P f xs Store.empty λr _=>R r:=by
 refine⟨λOth M w vs sto hr=>?_⟩;have h1:=h.out Oth M w vs sto hr;have key:∀v w',xf Store.empty Q Oth M w v w'->xf Store.empty (λr _=>R r) Oth M w v w':=by
  rintro v w' ⟨r,S,M',hq,hv,hs,hc⟩;obtain⟨r2,hr2,hk⟩:=hQ r S hq;refine⟨r2,Store.empty,λb o=>M' b o/\S.obj b=none,hr2,(hk Oth M' w' v hs hv).mono λb o hT=>?_,?_,?_⟩
  ·rcases hT with⟨h1,h2⟩|h1
   ·exact⟨.inl h1,h2⟩
   ·refine⟨.inr h1,?_⟩;cases hb:S.obj b with
    |none=>rfl
    |some y=>exact absurd ((hs.obj b y hb).2 o) (hs.dis b o h1)
  ·exact{obj:=λb x hx=>γ,tok:=λb x hx=>γ,mlt:=λb o hm=>hs.mlt b o hm.1,olt:=hs.olt,dis:=λb o ho hm=>hs.dis b o ho hm.1}
  ·exact{size:=hc.size,keep:=hc.keep,blk:=hc.blk,shp:=hc.shp,sub:=λb o hm hb=>hc.sub b o hm.1 hb,tape:=hc.tape,os:=hc.os,output:=hc.output}
 generalize(callFunc f vs).run P w=res at h1;cases res with
 |ok n w'=>
  cases n with
  |enter g args=>exact Calls.mono h1 λe w'' ⟨v,he,hv⟩=>⟨v,he,key _ _ hv⟩
  |value v=>exact key _ _ h1
  |_=>exact h1
 |_=>exact h1
def ACalls.frozenTo{P:Program}{f:FuncId}{xs:List AV}{st0:Store}{Q:Ja}{R:Ja}(h:ACalls P f xs st0 Q)
    (hQ:∀r S,Q r S->∃r2 S2,R r2 S2/\(∀b x,S2.obj b=some x->S.obj b=some x)/\(∀b x,S2.tok b≠some x)∧
      ∀(Oth M:BB) (w:World) (v:Value),StoreOK S Oth M w->VRel w (λb o=>M b o\/Oth b o) r v->VRel w (λb o=>(M b o\/Oth b o)/\(S.obj b=none\/S2.obj b≠none)) r2 v):
    ACalls P f xs st0 R:=by
  refine⟨λOth M w vs sto hr=>?_⟩;have h1:=h.out Oth M w vs sto hr;have key:∀v w',xf st0 Q Oth M w v w'->xf st0 R Oth M w v w':=by
    rintro v w' ⟨r,S,M',hq,hv,hs,hc⟩;obtain⟨r2,S2,hr2,hsub,htok,hk⟩:=hQ r S hq;have hT:∀b o,((M' b o/\(S.obj b=none\/S2.obj b≠none))\/Oth b o)->(M' b o\/Oth b o):=λb o h=>h.imp (·.1) id;refine⟨r2,S2,λb o=>M' b o/\(S.obj b=none\/S2.obj b≠none),hr2,(hk Oth M' w' v hs hv).mono λb o hT=>?_,?_,?_⟩
    · rcases hT with⟨h1,h2⟩|h1
      · exact⟨.inl h1,h2⟩
      · refine⟨.inr h1,?_⟩
        cases hb:S.obj b with
        |none=>exact .inl rfl
        |some y=>exact absurd ((hs.obj b y hb).2 o) (hs.dis b o h1)
    · exact { obj:=λb x hx=>⟨(hs.obj b x (hsub b x hx)).1.mono hT,λo=>⟨(hs.obj b x (hsub b x hx)).2 o,.inr (by rw[hx];simp)⟩⟩
              tok:=λb x hx=>absurd hx (htok b x),mlt:=λb o hm=>hs.mlt b o hm.1,olt:=hs.olt,dis:=λb o ho hm=>hs.dis b o ho hm.1}
    · exact{size:=hc.size,keep:=hc.keep,blk:=hc.blk,shp:=hc.shp,sub:=λb o hm hb=>hc.sub b o hm.1 hb,tape:=hc.tape,os:=hc.os,output:=hc.output}
  generalize(callFunc f vs).run P w=res at h1;cases res with
  | ok n w'=>
    cases n with
    |enter g args=>exact Calls.mono h1 λe w'' ⟨v,he,hv⟩=>⟨v,he,key _ _ hv⟩
    |value v=>exact key _ _ h1
    |_=>exact h1
  |_=>exact h1
def Ic(a:Option Addr):Prop:=∀x,a=some x->x.spot=none
section
variable {P:Program} {c:Cfg} {st:Store}
def pj{e:TypeId}{ie:TI}(hie:c.I e=some ie){a:Option Addr}{x:AV}{rows:List (List AV)}(hx:kb ie.size (.av x)=some rows)(hroom:room rows.length ie.bytes)(hne:0<rows.length){K:Ja}
  (h2:∀b' cap',Fresh st b'->rows.length<=cap'->cap'<=9223372036854775807->K (.s (.slice (some ⟨b',0,none⟩) rows.length cap')) (st.sO b' (.cells (rows.flatten++List.replicate ((cap'-rows.length)*ie.size) .any)))):
  AppX P c st e (.s (.slice a 0 0)) x K:=by
 refine⟨⟨ie,hie⟩,λie' hie' Oth M w sv xv argTypes ty args t sto hs hxv hat ht1 hu hti h0 h1'=>?_⟩;rw[hie]at hie';cases hie';have hs:=VRel.eq_s hs;subst hs;have A:AppArgs P c argTypes args t e ie a 0 0 xv:=⟨hat,ht1,hu,hti,h0,h1'⟩
 obtain⟨hl1,hl2,new,hnew,hone,hnsz,hfc⟩:=Kg (P:=P) (β:=λ_=>0) (k:=ie.size) (x:=.av x) hxv hx;obtain⟨newCap,rest,g1,g0,g2,g3⟩:=Lw (old:=#[]) ty A hl1 (hfc w.drew rfl) (by cases a<;>simp[Builtin.firstCells,loadCells,loadCellsFrom]) θ (by simpa using hroom);have gd:Grow w w.drew:=Grow.drew w;have sto1:=sto.grow gd;obtain⟨f1,f2,f3⟩:=Gp sto1 (#[]++new++rest) e (l:=rows.flatten++List.replicate rest.size .any) (by
  rw[Fbk,Fbk];refine((show Reads w _ rows.flatten ([]++new.toList)from hnew).append ⟨φ,λi x y hx hy=>?_⟩).keep (gd.keeps _);rw[Fbu]at hx;split at hx
  ·cases hx;exact .any _
  ·cases hx)
 rw[g2]at f2;simp only[Fba]at g1 g3 f2;exact⟨_,_,g3,_,_,_,h2 _ newCap f1 g1 g0,.s _,f2,(gd.chg M).trans f3⟩
def yoi{e:TypeId}{ie:TI}(hie:c.I e=some ie){x:AV}{rows:List (List AV)}(hx:kb ie.size (.av x)=some rows)(hroom:room rows.length ie.bytes){K:Ja}
  (h1:rows=[]->∀a,Ic a->K (.s (.slice a 0 0)) st)
  (h2:0<rows.length->∀b' cap',Fresh st b'->rows.length<=cap'->cap'<=9223372036854775807->K (.s (.slice (some ⟨b',0,none⟩) rows.length cap')) (st.sO b' (.cells (rows.flatten++List.replicate ((cap'-rows.length)*ie.size) .any)))):
  AppX P c st e .emp x K:=by
 refine⟨⟨ie,hie⟩,λie' hie' Oth M w sv xv argTypes ty args t sto hs hxv hat ht1 hu hti h0 h1'=>?_⟩;cases hs with
 |emp a ha=>
  by_cases hr:0<rows.length
  ·exact(pj hie hx hroom hr (h2 hr)).out ie' hie' Oth M w _ xv argTypes ty args t sto (.s _) hxv hat ht1 hu hti h0 h1'
  ·rw[hie]at hie';cases hie';have hr0:rows=[]:=Fa0 θ;subst hr0;have A:AppArgs P c argTypes args t e ie a 0 0 xv:=⟨hat,ht1,hu,hti,h0,h1'⟩
   obtain⟨hl1,hl2,new,hnew,hone,hnsz,hfc⟩:=Kg (P:=P) (β:=λ_=>0) (k:=ie.size) (x:=.av x) hxv hx;have hn0:new.toList=[]:=θc;have hrun:=Lv (w':=w) ty A hl1 (hfc w rfl) φ (λb hb=>by rw[hn0];simp[storeCells]) (λ_=>rfl);exact⟨_,_,hrun,_,_,M,h1 rfl a ha,.s _,sto,Chg.refl M w⟩
end
def RowsQ{α:Type}(k:Nat)(f:α->List AV)(st:Store)(v:AV)(l:List α):Prop:=
 RowsO k f st v l\/∃a,Ic a/\v=.s (.slice a 0 0)/\l=[]
section
variable {α:Type} {f:α->List AV} {k:Nat}
theorem RowsO.q{st:Store}{v:AV}{l:List α}(h:RowsO k f st v l):RowsQ k f st v l:=.inl h
theorem RowsQ.un{a g:Store}{v:AV}{l:List α}(h:RowsQ k f g v l):RowsQ k f (a.un g) v l:=h.imp (·.un) id
def RowsQ.unL{a g:Store}{v:AV}{l:List α}(h:RowsQ k f a v l)(hd:zi a g):RowsQ k f (a.un g) v l:=h.imp (·.unL hd) id
def RowsQ.form{st:Store}{v:AV}{l:List α}(h:RowsQ k f st v l):∃oa cap,v=.s (.slice oa l.length cap)/\∀i,i<l.length->∃b L,oa=some ⟨b,0,none⟩/\st.obj b=some (.cells ((rws f l).flatten++L)):=by
 rcases h with(⟨rfl,rfl⟩|⟨b,cap,L,rfl,ho,_⟩)|⟨a,_,rfl,rfl⟩
 ·simp_all
 ·grind
 simp_all
def RowsQ.borrow{st:Store}{v:AV}{l:List α}(hf:∀x,(f x).length=k)(hs:∀x,∀y∈f x,∃u,y=AV.s u/\qw u=true)(hv:RowsQ k f st v l){Oth M:BB}{w:World}(sto:StoreOK st Oth M w){x:Value}(hx:VRel w (λb o=>M b o\/Oth b o) v x):
  VRel w (λb o=>(M b o\/Oth b o)/\st.obj b=none) (lst k f l) x:=by
 rcases hv with hv|⟨a,ha,rfl,rfl⟩
 ·exact hv.borrow hf hs sto hx
 ·cases hx;exact .nil k a
theorem RowsQ.sub{S S2:Store}{v:AV}{l:List α}(h:RowsQ k f S v l)(hk:∀b n c,v=.s (.slice (some ⟨b,0,none⟩) n c)->S2.obj b=S.obj b):RowsQ k f S2 v l:=by
 rcases h with(h|⟨b,cap,L,rfl,ho,h2⟩)|h
 ·exact .inl (.inl h)
 ·exact .inl (.inr ⟨b,cap,L,rfl,by rw[hk b _ _ rfl];exact ho,h2⟩)
 ·exact .inr h
def Cn{P:Program}{c:Cfg}{e:TypeId}{ie:TI}(hie:c.I e=some ie)(hf:∀x,(f x).length=ie.size)(hby:ie.bytes<=1000){st:Store}{v:AV}{l:List α}(hv:RowsQ ie.size f st v l)(x:α){src:AV}(hsrc:kb ie.size (.av src)=some [f x])(hlen:l.length<=1000000000){K:Ja}
  (h:∀b cap L,(Fresh st b\/∃c0,0<c0/\v=.s (.slice (some ⟨b,0,none⟩) l.length c0))->(l++[x]).length<=cap->cap*ie.size<=(l++[x]).length*ie.size+L.length->cap<=9223372036854775807->
   K (.s (.slice (some ⟨b,0,none⟩) (l++[x]).length cap)) (st.sO b (.cells ((rws f (l++[x])).flatten++L)))):appendK P c st e (.av v) (.av src) K:=by
 refine⟨.inr ⟨v,_,rfl,rfl,?_⟩⟩;have hl:(l++[x]).length=l.length+1:=φ;have hfl:=yx hf l;have hmul:(l.length+1)*ie.bytes<=1000000001*1000:=Fdp θ hby;have happ:(rws f (l++[x])).flatten=(rws f l).flatten++f x:=by rw[Fm];show _++(f x++[])=_;rw[Fbh]
 have empty:∀a:Option Addr,l=[]->v=.s (.slice a 0 0)->AppX P c st e v src K:=λa hl0 hva=>by subst hl0 hva;refine pj hie hsrc ⟨χ,φ⟩ φ (λb' cap' hb hc hc2=>?_);have:=h b' cap' (List.replicate ((cap'-[f x].length)*ie.size) .any) (.inl hb) (by simpa using hc) (by simp only[Fav,Fdg,Fan,<-Fcc];grind) hc2;exact this
 rcases hv with(⟨hv,hl0⟩|⟨b,cap,L,rfl,ho,h1,h2,h3⟩)|⟨a,ha,hv,hl0⟩
 ·exact empty _ hl0 hv
 ·refine Ri hie (cap:=cap) ho δ h1 hsrc ⟨χ,χ⟩ (λhc=>?_) (λhc b' cap' hb hc1 hc2=>?_)
  ·have hc:l.length+1<=cap:=hc;have hcm:(l.length+1)*ie.size<=cap*ie.size:=Fa4 _ hc;rw[Fdv]at hcm;have e1:zq ((rws f l).flatten++L) (l.length*ie.size) [f x].flatten=(rws f (l++[x])).flatten++L.drop ie.size:=by grind[ve]
   have:=h b cap (L.drop ie.size) (.inr ⟨cap,θ,rfl⟩) θ (by grind[Nat.succ_mul]) h3;grind
  ·have hc1:l.length+1<=cap':=hc1;have e1:((rws f l).flatten++L).take (l.length*ie.size)++[f x].flatten++List.replicate ((cap'-(l.length+1))*ie.size) .any=(rws f (l++[x])).flatten++List.replicate ((cap'-(l.length+1))*ie.size) .any:=by
    rw[Fcf θ,Fcm θ,happ];simp
   have:=h b' cap' (List.replicate ((cap'-(l.length+1))*ie.size) .any) (.inl hb) θ (by rw[hl,Fav,<-Fcc];exact Fa4 _ θ) hc2;rw[hl,<-e1]at this;exact this
 ·exact empty _ hl0 hv
def Lx{P:Program}{c:Cfg}{e:TypeId}{ie:TI}(hie:c.I e=some ie)(hf:∀x,(f x).length=ie.size)(hby:ie.bytes<=1000){st:Store}{l:List α}(hlen:l.length<=1000000000){K:Ja}
  (h:∀v N,RowsQ ie.size f N v l->zi N st->K v (N.un st)):appendK P c st e (.av .emp) (.av (lst ie.size f l)) K:=by
 refine⟨.inr ⟨_,_,rfl,rfl,?_⟩⟩;have hmul:l.length*ie.bytes<=1000000000*1000:=Fdp θ hby;refine yoi hie (rows:=rws f l) (by simp[kb,lst]) ⟨θh,θh⟩ (λhr a ha=>?_) (λhr b cap hb hc hc2=>?_)
 ·have hl:l=[]:=by
   have:=congrArg List.length hr;rw[zj]at this;exact Fa0 this
  subst hl;have:=h (.s (.slice a 0 0)) Store.empty (.inr ⟨a,ha,rfl,rfl⟩) (λb hb=>(hb.elim (λh=>h rfl) (λh=>h rfl):False).elim)
  rwa [kj]at this
 ·rw[zj]at hc⊢;have:=h (.s (.slice (some ⟨b,0,none⟩) l.length cap)) (Store.empty.sO b (.cells ((rws f l).flatten++List.replicate ((cap-l.length)*ie.size) .any))) (.inl (.inr ⟨b,cap,_,rfl,zd _ _ _,hc,by
   simp only[Fav,<-Fcc];exact Fa4 _ θ,hc2⟩)) (λi hi hs=>by
    have:i=b:=Decidable.byContradiction λhne=>by
     rcases hi with hi|hi
     ·rw[zg hne]at hi;exact hi rfl
     ·exact hi rfl
    subst this;exact fresh_iff.1 hb hs)
  have e:(Store.empty.sO b (.cells ((rws f l).flatten++List.replicate ((cap-l.length)*ie.size) .any))).un st=st.sO b (.cells ((rws f l).flatten++List.replicate ((cap-l.length)*ie.size) .any)):=by rw[<-Dp (fresh_iff.1 hb),kj]
  rw[e]at this;exact this
end
section
variable {w:Wld} {v:AV} {k p:Nat} {S:Store}
def rd{st:Store}(hv:RowsQ 10 zm st v w.U){Oth M:BB}{W:World}(sto:StoreOK st Oth M W){x:Value}(hx:VRel W (λb o=>M b o\/Oth b o) (.agg (xx w v)) x):
  VRel W (λb o=>(M b o\/Oth b o)/\st.obj b=none) (.agg (zt w)) x:=by
 cases hx with
 |agg _ c hl hc=>
  refine .agg _ c hl λi x y hx hy=>?_
  match i with
  |0=>simp only[zt,Far,Fal]at hx;subst hx;exact qn (hc 0 _ y rfl hy)
  |1=>simp only[zt,Fay,Far,Fal]at hx;subst hx;exact qn (hc 1 _ y rfl hy)
  |2=>simp only[zt,Fay,Far,Fal]at hx;subst hx;exact qn (hc 2 _ y rfl hy)
  |3=>simp only[zt,Fay,Far,Fal]at hx;subst hx;exact qn (hc 3 _ y rfl hy)
  |4=>simp only[zt,Fay,Far,Fal]at hx;subst hx;exact qn (hc 4 _ y rfl hy)
  |5=>simp only[zt,Fay,Far,Fal]at hx;subst hx;exact qn (hc 5 _ y rfl hy)
  |6=>simp only[zt,Fay,Far,Fal]at hx;subst hx;exact qn (hc 6 _ y rfl hy)
  |7=>simp only[zt,Fay,Far,Fal]at hx;subst hx;exact hv.borrow Bp dh sto (hc 7 _ y rfl hy)
  |i+8=>simp[zt]at hx
def jx(v:AV)(p:Nat):Prop:=∀b n c,v=.s (.slice (some ⟨b,0,none⟩) n c)->0<c->b≠p
theorem RowsQ.set{α:Type}{f:α->List AV}{l:List α}(h:RowsQ k f S v l)(hp:jx v p)(x:AObj):RowsQ k f (S.sO p x) v l:=by
 rcases h with(h|⟨b,cap,L,rfl,ho,h2,h3⟩)|h
 ·exact .inl (.inl h)
 ·by_cases hc:0<cap
  ·exact .inl (.inr ⟨b,cap,L,rfl,by rw[zg (hp b _ _ rfl hc)];exact ho,h2,h3⟩)
  ·have h0:cap=0:=θ;subst h0;have hl:l=[]:=Fa0 θ;subst hl;exact .inr ⟨_,λx hx=>by cases hx;rfl,rfl,rfl⟩
 ·exact .inr h
def Kv{α:Type}{f:α->List AV}{l:List α}(h:RowsQ k f S v l)(hp:S.obj p=none):jx v p:=by
 rcases h with(⟨rfl,rfl⟩|⟨b,cap,L,rfl,ho,h2⟩)|⟨a,ha,rfl,rfl⟩
 ·intro b n c e;simp at e
 ·intro b' n c e _;simp only[AV.s.injEq,Value.slice.injEq,Fal,Addr.mk.injEq]at e;obtain⟨⟨rfl,_⟩,_⟩:=e;intro e2;subst e2;rw[hp]at ho;cases ho
 ·intro b n c e hc;simp only[AV.s.injEq,Value.slice.injEq]at e;omega
def spU(w:Wld)(c:Cmd):Unt:=⟨w.next,c.P,c.N,(c.X,c.Y),-1,-1,0,0,0⟩
def spW(w:Wld)(c:Cmd):Wld:={w with U:=w.U++[spU w c],next:=w.next+1}
def Iv(w:Wld):Prop:=4096<=w.U.length\/1099511627776<=w.next
open Classical in
noncomputable def spE(w:Wld)(c:Cmd):Int:=if Iv w then 4 else if xo w 0 c.N (c.X,c.Y)then 0 else 5
open Classical in
noncomputable def doE(E:Wld->Cmd->Int)(w:Wld)(c:Cmd):Int:=if¬yc w\/¬vo c\/w.players<c.P then 1 else E w c
open Classical in
noncomputable def doW(E:Wld->Cmd->Int)(W:Wld->Cmd->Wld)(w:Wld)(c:Cmd):Wld:=if doE E w c=0 then W w c else w
theorem ze2{E:Wld->Cmd->Int}{c:Cmd}(h:¬yc w\/¬vo c\/w.players<c.P):doE E w c=1:=by unfold doE;rw[if_pos h]
theorem ze1{E:Wld->Cmd->Int}{c:Cmd}(h1:yc w)(h2:vo c)(h3:c.P<=w.players):doE E w c=E w c:=by
 unfold doE;rw[if_neg];rintro(h|h|h)
 ·exact h h1
 ·exact h h2
 ·omega
theorem zez{E:Wld->Cmd->Int}{W:Wld->Cmd->Wld}{c:Cmd}(h:doE E w c=0):doW E W w c=W w c:=by unfold doW;rw[if_pos h]
theorem na{E:Wld->Cmd->Int}{W:Wld->Cmd->Wld}{c:Cmd}(h:doE E w c≠0):doW E W w c=w:=by unfold doW;rw[if_neg h]
end
end Go.V
namespace Go.V
section
variable {j n i k:Nat}
def qlt(a b:Int×Int):Prop:=a.1<b.1\/a.1=b.1/\a.2<b.2
instance(a b:Int×Int):Decidable (qlt a b):=by unfold qlt;exact inferInstance
def f0(a:Int×Int):¬qlt a a:=by unfold qlt;omega
theorem Sw{a b c:Int×Int}(h:¬qlt b a)(k:¬qlt c b):¬qlt c a:=by unfold qlt at*;omega
theorem Sx{a b:Int×Int}(h:qlt a b):¬qlt b a:=by unfold qlt at*;omega
def zaw{a b:Int×Int}(h:¬qlt b a):a.1<=b.1:=by unfold qlt at*;omega
def par(j:Nat):Nat:=(j-1)/2
def H8(f:Nat->Int×Int)(i k:Nat):Nat->Int×Int:=λj=>if j=k then f i else if j=i then f k else f j
def L5(f:Nat->Int×Int)(n:Nat):Prop:=∀j,0<j->j<n->¬qlt (f j) (f (par j))
def UpF(f:Nat->Int×Int)(n i:Nat):Prop:=(∀j,0<j->j<n->j≠i->¬qlt (f j) (f (par j)))/\∀j,0<j->j<n->par j=i->0<i->¬qlt (f j) (f (par i))
def H1(f:Nat->Int×Int)(n i:Nat):Prop:=(∀j,0<j->j<n->par j≠i->¬qlt (f j) (f (par j)))/\∀j,0<j->j<n->par j=i->0<i->¬qlt (f j) (f (par i))
theorem Cy(h:0<j):par j<j:=by unfold par;omega
def ziy{f:Nat->Int×Int}(h:UpF f n i)(hi:i=0\/¬qlt (f i) (f (par i))):L5 f n:=by
 intro j h0 hj;by_cases e:j=i
 ·grind
 ·exact h.1 j h0 hj e
def zix{f:Nat->Int×Int}(h:L5 f n):UpF f (n+1) n:=
 ⟨λj h0 hj hn=>h j h0 θ,λj h0 hj hp h1=>by have:=Cy h0;omega⟩
def ziw{f:Nat->Int×Int}(h:UpF f n i)(h0:0<i)(hi:i<n)(hl:qlt (f i) (f (par i))):UpF (H8 f i (par i)) n (par i):=by
 have hp:=Cy h0;refine⟨λj j0 jn jp=>?_,λj j0 jn jp p0=>?_⟩
 ·unfold H8;rw[if_neg jp];by_cases e:j=i
  ·simp_all[Sx]
  ·rw[if_neg e];by_cases e2:par j=par i
   ·rw[if_pos e2];have h1:=h.1 j j0 jn e;grind[Sw,Sx]
   ·rw[if_neg e2];by_cases e3:par j=i
    ·rw[if_pos e3];exact h.2 j j0 jn e3 h0
    ·rw[if_neg e3];exact h.1 j j0 jn e
 ·have hpp:=Cy p0;unfold H8;rw[if_neg (show¬par (par i)=par i by omega),if_neg (show¬par (par i)=i by omega)];have h1:=h.1 (par i) p0 θ θ;by_cases e:j=i
  ·grind
  ·have hjp:j≠par i:=by grind
   rw[if_neg hjp,if_neg e];have h2:=h.1 j j0 jn e;grind[Sw]
def zey{f:Nat->Int×Int}(h:H1 f n i)(hc:∀j,0<j->j<n->par j=i->¬qlt (f j) (f i)):L5 f n:=by
 intro j h0 hj;by_cases e:par j=i
 ·grind
 ·exact h.1 j h0 hj e
def ylp{f:Nat->Int×Int}(h:H1 f n i)(hk0:0<k)(hk:k<n)(hki:par k=i)(hmin:∀j,0<j->j<n->par j=i->¬qlt (f j) (f k))(hl:qlt (f k) (f i)):H1 (H8 f i k) n k:=by
 have hik:i<k:=hki▸Cy hk0;refine⟨λj j0 jn jp=>?_,λj j0 jn jp _=>?_⟩
 ·unfold H8;rw[if_neg jp];by_cases e:j=k
  ·simp_all[Sx]
  ·rw[if_neg e];by_cases e2:j=i
   ·subst e2;have hpj:par j≠j:=by have:=Cy j0;omega
    rw[if_pos rfl,if_neg hpj];exact h.2 k hk0 hk hki j0
   ·rw[if_neg e2];by_cases e3:par j=i
    ·grind
    ·rw[if_neg e3];exact h.1 j j0 jn e3
 ·have hjk:k<j:=jp▸Cy j0;unfold H8;rw[if_neg (show¬j=k by omega),if_neg (show¬j=i by omega),hki,if_neg (show¬i=k by omega),if_pos rfl];have h1:=h.1 j j0 jn θ;grind
def yio{f:Nat->Int×Int}(h:L5 f n):∀j,j<n->¬qlt (f j) (f 0):=by
 intro j;induction j using Nat.strongRecOn with
 |_ j ih=>
  intro hj;by_cases e:j=0
  ·subst e;exact f0 _
  ·have hp:=Cy (Nat.pos_of_ne_zero e);exact Sw (ih _ hp θ) (h j θ hj)
def O4(h:0<j):par j=i↔j=2*i+1\/j=2*i+2:=by unfold par;omega
def qat(l:List (Int×Int))(j:Nat):Int×Int:=l.getD j (0,0)
def vw(l:List (Int×Int)):Prop:=L5 (qat l) l.length
def vd(l:List (Int×Int))(i k:Nat):List (Int×Int):=(l.set i (qat l k)).set k (qat l i)
theorem Mf(l:List (Int×Int))(i k:Nat):(vd l i k).length=l.length:=by simp[vd]
theorem Sy{l:List (Int×Int)}(h:j<l.length):qat l j=l[j]:=by grind[qat]
theorem yc5{l:List (Int×Int)}(h:i<l.length)(x:Int×Int)(j:Nat):qat (l.set i x) j=if j=i then x else qat l j:=by unfold qat;grind
theorem zax{l:List (Int×Int)}(hi:i<l.length)(hk:k<l.length):qat (vd l i k)=H8 (qat l) i k:=by grind[vd,H8,yc5]
def te{l:List (Int×Int)}(hi:i<l.length)(hk:k<l.length):(vd l i k).Perm l:=by grind[vd,Sy]
theorem zay(l:List (Int×Int))(x:Int×Int)(j:Nat)(h:j<l.length):qat (l++[x]) j=qat l j:=by grind[qat]
end
structure FarOK(E:Nat->Nat->Int->Prop)(goal:Nat)(d:Nat->Int):Prop where
 lab:∀u,d u=-1\/0<=d u
 gl:d goal=0
 pre:∀u,u≠goal->0<=d u->∃t c,0<=d t/\E t u c/\d t+c<=d u
 rel:∀t u c,0<=d t->E t u c->0<=d u/\d u<=d t+c
section
variable {goal u n t:Nat} {cur:Int}
def Wx{E:Nat->Nat->Int->Prop}(hE:∀t u c,E t u c->0<c){d e:Nat->Int}(h:FarOK E goal d)(k:FarOK E goal e):∀(n:Nat) (u:Nat),0<=e u->(e u).toNat=n->0<=d u/\d u<=e u:=by
 intro n;induction n using Nat.strongRecOn with
 |_ n ih=>
  intro u hu hn;by_cases hg:u=goal
  ·subst hg;have h1:=h.gl;omega
  ·obtain⟨t,c,ht,hE1,hc⟩:=k.pre u hg hu;have hp:=hE _ _ _ hE1;obtain⟨h1,h2⟩:=ih (e t).toNat θ t ht rfl;obtain⟨h3,h4⟩:=h.rel t u c h1 hE1;omega
def ykr{E:Nat->Nat->Int->Prop}(hE:∀t u c,E t u c->0<c){d e:Nat->Int}(h:FarOK E goal d)(k:FarOK E goal e):d=e:=by
 funext u
 rcases h.lab u with h1|h1
 ·rcases k.lab u with h2|h2
  ·omega
  ·have:=Wx hE h k _ u h2 rfl;omega
 ·rcases k.lab u with h2|h2
  ·have:=Wx hE k h _ u h1 rfl;omega
  ·have h3:=Wx hE h k _ u h2 rfl;have h4:=Wx hE k h _ u h1 rfl;omega
def qc{α:Type}(d:Nat->α)(u:Nat)(x:α):Nat->α:=λj=>if j=u then x else d j
theorem Bo{α:Type}(d:Nat->α)(u:Nat)(x:α):qc d u x u=x:=by simp[qc]
theorem kz{α:Type}{d:Nat->α}{j:Nat}{x:α}(h:j≠u):qc d u x j=d j:=by simp[qc,h]
structure DJ(E:Nat->Nat->Int->Prop)(n goal:Nat)(d:Nat->Int)(dn:Nat->Bool)(q:List (Int×Int))(cur:Int)(O:Nat->Nat->Int->Prop):Prop where
 lab:∀u,d u=-1\/0<=d u
 gl:d goal=0
 pre:∀u,u≠goal->0<=d u->∃t c,dn t=true/\0<=d t/\E t u c/\d t+c<=d u
 rel:∀t u c,dn t=true->E t u c->¬O t u c->0<=d u/\d u<=d t+c
 mono:∀t,dn t=true->0<=d t/\d t<=cur
 ent:∀e∈q,∃u:Nat,e.2=(u:Int)/\u<n/\0<=d u/\d u<=e.1/\cur<=e.1
 wait:∀u,0<=d u->dn u=false->(d u,(u:Int))∈q
def Kz:Nat->Nat->Int->Prop:=λ_ _ _=>False
def ylz(E:Nat->Nat->Int->Prop)(hg:goal<n){d:Nat->Int}(hd:∀u,d u=if u=goal then 0 else -1):DJ E n goal d (λ_=>false) [(0,(goal:Int))] 0 Kz:=by
 refine⟨λu=>?_,by simp[hd],λu hu h=>?_,λt u c h=>?_,λt h=>?_,λe he=>?_,λu h _=>?_⟩
 ·grind
 ·grind
 ·cases h
 ·cases h
 ·grind
 grind
def ylx{E:Nat->Nat->Int->Prop}{d:Nat->Int}{dn:Nat->Bool}{q q':List (Int×Int)}(h:DJ E n goal d dn q cur Kz){x:Int×Int}{t:Nat}(ht:x.2=(t:Int))(hp:q.Perm (x::q'))(hd:dn t=true):DJ E n goal d dn q' cur Kz:=by
 refine⟨h.lab,h.gl,h.pre,h.rel,h.mono,λe he=>h.ent e (hp.mem_iff.2 (Fau _ he)),λu hu hn=>?_⟩;rcases Fax.1 (hp.mem_iff.1 (h.wait u hu hn))with he|he
 ·grind
 omega
def ylw{E:Nat->Nat->Int->Prop}{d:Nat->Int}{dn:Nat->Bool}{q q':List (Int×Int)}(h:DJ E n goal d dn q cur Kz){x:Int×Int}{t:Nat}(ht:x.2=(t:Int))(hp:q.Perm (x::q'))(hm:∀e∈q,¬qlt e x)(hd:dn t=false):
  x.1=d t/\DJ E n goal d (qc dn t true) q' x.1 (λa _ _=>a=t):=by
 have hx:x∈q:=hp.mem_iff.2 Fa1;obtain⟨u,hu,hun,hu0,hux,huc⟩:=h.ent x hx;have:u=t:=θ;subst this;have hk:x.1=d u:=by have:=zaw (hm _ (h.wait u hu0 hd));omega
 refine⟨hk,h.lab,h.gl,λv hv hl=>?_,λa b c ha hE hO=>?_,λa ha=>?_,λe he=>?_,λv hv hn=>?_⟩
 ·obtain⟨a,c,h1,h2,h3,h4⟩:=h.pre v hv hl;grind[qc]
 ·rw[kz hO]at ha;exact h.rel a b c ha hE (λh=>h)
 ·unfold qc at ha;split at ha
  ·grind
  ·have:=h.mono a ha;omega
 ·have he2:=hp.mem_iff.2 (Fau x he);obtain⟨v,h1,h2,h3,h4,h5⟩:=h.ent e he2;exact⟨v,h1,h2,h3,h4,zaw (hm e he2)⟩
 ·unfold qc at hn;split at hn
  ·cases hn
  ·rename_i hne;rcases Fax.1 (hp.mem_iff.1 (h.wait v hv hn))with he|he
   ·grind
   omega
def nf{E:Nat->Nat->Int->Prop}{d:Nat->Int}{dn:Nat->Bool}{q:List (Int×Int)}{O O':Nat->Nat->Int->Prop}(h:DJ E n goal d dn q cur O)
  (ho:∀t u c,O t u c->¬O' t u c->E t u c->0<=d u/\d u<=d t+c):DJ E n goal d dn q cur O':=
 ⟨h.lab,h.gl,h.pre,λt u c ht hE hO=>by
  by_cases e:O t u c
  ·grind
  ·exact h.rel t u c ht hE e,h.mono,h.ent,h.wait⟩
def ze4{E:Nat->Nat->Int->Prop}(hE:∀t u c,E t u c->0<c){d:Nat->Int}{dn:Nat->Bool}{q q':List (Int×Int)}{O:Nat->Nat->Int->Prop}(h:DJ E n goal d dn q cur O){u:Nat}{c:Int}(ht:dn t=true)(htc:d t=cur)(hu:u<n)(hEu:E t u c)(hd:dn u=false)(hl:d u<0\/cur+c<d u)
  (hq:q'.Perm ((cur+c,(u:Int))::q)):DJ E n goal (qc d u (cur+c)) dn q' cur O:=by
 have hc:=hE _ _ _ hEu;have hcur:0<=cur:=by have:=h.mono t ht;omega
 have htu:t≠u:=λe=>δ;have hdn:∀a,dn a=true->a≠u:=λa ha e=>δ;have hgu:goal≠u:=λe=>by subst e;have:=h.gl;omega
 refine⟨λv=>?_,by rw[kz hgu];exact h.gl,λv hv hl2=>?_,λa b k ha hE2 hO=>?_,λa ha=>?_,λe he=>?_,λv hv hn=>?_⟩
 ·unfold qc;split
  ·omega
  ·exact h.lab v
 ·by_cases e:v=u
  ·grind[kz,Bo]
  ·rw[kz e]at hl2⊢;obtain⟨a,k,h1,h2,h3,h4⟩:=h.pre v hv hl2;grind[kz]
 ·rw[kz (hdn a ha)];obtain⟨h1,h2⟩:=h.rel a b k ha hE2 hO;grind[Bo,kz]
 ·rw[kz (hdn a ha)];exact h.mono a ha
 ·rcases Fax.1 (hq.mem_iff.1 he)with e1|e1
  ·subst e1;exact⟨u,rfl,hu,by rw[Bo];omega,by rw[Bo];simp,θ⟩
  ·obtain⟨v,h1,h2,h3,h4,h5⟩:=h.ent e e1;grind[Bo,kz]
 ·by_cases e:v=u
  ·grind[Bo]
  ·rw[kz e]at hv⊢;exact hq.mem_iff.2 (Fau _ (h.wait v hv hn))
def yl0{E:Nat->Nat->Int->Prop}{d:Nat->Int}{dn:Nat->Bool}(h:DJ E n goal d dn [] cur Kz):FarOK E goal d:=by
 have hdn:∀u,0<=d u->dn u=true:=λu hu=>by
  cases hb:dn u with
  |true=>rfl
  |false=>exact absurd (h.wait u hu hb) φ
 exact⟨h.lab,h.gl,λu hu hl=>by obtain⟨t,c,_,h2,h3,h4⟩:=h.pre u hu hl;grind,λt u c ht hE=>h.rel t u c (hdn t ht) hE (λh=>h)⟩
end
end Go.V
