/- The ground on which laws of thronglaw24 are proved: contracts of functions and plain lemmas; no condition beyond the row's own. -/
import Derived.Test.YtbemejeejgpkaaaGreatKD
import Derived.Test.YtbemejeejgpkaaaGreatKC
import Derived.Test.YtbemejeejgpkaaaGreatKA
set_option linter.unusedSimpArgs false
set_option linter.unusedVariables false
namespace Go.V
def qA(id:Int)(e:AV×AV):Bool:=match e.1 with|.s (.int _ n)=>id==n|_=>false
def qG(x y:Int)(e:AV×AV):Bool:=match e.1 with|.agg [.s (.int _ a),.s (.int _ b)]=>(x==a&&(y==b&&true))|_=>false
def atId(id:Int)(e:Ent):Bool:=id==e.1
def zjk(k:Int×Int)(g:Grp):Bool:=(k.1==g.x&&(k.2==g.y&&true))
theorem atKey_iff{k:Int×Int}{g:Grp}:zjk k g=true↔g.key=k:=by
 obtain⟨x,y⟩:=k
 unfold zjk Grp.key
 simp
 constructor
 ·rintro⟨h1,h2⟩;exact⟨h1.symm,h2.symm⟩
 ·rintro⟨h1,h2⟩;exact⟨h1.symm,h2.symm⟩
theorem yub(l:List Ent)(id:Int):(l.map entA).find? (qA id)=(l.find? (atId id)).map entA:=by
 rw[List.find?_map];rfl
theorem zhe(l:List Ent)(id:Int):(l.map entA).findIdx? (qA id)=l.findIdx? (atId id):=by
 rw[List.findIdx?_map];rfl
theorem ybt(G:List Grp)(k:Int×Int):(G.map entG).find? (qG k.1 k.2)=(G.find? (zjk k)).map entG:=by
 rw[List.find?_map];rfl
theorem zhd(G:List Grp)(k:Int×Int):(G.map entG).findIdx? (qG k.1 k.2)=G.findIdx? (zjk k):=by
 rw[List.findIdx?_map];rfl
theorem ze3{α:Type}{q:α->Bool}{l:List α}{e:α}(h:l.find? q=some e):e∈l/\q e=true:=⟨List.mem_of_find?_eq_some h,List.find?_some h⟩
theorem zi3{α:Type}{q:α->Bool}{l:List α}{i:Nat}(h:l.findIdx? q=some i):∃e,l[i]?=some e/\q e=true/\l.find? q=some e:=by
 have h1:=List.findIdx?_eq_some_iff_getElem.1 h
 obtain⟨hlt,hq,_⟩:=h1
 exact⟨l[i],List.getElem?_eq_getElem hlt,hq,zi1 h (List.getElem?_eq_getElem hlt)⟩
theorem zmm{α:Type}{q:α->Bool}{l:List α}{e:α}(h:l.find? q=some e):∃i,l.findIdx? q=some i/\l[i]?=some e:=by
 cases hi:l.findIdx? q with
 |none=>rw[zgq hi]at h;cases h
 |some i=>
  obtain⟨e',h1,_,h3⟩:=zi3 hi
  rw[h]at h3
  cases h3
  exact⟨i,rfl,h1⟩
theorem zmp{l:List Ent}(hn:(l.map (·.1)).Nodup){i:Nat}{e:Ent}(hi:l[i]?=some e):l.eraseIdx i=yn l e.1:=by
 induction l generalizing i with
 |nil=>simp at hi
 |cons a l ih=>
  rw[List.map_cons,List.nodup_cons]at hn
  cases i with
  |zero=>
   simp at hi
   subst hi
   rw[List.eraseIdx_cons_zero]
   unfold yn
   rw[List.filter_cons_of_neg (by simp)]
   symm
   rw[List.filter_eq_self]
   intro e he
   simp
   intro h
   exact hn.1 (List.mem_map.2 ⟨e,he,h⟩)
  |succ i=>
   have hi:l[i]?=some e:=by simpa using hi
   rw[List.eraseIdx_cons_succ,ih hn.2 hi]
   unfold yn
   rw[List.filter_cons_of_pos]
   simp
   intro h
   exact hn.1 (List.mem_map.2 ⟨e,List.mem_of_getElem? hi,h.symm⟩)
theorem zsa{l:List Ent}{id:Int}(h:l.find? (atId id)=none):yn l id=l:=by
 unfold yn
 rw[List.filter_eq_self]
 intro e he
 have:=List.find?_eq_none.1 h e he
 simp[atId]at this
 simp
 exact fun h=>this h.symm
section
variable {a:Store} {p ma mi:Nat} {l:List Ent} {bs1:List Nat} {c1:Nat} {G:List Grp} {bs2:List Nat} {c2:Nat}
theorem CellsAt.p_ne(h:CellsAt a p ma mi l bs1 c1 G bs2 c2):ma≠p/\mi≠p:=by
 refine⟨fun e=>?_,fun e=>?_⟩
 ·have:=h.ha;rw[e,h.hp]at this;cases this
 ·have:=h.hi;rw[e,h.hp]at this;cases this
theorem CellsAt.g_ne(h:CellsAt a p ma mi l bs1 c1 G bs2 c2){g:Grp}(hg:g∈G):g.b≠ma/\g.b≠mi/\g.b≠p:=by
 obtain⟨h1,h2,h3⟩:=h.hg g hg
 refine⟨fun e=>?_,fun e=>?_,h3⟩
 ·have:=h.ha;rw[<-e,h1]at this;cases this
 ·have:=h.hi;rw[<-e,h1]at this;cases this
theorem CellsAt.other(h:CellsAt a p ma mi l bs1 c1 G bs2 c2){b:Nat}(x:AObj)(hp:b≠p)(hma:b≠ma)(hmi:b≠mi)(hg:∀g∈G,b≠g.b):CellsAt (a.setObj b x) p ma mi l bs1 c1 G bs2 c2:=
 ⟨by rw[zd (Ne.symm hp)];exact h.hp,by rw[zd (Ne.symm hma)];exact h.ha,by rw[zd (Ne.symm hmi)];exact h.hi,h.ne,
  fun g hg'=>by rw[zd (Ne.symm (hg g hg'))];exact h.hg g hg',h.nd⟩
theorem CellsAt.fresh(h:CellsAt a p ma mi l bs1 c1 G bs2 c2){b:Nat}(x:AObj)(hb:Fresh a b):CellsAt (a.setObj b x) p ma mi l bs1 c1 G bs2 c2:=
 h.other x (hb.ne_obj h.hp) (hb.ne_obj h.ha) (hb.ne_obj h.hi) fun g hg=>hb.ne_obj (h.hg g hg).1
theorem CellsAt.setA(h:CellsAt a p ma mi l bs1 c1 G bs2 c2)(l':List Ent)(bs:List Nat)(c:Nat):CellsAt (a.setObj ma (.map (l'.map entA) bs c)) p ma mi l' bs c G bs2 c2:=
 ⟨by rw[zd (Ne.symm h.p_ne.1)];exact h.hp,zb _ _ _,by rw[zd (Ne.symm h.ne)];exact h.hi,h.ne,
  fun g hg=>by rw[zd (h.g_ne hg).1];exact h.hg g hg,h.nd⟩
theorem CellsAt.setI(h:CellsAt a p ma mi l bs1 c1 G bs2 c2){G':List Grp}(bs:List Nat)(c:Nat)(hg:∀g∈G',a.obj g.b=some (.cells (g.ns.map aI++g.L))/\g.fits/\g.b≠p)(nd:(G'.map (·.b)).Nodup):
  CellsAt (a.setObj mi (.map (G'.map entG) bs c)) p ma mi l bs1 c1 G' bs c:=
 ⟨by rw[zd (Ne.symm h.p_ne.2)];exact h.hp,by rw[zd h.ne];exact h.ha,zb _ _ _,h.ne,
  fun g hg'=>by
   obtain⟨h1,h2,h3⟩:=hg g hg'
   have:g.b≠mi:=fun e=>by have:=h.hi;rw[<-e,h1]at this;cases this
   rw[zd this]
   exact⟨h1,h2,h3⟩,nd⟩
structure CellsMid(a:Store)(p ma mi:Nat)(l:List Ent)(bs1:List Nat)(c1:Nat)(G:List Grp)(bs2:List Nat)(c2:Nat)(b:Nat):Prop where
 hp:a.obj p=some (.cells [.s (.map (some ma)),.s (.map (some mi))])
 ha:a.obj ma=some (.map (l.map entA) bs1 c1)
 hi:a.obj mi=some (.map (G.map entG) bs2 c2)
 ne:ma≠mi
 hg:∀g∈G,g.b≠b->a.obj g.b=some (.cells (g.ns.map aI++g.L))/\g.fits/\g.b≠p
 nd:(G.map (·.b)).Nodup
theorem CellsAt.mid(h:CellsAt a p ma mi l bs1 c1 G bs2 c2){b:Nat}(x:AObj)(hp:b≠p)(hma:b≠ma)(hmi:b≠mi):CellsMid (a.setObj b x) p ma mi l bs1 c1 G bs2 c2 b:=
 ⟨by rw[zd (Ne.symm hp)];exact h.hp,by rw[zd (Ne.symm hma)];exact h.ha,by rw[zd (Ne.symm hmi)];exact h.hi,h.ne,
  fun g hg' hne=>by rw[zd hne];exact h.hg g hg',h.nd⟩
theorem CellsMid.setI{b:Nat}(h:CellsMid a p ma mi l bs1 c1 G bs2 c2 b){G':List Grp}(bs:List Nat)(c:Nat)(hg:∀g∈G',(g∈G/\g.b≠b)\/(a.obj g.b=some (.cells (g.ns.map aI++g.L))/\g.fits/\g.b≠p))(nd:(G'.map (·.b)).Nodup):
  CellsAt (a.setObj mi (.map (G'.map entG) bs c)) p ma mi l bs1 c1 G' bs c:=by
 have hpi:mi≠p:=fun e=>by have:=h.hi;rw[e,h.hp]at this;cases this
 refine⟨by rw[zd (Ne.symm hpi)];exact h.hp,by rw[zd h.ne];exact h.ha,zb _ _ _,h.ne,fun g hg'=>?_,nd⟩
 have key:a.obj g.b=some (.cells (g.ns.map aI++g.L))/\g.fits/\g.b≠p:=by
  rcases hg g hg' with⟨h1,h2⟩|h1
  ·exact h.hg g h1 h2
  ·exact h1
 obtain⟨h1,h2,h3⟩:=key
 have:g.b≠mi:=fun e=>by have:=h.hi;rw[<-e,h1]at this;cases this
 rw[zd this]
 exact⟨h1,h2,h3⟩
end
theorem zzs{a:Store}{p ma mi:Nat}{l:List Ent}{bs1:List Nat}{c1:Nat}{G:List Grp}{bs2:List Nat}{c2:Nat}(ha:CellsAt a p ma mi l bs1 c1 G bs2 c2)(hi:Inv l G){id:Int}{pos:Vc}(hno:∀e∈l,e.1≠id):
  ∃cur ns,zdp false (.s (.slice none 0 0)) ((G.find? (zjk (zt pos))).map entG)=cur/\Ints a cur ns/\ns.Pairwise (·<·)/\(ns=[]\/∃g∈G,ns=g.ns)/\(∀b cap,cur=.s (.slice (some ⟨b,0,none⟩) ns.length cap)->a.obj b≠none)∧
   ∀vb lit b cap L,Fresh a vb->(Fresh (a.setObj vb lit) b\/∃c0,cur=.s (.slice (some ⟨b,0,none⟩) ns.length c0))->
    (ns.take (ns.countP (·<id))++id::ns.drop (ns.countP (·<id))).length<=cap->cap<=(ns.take (ns.countP (·<id))++id::ns.drop (ns.countP (·<id))).length+L.length->cap<=9223372036854775807->
    ((a.setObj vb lit).setObj b (.cells ((ns.take (ns.countP (·<id))++id::ns.drop (ns.countP (·<id))).map aI++L))).obj mi=some (.map (G.map entG) bs2 c2)∧
    ((a.setObj vb lit).setObj b (.cells ((ns.take (ns.countP (·<id))++id::ns.drop (ns.countP (·<id))).map aI++L))).obj p=some (.cells [.s (.map (some ma)),.s (.map (some mi))])∧
    ∃G' bs2' c2',jk (G.map entG) bs2 c2 (qG (zt pos).1 (zt pos).2) (.agg [int (zt pos).1,int (zt pos).2]) (.s (.slice (some ⟨b,0,none⟩) (ns.take (ns.countP (·<id))++id::ns.drop (ns.countP (·<id))).length cap))=.map (G'.map entG) bs2' c2'∧
     CellsAt (((a.setObj vb lit).setObj b (.cells ((ns.take (ns.countP (·<id))++id::ns.drop (ns.countP (·<id))).map aI++L))).setObj mi (.map (G'.map entG) bs2' c2')) p ma mi l bs1 c1 G' bs2' c2'/\Inv (l++[(id,pos)]) G':=by
 obtain⟨w1,w2⟩:=ysl (e:=(id,pos)) hi hno
 cases hf:G.find? (zjk (zt pos))with
 |none=>
  refine⟨_,[],rfl,.inl ⟨rfl,rfl⟩,List.Pairwise.nil,.inl rfl,fun b cap h=>?_,fun vb lit b cap L hvb hb h1 h2 h3=>?_⟩
  ·simp[zdp]at h
  have hb:Fresh (a.setObj vb lit) b:=by
   rcases hb with hb|⟨c0,hb⟩
   ·exact hb
   ·simp[zdp]at hb
  simp only[List.countP_nil,List.take_nil,List.drop_nil,List.nil_append]at*
  have a1:=ha.fresh lit hvb
  have a2:=a1.fresh (.cells ([id].map aI++L)) hb
  refine⟨a2.hi,a2.hp,G++[⟨(zt pos).1,(zt pos).2,[id],b,cap,L⟩],bs2++[c2],c2+1,?_,?_,?_⟩
  ·unfold jk
   have:G.findIdx? (zjk (zt pos))=none:=by
    cases hx:G.findIdx? (zjk (zt pos))with
    |none=>rfl
    |some i=>obtain⟨e,_,_,h⟩:=zi3 hx;rw[hf]at h;cases h
   rw[zhd,this,List.map_append]
   rfl
  ·refine a2.setI _ _ (fun g hg=>?_) ?_
   ·rcases List.mem_append.1 hg with hg|hg
    ·exact a2.hg g hg
    ·simp at hg
     subst hg
     exact⟨zb _ _ _,⟨h1,h2,h3⟩,hb.ne_obj a1.hp⟩
   ·rw[List.map_append,List.nodup_append]
    refine⟨ha.nd,by simp,fun x hx y hy=>?_⟩
    obtain⟨g,hg,rfl⟩:=List.mem_map.1 hx
    simp at hy
    subst hy
    exact Ne.symm (hb.ne_obj (a1.hg g hg).1)
  ·refine w2 (fun g hg hk=>?_) _ rfl rfl
   have:=List.find?_eq_none.1 hf g hg
   exact this (atKey_iff.2 hk)
 |some g=>
  obtain⟨hg,hk⟩:=ze3 hf
  have hk:=atKey_iff.1 hk
  obtain⟨j,hj1,hj2⟩:=zmm hf
  obtain⟨k1,k2,k3⟩:=ha.hg g hg
  obtain⟨s1,s2⟩:=hi.s g hg
  have hnin:id∉g.ns:=fun h=>by
   obtain⟨e,he,h1,_⟩:=(hi.m1 g hg id).1 h
   exact hno e he h1
  obtain⟨i1,i2⟩:=zwi s1 hnin
  refine⟨_,g.ns,rfl,.inr ⟨g.b,g.cap,g.L,rfl,k1,k2⟩,s1,.inr ⟨g,hg,rfl⟩,fun b cap h=>?_,fun vb lit b cap L hvb hb h1 h2 h3=>?_⟩
  ·simp[zdp,entG]at h
   rw[<-h.1,k1];simp
  generalize g.ns.take (g.ns.countP (·<id))++id::g.ns.drop (g.ns.countP (·<id))=ins at*
  have a1:=ha.fresh lit hvb
  have hbne:b≠p/\b≠ma/\b≠mi/\∀g1∈G,g1≠g->g1.b≠b:=by
   rcases hb with hb|⟨c0,hb⟩
   ·exact⟨hb.ne_obj a1.hp,hb.ne_obj a1.ha,hb.ne_obj a1.hi,fun g1 hg1 _=>Ne.symm (hb.ne_obj (a1.hg g1 hg1).1)⟩
   ·have:g.b=b:=by simp[zdp,entG]at hb;exact hb.1
    subst this
    obtain⟨n1,n2,n3⟩:=ha.g_ne hg
    refine⟨n3,n1,n2,fun g1 hg1 hne he=>hne ?_⟩
    obtain⟨i,hi1⟩:=List.mem_iff_getElem?.1 hg1
    have:=xj (f:=fun g:Grp=>g.b) ha.nd hi1 hj2 he
    subst this
    rw[hj2]at hi1
    cases hi1;rfl
  obtain⟨n3,n1,n2,n4⟩:=hbne
  have mid:=a1.mid (.cells (ins.map aI++L)) n3 n1 n2
  let g2:Grp:=⟨g.x,g.y,ins,b,cap,L⟩
  have hmem:∀g1,g1∈G.set j g2->g1=g2\/(g1∈G/\g1≠g):=fun g1 h=>by
   rcases(qk (f:=Grp.key) hi.n2 hj2).1 h with h|⟨h,h'⟩
   ·exact .inl h
   ·exact .inr ⟨h,fun e=>h' (by rw[e])⟩
  refine⟨mid.hi,mid.hp,G.set j g2,bs2,c2,?_,?_,w1 j g g2 hj2 hk rfl i1 i2⟩
  ·unfold jk
   rw[zhd,hj1,List.map_set]
   simp only
   congr 2
   show _=(AV.agg [int g.x,int g.y],_)
   rw[<-hk];rfl
  ·refine mid.setI _ _ (fun g1 h1'=>?_) ?_
   ·rcases hmem g1 h1' with rfl|⟨q1,q2⟩
    ·exact .inr ⟨zb _ _ _,⟨h1,h2,h3⟩,n3⟩
    ·exact .inl ⟨q1,n4 g1 q1 q2⟩
   ·rw[List.map_set]
    have hlt:=(List.getElem?_eq_some_iff.1 hj2).1
    unfold List.Nodup
    rw[List.pairwise_iff_getElem]
    intro i1 i2 hl1' hl2 hlt12 he
    replace he:=congrArg some he
    rw[<-List.getElem?_eq_getElem,<-List.getElem?_eq_getElem]at he
    rw[List.getElem?_set,List.getElem?_set]at he
    simp only[List.length_map,List.length_set]at hl2 he
    have nd:=ha.nd
    by_cases e1:j=i1
    ·subst e1
     rw[if_pos rfl,if_pos hlt,if_neg (by omega),List.getElem?_map,List.getElem?_eq_getElem hl2]at he
     simp at he
     refine n4 G[i2] (List.getElem_mem hl2) (fun e=>?_) he.symm
     have:=xj (f:=Grp.key) hi.n2 (List.getElem?_eq_getElem hl2) hj2 (by rw[e])
     omega
    ·by_cases e2:j=i2
     ·subst e2
      have hl1:i1<G.length:=by omega
      rw[if_neg e1,if_pos rfl,if_pos hlt,List.getElem?_map,List.getElem?_eq_getElem hl1]at he
      simp at he
      refine n4 G[i1] (List.getElem_mem hl1) (fun e=>?_) he
      have:=xj (f:=Grp.key) hi.n2 (List.getElem?_eq_getElem hl1) hj2 (by rw[e])
      omega
     ·have hl1:i1<G.length:=by omega
      rw[if_neg e1,if_neg e2,List.getElem?_map,List.getElem?_map,List.getElem?_eq_getElem hl1,List.getElem?_eq_getElem hl2]at he
      simp at he
      have:=xj (f:=fun g:Grp=>g.b) nd (List.getElem?_eq_getElem hl1) (List.getElem?_eq_getElem hl2) he
      omega
theorem Ints.fresh{st:Store}{v:AV}{ns:List Int}(h:Ints st v ns){b:Nat}(x:AObj)(hb:Fresh st b):Ints (st.setObj b x) v ns:=by
 rcases h with h|⟨b1,cap,L,h1,h2,h3⟩
 ·exact .inl h
 ·exact .inr ⟨b1,cap,L,h1,by rw[zd (Ne.symm (hb.ne_obj h2))];exact h2,h3⟩
end Go.V
namespace Go.V
theorem zm8{P:Program}{c:Cfg}{e:TypeId}{ie:TI}(hie:c.I e=some ie)(hsz:ie.size=1)(hby:ie.bytes=8){st:Store}{v:AV}{ns:List Int}(hv:Ints st v ns)(x:Int)(hlen:ns.length<=1000000000000){K:AV->Store->Prop}
  (h:∀b cap L,(Fresh st b\/∃c0,v=.s (.slice (some ⟨b,0,none⟩) ns.length c0))->(ns++[x]).length<=cap->cap<=(ns++[x]).length+L.length->cap<=9223372036854775807->
   K (.s (.slice (some ⟨b,0,none⟩) (ns++[x]).length cap)) (st.setObj b (.cells ((ns++[x]).map aI++L)))):appendK P c st e (.av v) (.av (.lst 1 [[aI x]] none)) K:=by
 have hrows:xc ie.size (.av (.lst 1 [[aI x]] none))=some [[aI x]]:=by simp[xc,hsz]
 refine⟨.inr ⟨v,_,rfl,rfl,?_⟩⟩
 have hl:(ns++[x]).length=ns.length+1:=by simp
 rcases hv with⟨rfl,rfl⟩|⟨b,cap,L,rfl,ho,h1,h2,h3⟩
 ·refine zuo hie hrows ⟨by rw[hby];simp,by simp⟩ (by simp) (fun b' cap' hb hc hc2=>?_)
  exact h b' cap' _ (.inl hb) (by simpa using hc) (by simp[hsz];omega) hc2
 ·refine zun hie (cap:=cap) ho (by rw[hsz];simp;omega) h1 hrows ⟨by rw[hby];simp;omega,by simp;omega⟩ (fun hc=>?_) (fun hc b' cap' hb hc1 hc2=>?_)
  ·have hc:ns.length+1<=cap:=hc
   have e1:zo (ns.map aI++L) (ns.length*ie.size) ([[aI x]]:List (List AV)).flatten=(ns++[x]).map aI++L.drop 1:=by
    rw[hsz,Nat.mul_one,wz (by simp)]
    simp
   have e0:ns.map (fun n=>AV.s (.int .i64 n))++L=ns.map aI++L:=rfl
   have:=h b cap (L.drop 1) (.inr ⟨cap,rfl⟩) (by omega) (by simp;omega) h3
   rw[hl]at this
   rw[<-e1]at this
   exact this
  ·have hc1:ns.length+1<=cap':=hc1
   have e1:(ns.map aI++L).take (ns.length*ie.size)++([[aI x]]:List (List AV)).flatten++List.replicate ((cap'-(ns.length+1))*ie.size) .any=(ns++[x]).map aI++List.replicate (cap'-(ns.length+1)) .any:=by
    rw[hsz,Nat.mul_one,Nat.mul_one,List.take_append_of_le_length (by simp),List.take_of_length_le (by simp)]
    simp
   have:=h b' cap' (List.replicate (cap'-(ns.length+1)) .any) (.inl hb) (by omega) (by simp;omega) hc2
   rw[hl,<-e1]at this
   exact this
structure NearAt(N:Store)(b3 b4 b5 b6 p:Nat)(q:Vc)(r:Int)(v:AV)(acc:List Int):Prop where
 h3:N.obj b3=some (.cells [.s (.pointer (some ⟨p,0,none⟩))])
 h4:N.obj b4=some (.cells (vecC q))
 h5:N.obj b5=some (.cells [int r])
 h6:N.obj b6=some (.cells [v])
 hv:Ints N v acc
 n36:b3≠b6
 n46:b4≠b6
 n56:b5≠b6
 nv:∀b n cap,v=.s (.slice (some ⟨b,0,none⟩) n cap)->b≠b3/\b≠b4/\b≠b5/\b≠b6
theorem NearAt.app{N:Store}{b3 b4 b5 b6 p:Nat}{q:Vc}{r:Int}{v:AV}{acc:List Int}(h:NearAt N b3 b4 b5 b6 p q r v acc){b cap:Nat}{L:List AV}{x:Int}
  (hb:Fresh N b\/∃c0,v=.s (.slice (some ⟨b,0,none⟩) acc.length c0)) (h1:(acc++[x]).length<=cap) (h2:cap<=(acc++[x]).length+L.length) (h3:cap<=9223372036854775807):
  NearAt ((N.setObj b (.cells ((acc++[x]).map aI++L))).setObj b6 (.cells [.s (.slice (some ⟨b,0,none⟩) (acc++[x]).length cap)])) b3 b4 b5 b6 p q r (.s (.slice (some ⟨b,0,none⟩) (acc++[x]).length cap)) (acc++[x]):=by
 have hne:b≠b3/\b≠b4/\b≠b5/\b≠b6:=by
  rcases hb with hb|⟨c0,hb⟩
  ·exact⟨hb.ne_obj h.h3,hb.ne_obj h.h4,hb.ne_obj h.h5,hb.ne_obj h.h6⟩
  ·exact h.nv b _ _ hb
 obtain⟨n3,n4,n5,n6⟩:=hne
 refine⟨?_,?_,?_,zb _ _ _,.inr ⟨b,cap,L,rfl,?_,h1,h2,h3⟩,h.n36,h.n46,h.n56,fun b' n c e=>?_⟩
 ·rw[zd h.n36,zd (Ne.symm n3)];exact h.h3
 ·rw[zd h.n46,zd (Ne.symm n4)];exact h.h4
 ·rw[zd h.n56,zd (Ne.symm n5)];exact h.h5
 ·rw[zd n6,zb];rfl
 ·simp at e
  obtain⟨rfl,_⟩:=e
  exact⟨n3,n4,n5,n6⟩
theorem Ints.un{a g:Store}{v:AV}{ns:List Int}(h:Ints g v ns):Ints (a.un g) v ns:=by
 rcases h with h|⟨b1,cap,L,h1,h2,h3⟩
 ·exact .inl h
 ·exact .inr ⟨b1,cap,L,h1,un_r h2,h3⟩
end Go.V
namespace Go.V
section
variable {P:Program} {c:Cfg} {w:World} {st:Store} {Oth M:Nat->Nat->Prop}
structure Stamps(es:List (AV×AV))(bs:List Nat)(clk:Nat):Prop where
  len:es.length=bs.length
  lt:∀t∈bs,t<clk
  inc:bs.Pairwise (·<·)
theorem zsr{o:Oper}{args:List AV}{m clk:Nat}{es:List (AV×AV)}{bs:List Nat}(hm:st.obj m=some (.map es bs clk)){R:AV->Store->Prop}(h:Stamps es bs clk->AEff P c o args st R):AEff P c o args st R:=by
  refine⟨fun Oth M w ρ hI sto hr=>?_⟩
  obtain⟨⟨ms,g1,g2,g3,g4,g5,g6⟩,hM⟩:=sto.obj m _ hm
  exact(h ⟨by rw[g4];simpa using g2,g5,g6⟩).out Oth M w ρ hI sto hr
theorem ybr{t:Nat}{me:MapEntry}:∀{L:List MapEntry} {i:Nat},(L.map (·.born)).Pairwise (·<·)->L[i]?=some me->me.born=t->L.find? (fun e=>e.born==t)=some me:=by
  intro L
  induction L with
  |nil=>intro i _ h;simp at h
  | cons a L ih=>
    intro i hinc hti hbt
    rw[List.map_cons,List.pairwise_cons]at hinc
    cases i with
    | zero=>
      simp at hti
      subst hti
      rw[List.find?_cons_of_pos (by simp[hbt])]
    | succ i=>
      have hti:L[i]?=some me:=by simpa using hti
      have h1:=hinc.1 me.born (List.mem_map_of_mem (List.mem_of_getElem? hti))
      rw[List.find?_cons_of_neg (by simp;omega)]
      exact ih hinc.2 hti hbt
theorem zxs{o:Oper}{x:Operand}(ho:o.op=.entry x){b m clk since:Nat}{es:List (AV×AV)}{bs seen:List Nat}{i t:Nat}{e:AV×AV}(hb:st.obj b=some (.iter m since (seen++[t]) clk))(hm:st.obj m=some (.map es bs clk))
    (he:es[i]?=some e) (hbi:bs[i]?=some t) {R:AV->Store->Prop} (h:R (.tup [e.1,e.2]) st):AEff P c o [.s (.pointer (some ⟨b,0,none⟩))] st R:=by
  refine⟨fun Oth M w ρ hI sto hr=>?_⟩
  rw[ho]at hr
  have hr:Reads w (fun b o=>M b o\/Oth b o) [.s (.pointer (some ⟨b,0,none⟩))] [ρ x]:=by simpa [Op.operands]using hr
  obtain⟨u,hx0,hx⟩:=zoe hr
  simp only[List.cons.injEq,and_true]at hx0
  rw[<-hx0]at hx
  have hx:=VRel.eq_s hx
  obtain⟨⟨ms,g1,g2,g3,g4,g5,g6⟩,hM⟩:=sto.obj m _ hm
  obtain⟨hit,hMb⟩:=sto.obj b _ hb
  have hit:w.heap[b]?=some (.mapIter (some m) since (seen++[t]).toArray clk):=hit
  have hgo:(getObj b).run P w=.ok (.mapIter (some m) since (seen++[t]).toArray clk) w:=by simp[getObj,Sem.run,hit]
  have hlt:i<ms.size:=by rw[<-g2];exact(List.getElem?_eq_some_iff.1 he).1
  have hmi:ms[i]?=some ms[i]:=Array.getElem?_eq_getElem hlt
  have hbt:ms[i].born=t:=by
    rw[g4,List.getElem?_map,Array.getElem?_toList,hmi]at hbi
    simpa using hbi
  have hfind:ms.find? (fun e=>e.born==t)=some ms[i]:=by
    rw[<-Array.find?_toList]
    exact ybr (by rw[<-g4];exact g6) (by rw[Array.getElem?_toList];exact hmi) hbt
  have hback:(seen++[t]).toArray.back?=some t:=by simp
  have hrun:(execOp ρ o).run P w=.ok (.value (.tuple #[ms[i].key,ms[i].val])) w:=by
    simp only[execOp,ho,Instr.entry,hx,Sem.run_bind,hgo,Result.andThen_ok,hback,qh g1,bne_self_eq_false,Bool.false_eq_true,if_false,hfind,Sem.run_pure]
  rw[hrun]
  have hrel:=g3 i e ms[i] he hmi
  exact⟨_,st,M,h,z6 (Reads.cons hrel.1 (Reads.cons hrel.2 Reads.nil)),sto,Chg.refl _ _⟩
end
end Go.V
namespace Go.V
theorem zt7{x r:Int}(hx:0<=x)(hr:0<r)(h:x*x<r*r):x<r:=by
 by_cases h1:x<r
 ·exact h1
 ·have h2:r<=x:=by omega
  have h3:r*r<=x*x:=Int.mul_le_mul h2 h2 (by omega) hx
  omega
theorem yb4{a b r:Int}(ha:yq a)(hb:yq b)(hr:0<r)(hr2:r<=9223372036854775807)(h:asz (fsub a b)<r):fsub a r<=nrm b/\nrm b<=fadd a r:=by
 have h1:=za2 ha
 have h2:=za2 hb
 have h3:=xz (n:=-nrm b) (by omega)
 have h4:=xz (n:=r) (by omega)
 have h5:=xz (n:=-r) (by omega)
 have h6:=zk7 a b
 have h7:=xz (n:=fsub a b) (by omega)
 unfold asz at h
 rw[h7]at h
 unfold fsub fadd at*
 rw[h3]at h
 rw[h4,h5]
 unfold vr at*
 generalize nrm a=x at*
 generalize nrm b=y at*
 refine⟨?_,?_⟩<;>(repeat' split)<;>(repeat' split at h)<;>omega
theorem yad{q p:Vc}{r:Int}(hq:q.ok)(hp:p.ok)(hr:0<r)(hr2:r<=9223372036854775807)(h:near q p r=true):
  ((zt (fsub q.1 r,fsub q.2 r)).1<=(zt p).1/\(zt p).1<=(zt (fadd q.1 r,fadd q.2 r)).1)/\((zt (fsub q.1 r,fsub q.2 r)).2<=(zt p).2/\(zt p).2<=(zt (fadd q.1 r,fadd q.2 r)).2):=by
 unfold near at h
 have h:=(of_decide_eq_true h).2
 have e1:=zqe (zcv q.1 p.1)
 have e2:=zqe (zcv q.2 p.2)
 have m1:0<=asz (fsub q.1 p.1)*asz (fsub q.1 p.1):=Int.mul_nonneg e1.1 e1.1
 have m2:0<=asz (fsub q.2 p.2)*asz (fsub q.2 p.2):=Int.mul_nonneg e2.1 e2.1
 have h':asz (fsub q.1 p.1)*asz (fsub q.1 p.1)+asz (fsub q.2 p.2)*asz (fsub q.2 p.2)<r*r:=h
 have d1:=yb4 hq.1 hp.1 hr hr2 (zt7 e1.1 hr (by omega))
 have d2:=yb4 hq.2 hp.2 hr hr2 (zt7 e2.1 hr (by omega))
 have n1:=xz (zk7 q.1 r).1
 have n2:=xz (zk7 q.2 r).1
 have n3:=xz (zi5 q.1 r).1
 have n4:=xz (zi5 q.2 r).1
 unfold zt
 simp only[n1,n2,n3,n4]
 omega
theorem yr7{q:Vc}{r:Int}(hq:q.ok)(hr:0<r)(hr2:r<=9223372036854775807):
  (zt (fsub q.1 r,fsub q.2 r)).1<=(zt (fadd q.1 r,fadd q.2 r)).1/\(zt (fsub q.1 r,fsub q.2 r)).2<=(zt (fadd q.1 r,fadd q.2 r)).2:=by
 have key:∀a:Int,yq a->fsub a r<=fadd a r:=by
  intro a ha
  have h1:=za2 ha
  have h4:=xz (n:=r) (by omega)
  have h5:=xz (n:=-r) (by omega)
  unfold fsub fadd
  rw[h4,h5]
  unfold vr
  generalize nrm a=x at*
  (repeat' split)<;>omega
 have k1:=key q.1 hq.1
 have k2:=key q.2 hq.2
 have n1:=xz (zk7 q.1 r).1
 have n2:=xz (zk7 q.2 r).1
 have n3:=xz (zi5 q.1 r).1
 have n4:=xz (zi5 q.2 r).1
 unfold zt
 simp only[n1,n2,n3,n4]
 omega
theorem ycd{p:Vc}(h:p.ok):(-70368744177664<=(zt p).1/\(zt p).1<=70368744177664)/\(-70368744177664<=(zt p).2/\(zt p).2<=70368744177664):=by
 have h1:=za2 h.1
 have h2:=za2 h.2
 unfold zt
 simp only
 omega
def NearIn(l:List Ent)(q:Vc)(r:Int)(D:Ent->Prop)(acc:List Int):Prop:=acc.Nodup/\∀id,id∈acc↔∃e∈l,e.1=id/\near q e.2 r=true/\D e
theorem NearIn.congr{l:List Ent}{q:Vc}{r:Int}{D D':Ent->Prop}{acc:List Int}(h:NearIn l q r D acc)(hD:∀e∈l,near q e.2 r=true->(D e↔D' e)):NearIn l q r D' acc:=by
 refine⟨h.1,fun id=>?_⟩
 rw[h.2 id]
 constructor
 ·rintro⟨e,h1,h2,h3,h4⟩;exact⟨e,h1,h2,h3,(hD e h1 h3).1 h4⟩
 ·rintro⟨e,h1,h2,h3,h4⟩;exact⟨e,h1,h2,h3,(hD e h1 h3).2 h4⟩
theorem NearIn.len{l:List Ent}{q:Vc}{r:Int}{D:Ent->Prop}{acc:List Int}(h:NearIn l q r D acc):acc.length<=l.length:=by
 have:=List.Nodup.length_le_of_subset (l₂:=l.map (·.1)) h.1 (fun id hid=>by
  obtain⟨e,h1,h2,_⟩:=(h.2 id).1 hid
  exact List.mem_map.2 ⟨e,h1,h2⟩)
 simpa using this
theorem NearIn.step{l:List Ent}(hn:(l.map (·.1)).Nodup){q:Vc}{r:Int}{D:Ent->Prop}{acc:List Int}(h:NearIn l q r D acc){e:Ent}(he:e∈l)(hD:¬D e):NearIn l q r (fun e'=>D e'\/e'=e) (if near q e.2 r then acc++[e.1]else acc):=by
 cases hnr:near q e.2 r with
 |false=>
  refine h.congr fun e' he' hn'=>⟨.inl,fun hh=>hh.elim id fun hh=>?_⟩
  rw[hh,hnr]at hn';cases hn'
 |true=>
  refine⟨?_,fun id=>?_⟩
  ·rw[if_pos rfl,List.nodup_append]
   refine⟨h.1,by simp,fun a ha b hb=>?_⟩
   simp at hb
   subst hb
   intro hab
   subst hab
   obtain⟨e',h1,h2,_,h4⟩:=(h.2 _).1 ha
   rw[ya6 hn he h1 h2]at h4
   exact hD h4
  ·rw[if_pos rfl,List.mem_append,h.2 id]
   constructor
   ·rintro(⟨e',h1,h2,h3,h4⟩|h1)
    ·exact⟨e',h1,h2,h3,.inl h4⟩
    ·simp at h1;exact⟨e,he,h1.symm,hnr,.inr rfl⟩
   ·rintro⟨e',h1,h2,h3,h4|h4⟩
    ·exact .inl ⟨e',h1,h2,h3,h4⟩
    ·subst h4;exact .inr (by simp[h2])
theorem zwo{l:List Ent}{G:List Grp}(h:Inv l G):G.length<=l.length:=by
 have h1:(G.map fun g=>g.ns.headD 0).Nodup:=by
  unfold List.Nodup
  rw[List.pairwise_map]
  have n2:=h.n2
  unfold List.Nodup at n2
  rw[List.pairwise_map]at n2
  have key:∀g∈G,g.ns.headD 0∈g.ns:=fun g hg=>by
   have:=(h.s g hg).2
   cases hns:g.ns with
   |nil=>exact absurd hns this
   |cons a t=>simp
  rw[List.pairwise_iff_getElem]at n2⊢
  intro i j hi hj hij he
  obtain⟨e1,q1,q2,q3⟩:=(h.m1 G[i] (List.getElem_mem hi) _).1 (key _ (List.getElem_mem hi))
  obtain⟨e2,q4,q5,q6⟩:=(h.m1 G[j] (List.getElem_mem hj) _).1 (key _ (List.getElem_mem hj))
  refine n2 i j hi hj hij ?_
  rw[<-q3,<-q6,ya6 h.n1 q4 q1 (by rw[q2,q5,he])]
 have:=List.Nodup.length_le_of_subset (l₂:=l.map (·.1)) h1 (fun id hid=>by
  obtain⟨g,hg,rfl⟩:=List.mem_map.1 hid
  have:=(h.s g hg).2
  cases hns:g.ns with
  |nil=>exact absurd hns this
  |cons a t=>
   obtain⟨e,q1,q2,_⟩:=(h.m1 g hg a).1 (by rw[hns];simp)
   exact List.mem_map.2 ⟨e,q1,by simpa using q2⟩)
 simpa using this
theorem zou{xs:List Int}(h:xs.Nodup):(xs.mergeSort fun x y=>decide (x<=y)).Pairwise (·<·)/\∀n,n∈(xs.mergeSort fun x y=>decide (x<=y))↔n∈xs:=by
 have h1:=List.pairwise_mergeSort (le:=fun x y:Int=>decide (x<=y)) (fun a b c h1 h2=>by simp at*;omega) (fun a b=>by simp;omega) xs
 have h2:(xs.mergeSort fun x y=>decide (x<=y)).Nodup:=(List.mergeSort_perm xs _).nodup_iff.2 h
 refine⟨?_,fun n=>List.mem_mergeSort⟩
 have h3:=h1.and h2
 exact h3.imp fun⟨h4,h5⟩=>by simp at h4;omega
def zqj(l:List Ent)(q:Vc)(r:Int)(ns:List Int):Prop:=ns.Pairwise (·<·)/\∀id,id∈ns↔∃e∈l,e.1=id/\near q e.2 r=true
theorem qb{a g:Store}{b:Nat}{x:AObj}(h:¬g.has b):(a.un g).setObj b x=(a.setObj b x).un g:=by
 obtain⟨h1,h2⟩:=vg h
 unfold Store.un Store.setObj
 congr
 funext i
 by_cases hi:i=b
 ·subst hi;simp[h1]
 ·simp[nbeq hi]
theorem qq{a g:Store}{b:Nat}{x:AObj}(h:Disj a g)(hb:¬g.has b):Disj (a.setObj b x) g:=by
 intro i hi hg
 rcases has_setObj_iff.1 hi with rfl|hi
 ·exact hb hg
 ·exact h i hi hg
theorem zw8{a g:Store}{b:Nat}{x y:AObj}(h:Disj (a.setObj b x) g):Disj (a.setObj b y) g/\¬g.has b:=by
 have h1:¬g.has b:=h b (has_setObj_iff.2 (.inl rfl))
 refine⟨fun i hi hg=>?_,h1⟩
 rcases has_setObj_iff.1 hi with rfl|hi
 ·exact h1 hg
 ·exact h i (has_setObj_iff.2 (.inr hi)) hg
theorem zpo{l:List Ent}(hn:(l.map (·.1)).Nodup){e:Ent}(he:e∈l):l.find? (atId e.1)=some e:=by
 cases hf:l.find? (atId e.1)with
 |none=>
  have:=List.find?_eq_none.1 hf e he
  simp[atId]at this
 |some e'=>
  obtain⟨h1,h2⟩:=ze3 hf
  have:e'.1=e.1:=(by simpa [atId]using h2:e.1=e'.1).symm
  rw[ya6 hn he h1 this]
end Go.V
namespace Go.V
def idxI:Option Nat->Int|some i=>(i:Int)|none=>-1
theorem zs4(a b c:Store):(a.un b).un c=a.un (b.un c):=by
 unfold Store.un
 congr<;>funext i
 ·show(match c.obj i with|some x=>some x|none=>match b.obj i with|some x=>some x|none=>a.obj i)=(match(match c.obj i with|some x=>some x|none=>b.obj i)with|some x=>some x|none=>a.obj i)
  cases c.obj i<;>rfl
 ·show(match c.tok i with|some x=>some x|none=>match b.tok i with|some x=>some x|none=>a.tok i)=(match(match c.tok i with|some x=>some x|none=>b.tok i)with|some x=>some x|none=>a.tok i)
  cases c.tok i<;>rfl
theorem un_comm{a b:Store}(h:Disj a b):a.un b=b.un a:=by
 unfold Store.un
 congr<;>funext i
 ·cases h1:b.obj i with
  |none=>cases a.obj i<;>rfl
  |some x=>
   have:a.obj i=none:=by
    cases h2:a.obj i with
    |none=>rfl
    |some y=>exact absurd (yw h1) (h i (yw h2))
   rw[this]
 ·cases h1:b.tok i with
  |none=>cases a.tok i<;>rfl
  |some x=>
   have:a.tok i=none:=by
    cases h2:a.tok i with
    |none=>rfl
    |some y=>exact absurd (zbt h1) (h i (zbt h2))
   rw[this]
theorem xt(a:Store):Store.empty.un a=a:=by
 unfold Store.un Store.empty
 congr<;>funext i
 ·cases a.obj i<;>rfl
 ·cases a.tok i<;>rfl
theorem disj_un{a b c:Store}:Disj (a.un b) c↔Disj a c/\Disj b c:=
 ⟨fun h=>⟨fun i h1=>h i (un_has.2 (.inl h1)),fun i h1=>h i (un_has.2 (.inr h1))⟩,fun⟨h1,h2⟩ i h=>(un_has.1 h).elim (h1 i) (h2 i)⟩
theorem yoq{a g:Store}:(a.un g).Le g:=⟨fun b y h=>⟨y,un_r h,AObj.le_refl y⟩,fun b x h=>zns h⟩
theorem AWp.leS{P:Program}{c:Cfg}{code:Code}{Q:Exit->Fr->Store->Prop}{A:Fr}{st st':Store}(hle:st.Le st')(h:AWp P c code Q A st'):AWp P c code Q A st:=by
 refine⟨fun Oth M a w ⟨β,s⟩=>h.out Oth M a w ⟨β,{tsz:=s.tsz,dfr:=s.dfr,tm:=s.tm,bx:=s.bx,inj:=s.inj,sep:=fun k b hk hb=>s.sep k b hk ?_,sto:=s.sto.weakenLe hle}⟩⟩
 rcases hb with hb|hb
 ·cases hx:st'.obj b with
  |none=>exact absurd hx hb
  |some y=>
   obtain⟨x,h1,_⟩:=hle.obj b y hx
   exact .inl (by rw[h1];simp)
 ·cases hx:st'.tok b with
  |none=>exact absurd hx hb
  |some y=>exact .inr (by rw[hle.tok b y hx];simp)
theorem z8{st:Store}{x:AV}{Oth M:Nat->Nat->Prop}{w:World}{v:Value}(h:VRel w (fun b o=>M b o\/Oth b o) x v):VRel w (fun b o=>(M b o\/Oth b o)/\st.obj b=none) x v:=
 h.mono fun _ _ h=>h.1
end Go.V
namespace Go.V
structure Bld where
 id:Int
 owner:Int
 x:Int
 y:Int
 w:Int
 h:Int
 deriving DecidableEq
structure Unt where
 id:Int
 owner:Int
 kind:Int
 pos:Vc
 goal:Int
 next:Int
 stuck:Int
 inn:Int
 state:Int
 deriving DecidableEq
structure Wld where
 tick:Int
 players:Int
 next:Int
 G:Gnd
 B:List Bld
 U:List Unt
 deriving DecidableEq
def bldC(b:Bld):List AV:=[int b.id,int b.owner,int b.x,int b.y,int b.w,int b.h]
def untC(u:Unt):List AV:=[int u.id,int u.owner,int u.kind,int u.pos.1,int u.pos.2,int u.goal,int u.next,int u.stuck,int u.inn,int u.state]
def wldC(w:Wld):List AV:=[int w.tick,int w.players,int w.next,int w.G.W,int w.G.H,byts w.G.T,lst 6 bldC w.B,lst 10 untC w.U]
def Wld.fits(w:Wld):Prop:=w.G.fits/\w.B.length<=1000000000000/\w.U.length<=1000000000000
def kRad(k:Int):Int:=if k=0 then 24576 else if k=2 then 81920 else 32768
def yp(k:Int):Int:=if k=0 then 16384 else if k=1 then 24576 else if k=2 then 8192 else 16384
def kCls(k:Int):Int:=if k=0 then 0 else if k=1 then 1 else if k=2 then 0 else 2
def yy(k:Int):Int:=if k=2 then 1 else 0
def zbj(k:Int):Int:=if k=0 then 0 else if k=1 then 0 else if k=2 then 0 else 4
def zd0(k:Int):List AV:=[int (kRad k),int (yp k),int (kCls k),int (yy k),int (zbj k)]
def zca(k:Int):Prop:=0<=k/\k<=3
def zb8(c:Int)(t:Nat):Int:=((if c=0 then [2,1,3,5,0,0]else if c=1 then [2,1,6,0,0,0]else [2,1,0,3,2,0]):List Int).getD t 0
def bldP(b:Bld):Prop:=(1<=b.id/\b.id<=1099511627776)/\(1<=b.owner/\b.owner<=8)/\(1<=b.w/\b.w<=4)/\(1<=b.h/\b.h<=4)
def onP(g:Gnd)(b:Bld):Prop:=(0<=b.x/\b.x+b.w<=g.W)/\(0<=b.y/\b.y+b.h<=g.H)
def hasP(g:Gnd)(b:Bld)(t:Nat):Prop:=(b.x<=(t:Int)%g.W/\(t:Int)%g.W<b.x+b.w)/\(b.y<=(t:Int)/g.W/\(t:Int)/g.W<b.y+b.h)
instance(g:Gnd)(b:Bld)(t:Nat):Decidable (hasP g b t):=inferInstanceAs (Decidable (_/\_))
def zjz(g:Gnd)(b:Bld):Prop:=∀t,t<g.T.length->hasP g b t->(g.T.getD t 0).toNat<=1
def zg1(a b:Bld):Prop:=(a.x<b.x+b.w/\b.x<a.x+a.w)/\(a.y<b.y+b.h/\b.y<a.y+a.h)
def zoc(l:List Bld):Prop:=∀j,(h:j<l.length)->0<j->(l[j-1]'(by omega)).id<l[j].id
def yh(l:List Unt):Prop:=∀j,(h:j<l.length)->0<j->(l[j-1]'(by omega)).id<l[j].id
def zup(l:List Bld):Prop:=∀j,(h:j<l.length)->∀i,(hi:i<j)->¬zg1 l[j] (l[i]'(by omega))
def zqc(g:Gnd)(l:List Bld):Prop:=l.length<=256/\zoc l/\(∀b∈l,bldP b/\onP g b/\zjz g b)/\zup l
def covB(g:Gnd)(l:List Bld)(t:Nat):Bool:=l.any fun b=>decide (hasP g b t)
def yl(g:Gnd)(l:List Bld)(c:Int)(t:Nat):Bool:= !covB g l t&&decide (0<zb8 c (g.T.getD t 0).toNat)
def tx(g:Gnd)(t:Nat):Int:=(t:Int)%g.W*65536
def ty(g:Gnd)(t:Nat):Int:=(t:Int)/g.W*65536
def off(x lo:Int):Int:=if x<lo then lo-x else if x>lo+65536 then x-(lo+65536)else 0
def hitP(g:Gnd)(t:Nat)(p:Vc)(r:Int):Prop:=off p.1 (tx g t)*off p.1 (tx g t)+off p.2 (ty g t)*off p.2 (ty g t)<r*r
instance(g:Gnd)(t:Nat)(p:Vc)(r:Int):Decidable (hitP g t p r):=inferInstanceAs (Decidable (_<_))
def zg5(g:Gnd)(l:List Bld)(c:Int)(p:Vc)(r:Int):Prop:=
 ((r<=p.1/\p.1+r<=g.W*65536)/\(r<=p.2/\p.2+r<=g.H*65536))/\∀t,t<g.T.length->yl g l c t=false->¬hitP g t p r
def zam(p:Vc)(r:Int)(q:Vc)(s:Int):Bool:= !near p q (r+s)
def yv(w:Wld)(id k:Int)(p:Vc):Prop:=
 zg5 w.G w.B (kCls k) p (kRad k)/\∀u∈w.U,u.inn=0->u.id≠id->zam p (kRad k) u.pos (kRad u.kind)=true
def zbm(g:Gnd)(t:Int):Prop:=t=-1\/(0<=t/\t<g.W*g.H)
def untP(w:Wld)(u:Unt):Prop:=
 ((1<=u.id/\u.id<w.next)/\(1<=u.owner/\u.owner<=w.players)/\zca u.kind)/\(zbm w.G u.goal/\zbm w.G u.next/\(0<=u.stuck/\u.stuck<8))∧
 ((0<=u.state/\u.state<=4)/\(u.state=1↔u.goal≠-1))/\(u.goal=-1->u.next=-1/\u.stuck=0)
def zo9(w:Wld):Prop:=
 ((0<=w.tick/\w.tick<=1099511627776)/\(1<=w.players/\w.players<=8)/\(1<=w.next/\w.next<=1099511627776))∧
 (gndP w.G/\zqc w.G w.B/\w.U.length<=4096)/\∀b∈w.B,b.owner<=w.players/\b.id<w.next
def zdv(w:Wld):Prop:=yh w.U/\∀u∈w.U,untP w u/\∀b∈w.B,b.id≠u.id
def inOf(l:List Unt)(id:Int):List Int:=(l.filter fun u=>u.inn==id).map (·.id)
def zdl(w:Wld)(u:Unt):Prop:=
 ∃x∈w.U,x.id=u.inn/\(x.inn=0/\x.owner=u.owner)/\((inOf w.U u.inn).length:Int)<=zbj x.kind/\zbj u.kind=0/\u.pos=(0,0)/\u.goal=-1/\u.state=0
def mayP(w:Wld):Prop:=(zo9 w/\zdv w)/\(∀u∈w.U,u.inn=0->yv w u.id u.kind u.pos)/\∀u∈w.U,u.inn≠0->zdl w u
theorem beqD(a b:Int):(a==b)=decide (a=b):=by rw[Bool.eq_iff_iff];simp
theorem zr{g:Gnd}(h:gndP g):1<=g.W*g.H/\g.W*g.H<=16384/\(g.T.length:Int)=g.W*g.H:=by
 obtain⟨⟨h1,h2⟩,⟨h3,h4⟩,h5,_⟩:=h
 have:1*1<=g.W*g.H:=Int.mul_le_mul h1 h3 (by decide) (by omega)
 have:g.W*g.H<=128*128:=Int.mul_le_mul h2 h4 (by omega) (by decide)
 omega
def zpd(w:Wld):Prop:=(w.G.T.length>700\/w.B.length>30)\/w.U.length>30
end Go.V
namespace Go.V
theorem zj6{a b:Vc}(h1:-2305843009213693952<=a.1/\a.1<=2305843009213693952)(h2:-2305843009213693952<=a.2/\a.2<=2305843009213693952)(h3:-2305843009213693952<=b.1/\b.1<=2305843009213693952)(h4:-2305843009213693952<=b.2/\b.2<=2305843009213693952):
  vsub a b=(a.1-b.1,a.2-b.2):=by
 have n:∀x:Int,-4611686018427387904<=x/\x<=4611686018427387904->nrm x=x:=fun x hx=>by unfold nrm;rw[if_neg (by omega)]
 have c:∀x:Int,-4611686018427387904<=x/\x<=4611686018427387904->vr x=x:=fun x hx=>by unfold vr;rw[if_neg (by omega),if_neg (by omega)]
 unfold vsub fsub fadd
 rw[n a.1 (by omega),n b.1 (by omega),n a.2 (by omega),n b.2 (by omega),n (-b.1) (by omega),n (-b.2) (by omega),c _ (by omega),c _ (by omega)]
 rfl
theorem zum{x:Int}(h:-4611686018427387904<=x/\x<=4611686018427387904):asz x*asz x=x*x:=by
 have n:nrm x=x:=by unfold nrm;rw[if_neg (by omega)]
 unfold asz
 rw[n]
 split
 ·rw[Int.neg_mul_neg]
 ·rfl
theorem zfu{a b:Vc}{r:Int}(h1:-2305843009213693952<=a.1/\a.1<=2305843009213693952)(h2:-2305843009213693952<=a.2/\a.2<=2305843009213693952)(h3:-2305843009213693952<=b.1/\b.1<=2305843009213693952)(h4:-2305843009213693952<=b.2/\b.2<=2305843009213693952)(hr:0<r):
  near a b r=decide ((a.1-b.1)*(a.1-b.1)+(a.2-b.2)*(a.2-b.2)<r*r):=by
 unfold near sqr
 rw[zj6 h1 h2 h3 h4,zum (by dsimp only;omega),zum (by dsimp only;omega)]
 rw[Bool.eq_iff_iff,decide_eq_true_iff,decide_eq_true_iff]
 exact⟨fun h=>h.2,fun h=>⟨hr,h⟩⟩
theorem zcf{g:Gnd}(hg:gndP g){t:Nat}(ht:(t:Int)<g.W*g.H):(0<=(t:Int)%g.W/\(t:Int)%g.W<g.W)/\(0<=(t:Int)/g.W/\(t:Int)/g.W<g.H):=by
 obtain⟨⟨h1,h2⟩,⟨h3,h4⟩,_⟩:=hg
 have h5:=Int.emod_nonneg (t:Int) (show g.W≠0 by omega)
 have h6:=Int.emod_lt_of_pos (t:Int) (show 0<g.W by omega)
 have h7:0<=(t:Int)/g.W:=Int.ediv_nonneg (by omega) (by omega)
 have h8:(t:Int)/g.W<g.H:=Int.ediv_lt_of_lt_mul (by omega) (by rw[Int.mul_comm];exact ht)
 exact⟨⟨h5,h6⟩,h7,h8⟩
theorem tquo{t:Nat}{w:Int}(hw:1<=w):(t:Int).tdiv w=(t:Int)/w:=Int.tdiv_eq_ediv_of_nonneg (by omega)
theorem trem{t:Nat}{w:Int}(hw:1<=w):(t:Int).tmod w=(t:Int)%w:=Int.tmod_eq_emod_of_nonneg (by omega)
theorem txty{g:Gnd}(hg:gndP g){t:Nat}(ht:(t:Int)<g.W*g.H):(0<=tx g t/\tx g t<=8323072)/\(0<=ty g t/\ty g t<=8323072):=by
 have:=zcf hg ht
 obtain⟨⟨h1,h2⟩,⟨h3,h4⟩,_⟩:=hg
 unfold tx ty
 omega
def zds(x lo:Int):Int:=min2 (max2 x lo) (lo+65536)
theorem min2_eq(a b:Int):min2 a b=min a b:=by unfold min2;by_cases h:b<a<;>simp[h]<;>omega
theorem zfy(a b:Int):max2 a b=max a b:=by unfold max2;by_cases h:b>a<;>simp[h]<;>omega
theorem zp5(x lo:Int):zds x lo=min (max x lo) (lo+65536):=by unfold zds;rw[min2_eq,zfy]
theorem zle(x lo:Int):(x-zds x lo)*(x-zds x lo)=off x lo*off x lo:=by
 rw[zp5]
 unfold off
 by_cases h1:x<lo
 ·rw[if_pos h1,show min (max x lo) (lo+65536)=lo by omega]
  rw[<-Int.neg_mul_neg (x-lo),Int.neg_sub]
 ·rw[if_neg h1]
  by_cases h2:x>lo+65536
  ·rw[if_pos h2,show min (max x lo) (lo+65536)=lo+65536 by omega]
  ·rw[if_neg h2,show min (max x lo) (lo+65536)=x by omega]
   simp
theorem zhg{x lo:Int}(h:0<=lo/\lo<=8323072):0<=zds x lo/\zds x lo<=8388608:=by rw[zp5];omega
theorem ytw{x lo:Int}(h:0<=lo/\lo<=8323072)(hx:-1099511627776<=x/\x<=1099511627776):0<=off x lo/\off x lo<=1099519950848:=by
 unfold off;split
 ·omega
 ·split<;>omega
theorem ymo{g:Gnd}(hg:gndP g){t:Nat}(ht:(t:Int)<g.W*g.H){p:Vc}(hp:xx p.1 p.2){r:Int}(hr:0<r):
  near p (zds p.1 (tx g t),zds p.2 (ty g t)) r=decide (hitP g t p r):=by
 have hb:=txty hg ht
 have h1:=zhg (x:=p.1) hb.1
 have h2:=zhg (x:=p.2) hb.2
 obtain⟨h3,h4⟩:=hp
 rw[zfu (by omega) (by omega) (by dsimp only;omega) (by dsimp only;omega) hr]
 dsimp only
 rw[zle,zle]
 rfl
theorem yj8{a r:Int}(ha:0<=a)(hr:0<r)(h:a*a<r*r):a<r:=by
 apply Decidable.byContradiction
 intro hn
 have:r*r<=a*a:=Int.mul_le_mul (by omega) (by omega) (by omega) ha
 omega
theorem yal{dx dy r:Int}(h1:0<=dx)(h2:0<=dy)(hr:0<r):(dx<r/\dy<r/\dx*dx+dy*dy<r*r)↔dx*dx+dy*dy<r*r:=by
 refine⟨fun h=>h.2.2,fun h=>⟨yj8 h1 hr ?_,yj8 h2 hr ?_,h⟩⟩
 ·have:=Int.mul_nonneg h2 h2;omega
 ·have:=Int.mul_nonneg h1 h1;omega
theorem yq8{a:Int}(h:0<=a/\a<=262144):0<=a*a/\a*a<=68719476736:=
 ⟨Int.mul_nonneg h.1 h.1,by have:a*a<=262144*262144:=Int.mul_le_mul h.2 h.2 h.1 (by decide);omega⟩
end Go.V
namespace Go.V
def Store.delObj(st:Store)(b:Nat):Store:={st with obj:=fun i=>bif Nat.beq i b then none else st.obj i}
theorem qt{st:Store}{b b':Nat}{x:AObj}(h:(st.delObj b).obj b'=some x):b'≠b/\st.obj b'=some x:=by
  have h:(bif Nat.beq b' b then none else st.obj b')=some x:=h
  cases hb:Nat.beq b' b with
  |true=>rw[hb]at h;cases h
  | false=>
    rw[hb]at h
    exact⟨fun e=>(by rw[e,Nat.beq_refl]at hb;cases hb),h⟩
theorem AWp.freeze{P:Program}{c:Cfg}{code:Code}{Q:Exit->Fr->Store->Prop}{A:Fr}{st:Store}{d b n cap k:Nat}{rows:List (List AV)}{pad:List AV}
    (hA:A.t d=.av (.s (.slice (some ⟨b,0,none⟩) n cap))) (ho:st.obj b=some (.cells (rows.flatten++pad))) (ht:st.tok b=none) (hn:rows.length=n) (hcap:n<=cap)
    (hk:∀row∈rows,row.length=k) (hall:∀row∈rows,∀x∈row,∃v,x=AV.s v/\yd v=true)
    (h:AWp P c code Q (A.put d (.av (.lst k rows none))) (st.delObj b)):AWp P c code Q A st:=by
  refine⟨fun Oth M a w ⟨β,sim⟩=>?_⟩
  have hs:∀b' o,((M b' o/\b'≠b)\/Oth b' o)->(M b' o\/Oth b' o):=fun _ _ h=>h.imp (·.1) id
  have sim':SimB c.N Oth β (A.put d (.av (.lst k rows none))) (st.delObj b) (fun b' o=>M b' o/\b'≠b) a w:=by
    refine{tsz:=sim.tsz,dfr:=sim.dfr.sub fun _ _ h=>h.1,tm:=fun i=>?_,bx:=fun j l hj=>⟨(sim.bx j l hj).1.mono hs,fun o=>⟨(sim.bx j l hj).2 o,?_⟩⟩,inj:=sim.inj,sep:=fun j b' hj hb'=>?_,sto:=?_}
    · by_cases hi:i=d
      · subst hi
        have e:(A.put i (.av (.lst k rows none))).t i=.av (.lst k rows none):=by
          show(bif Nat.beq i i then _ else A.t i)=_
          rw[Nat.beq_refl];rfl
        rw[e]
        have h1:=sim.tm i
        rw[hA]at h1
        have h1:VRel w (fun b o=>M b o\/Oth b o) (.s (.slice (some ⟨b,0,none⟩) n cap)) (a.tmps.getD i undef):=h1
        generalize a.tmps.getD i undef=v at h1
        cases h1
        obtain⟨⟨cs,e0,fr,hb0,huf,hlen,hrel⟩,hM⟩:=sim.sto.obj b _ ho
        subst hn
        have at1:∀(i:Nat) (row:List AV) (j:Nat) (x:AV),rows[i]?=some row->row[j]?=some x->∃v,x=.s v/\yd v=true/\cs[i*k+j]?=some v:=by
          intro i row j x hi hj
          obtain⟨v,rfl,hv⟩:=hall row (List.mem_of_getElem? hi) x (List.mem_of_getElem? hj)
          have h5:=jv hk hi hj
          have hlt:=(List.getElem?_eq_some_iff.1 h5).1
          have h6:(rows.flatten++pad)[i*k+j]?=some (.s v):=by rw[List.getElem?_append_left hlt];exact h5
          have hlt2:i*k+j<cs.size:=by rw[<-hlen,List.length_append];omega
          have h7:=hrel _ _ cs[i*k+j] h6 (by simp[hlt2])
          have:cs[i*k+j]=v:=by generalize cs[i*k+j]=y at h7;cases h7;rfl
          exact⟨v,rfl,hv,by rw[<-this];simp[hlt2]⟩
        refine VRel.lst rows none b 0 cap k (fun p=>cs.getD p undef) hcap (fun i row hi=>hk row (List.mem_of_getElem? hi)) (fun _ h=>by cases h) (fun i row j x hi hj=>?_) (fun i row j x hi hj=>?_) (fun i row j x hi hj=>?_)
        · obtain⟨v,rfl,hv,h5⟩:=at1 i row j x hi hj
          refine⟨?_,?_⟩
          · rw[Nat.zero_add]
            simp only[World.cell?,hb0]
            rw[Array.getD_eq_getD_getElem?,h5]
            simp[h5]
          · rintro(⟨_,h⟩|h)
            · exact h rfl
            · exact sim.sto.dis _ _ h (hM _)
        · obtain⟨v,rfl,hv,h5⟩:=at1 i row j x hi hj
          rw[Array.getD_eq_getD_getElem?,h5];exact hv
        · obtain⟨v,rfl,hv,h5⟩:=at1 i row j x hi hj
          rw[Array.getD_eq_getD_getElem?,h5];exact .s _
      · have e:(A.put d (.av (.lst k rows none))).t i=A.t i:=by
          show(bif Nat.beq i d then _ else A.t i)=_
          have:Nat.beq i d=false:=by
            cases hb:Nat.beq i d with
            |false=>rfl
            |true=>exact absurd ((yx _ _).1 hb) hi
          rw[this];rfl
        rw[e]
        have h1:=sim.tm i
        generalize A.t i=x at h1
        cases x with
        |any=>trivial
        |und=>exact h1
        |av x=>exact VRel.mono hs h1
        |bx k off=>exact h1
    · exact sim.sep j b (fun e=>by rw[show A.bx j=some l from hj]at e;cases e) (.inl (by rw[ho];simp))
    · refine sim.sep j b' hj ?_
      rcases hb' with hb'|hb'
      · cases hx:(st.delObj b).obj b' with
        |none=>exact absurd hx hb'
        |some y=>exact .inl (by rw[(qt hx).2];simp)
      · exact .inr hb'
    · exact { obj:=fun b' y hy=>⟨(sim.sto.obj b' y (qt hy).2).1.mono hs,fun o=>⟨(sim.sto.obj b' y (qt hy).2).2 o,(qt hy).1⟩⟩
              tok:=fun b' top htk=>by
                obtain⟨c,e,fr,h1,h2,h3,h4⟩:=sim.sto.tok b' top htk
                exact⟨c,e,fr,h1,h2,h3,fun o ho=>⟨h4 o ho,fun e=>by subst e;rw[show st.tok b'=some top from htk]at ht;cases ht⟩⟩
              mlt:=fun b' o hm=>sim.sto.mlt b' o hm.1,olt:=sim.sto.olt,dis:=fun b' o ho hm=>sim.sto.dis b' o ho hm.1}
  refine Code.wpF_mono ?_ (h.out Oth _ a w ⟨β,sim'⟩)
  rintro e a' w' ⟨A',st',M',h1,h2,h3⟩
  exact⟨A',st',M',h1,h2,{size:=h3.size,keep:=fun b' o hb hm=>h3.keep b' o hb fun h=>hm h.1,blk:=fun b' hb hm=>h3.blk b' hb fun o h=>hm o h.1,shp:=h3.shp,sub:=fun b' o hm hb=>(h3.sub b' o hm hb).1,tape:=h3.tape,os:=h3.os,output:=h3.output}⟩
theorem AWp.loopA{P:Program}{c:Cfg}{σ:Type}(H:LoopHead σ){b:Code}{Q:Exit->Fr->Store->Prop}{A:Fr}{st:Store}(h0:H.at A st fun _=>True)
    (round:∀s st,H.inv s st->AWp P c b (yn3 H s Q) (mkFr (H.t s) (H.bx s)) st):AWp P c (.loop b) Q A st:=by
  obtain⟨s0,_,hi0,ht0,hb0⟩:=h0
  refine⟨fun Oth M a w sim=>?_⟩
  refine wpIn_loop_ghost (fun n a' w'=>∃s st' M',H.μ s=n/\H.inv s st'/\Sim c.N Oth (mkFr (H.t s) (H.bx s)) st' M' a' w'/\Chg M w M' w') (H.μ s0)
    ⟨s0,st,M,rfl,hi0,sim.fits ht0 hb0 (Store.Has.refl st),Chg.refl M w⟩ ?_
  rintro n a' w' ⟨s,st',M',rfl,hi,hsim,hchg⟩
  refine Code.wpF_mono ?_ ((round s st' hi).out Oth M' a' w' hsim)
  rintro e a'' w'' ⟨A'',st'',M'',h1,h2,h3⟩
  cases e with
  | normal=>
    obtain⟨s',hlt,hi',ht',hb'⟩:=h1
    exact⟨H.μ s',hlt,s',st'',M'',rfl,hi',h2.fits ht' hb' (Store.Has.refl st''),hchg.trans h3⟩
  |_=>exact⟨A'',st'',M'',h1,h2,hchg.trans h3⟩
end Go.V
namespace Go.V
theorem jc{st:Store}{b:Nat}{x:AObj}(h:st.obj b=none):(st.setObj b x).delObj b=st:=by
 unfold Store.setObj Store.delObj
 congr 1
 funext i
 by_cases hi:i=b
 ·subst hi;simp[h]
 ·simp[nbeq hi]
def ki(W:Int)(b:Bld)(y k:Nat):List Int:=(List.range k).map fun(x:Nat)=>b.x+(x:Int)+W*(b.y+(y:Int))
def k8(W:Int)(b:Bld)(k:Nat):List Int:=(List.range k).flatMap fun y=>ki W b y b.w.toNat
def v8(W:Int)(b:Bld):List Int:=k8 W b b.h.toNat
theorem znt(W:Int)(b:Bld)(y k:Nat):ki W b y (k+1)=ki W b y k++[b.x+(k:Int)+W*(b.y+(y:Int))]:=by
 unfold ki;rw[List.range_succ];simp
theorem zce(W:Int)(b:Bld)(k:Nat):k8 W b (k+1)=k8 W b k++ki W b k b.w.toNat:=by
 unfold k8;rw[List.range_succ];simp
theorem zhw(W:Int)(b:Bld)(y k:Nat):(ki W b y k).length=k:=by unfold ki;simp
theorem zdw(W:Int)(b:Bld)(k:Nat):(k8 W b k).length=k*b.w.toNat:=by
 induction k with
 |zero=>simp[k8]
 |succ k ih=>rw[zce,List.length_append,ih,zhw,Nat.succ_mul]
theorem zkc(W:Int){b:Bld}(hb:bldP b):(v8 W b).length<=16:=by
 unfold v8
 rw[zdw]
 unfold bldP at hb
 have:b.h.toNat*b.w.toNat<=4*4:=Nat.mul_le_mul (by omega) (by omega)
 omega
theorem k9{g:Gnd}(hg:gndP g){x y:Int}(hx:0<=x/\x<g.W)(hy:0<=y/\y<g.H):
  0<=x+g.W*y/\x+g.W*y<g.W*g.H/\(x+g.W*y)%g.W=x/\(x+g.W*y)/g.W=y:=by
 obtain⟨⟨h1,h2⟩,⟨h3,h4⟩,_⟩:=hg
 have a1:0<=g.W*y:=Int.mul_nonneg (by omega) hy.1
 have a2:g.W*y<=g.W*(g.H-1):=Int.mul_le_mul_of_nonneg_left (by omega) (by omega)
 have a3:g.W*(g.H-1)=g.W*g.H-g.W:=by rw[Int.mul_sub,Int.mul_one]
 refine⟨by omega,by omega,?_,?_⟩
 ·rw[Int.add_mul_emod_self_left];exact Int.emod_eq_of_lt hx.1 hx.2
 ·rw[Int.add_mul_ediv_left _ _ (by omega),Int.ediv_eq_zero_of_lt hx.1 hx.2];omega
theorem j2{g:Gnd}(hg:gndP g){b:Bld}(hb:bldP b)(ho:onP g b)(t:Int):t∈v8 g.W b↔∃n:Nat,t=(n:Int)/\(n:Int)<g.W*g.H/\hasP g b n:=by
 have hb':=hb
 have ho':=ho
 unfold bldP at hb'
 unfold onP at ho'
 unfold v8 k8 ki
 rw[List.mem_flatMap]
 constructor
 ·rintro⟨y,hy,hx⟩
  obtain⟨x,hx2,rfl⟩:=List.mem_map.1 hx
  have hy:=List.mem_range.1 hy
  have hx:=List.mem_range.1 hx2
  obtain⟨q1,q2,q3,q4⟩:=k9 hg (x:=b.x+x) (y:=b.y+y) (by omega) (by omega)
  refine⟨(b.x+(x:Int)+g.W*(b.y+(y:Int))).toNat,by omega,by omega,?_⟩
  unfold hasP
  rw[show(((b.x+(x:Int)+g.W*(b.y+(y:Int))).toNat:Nat):Int)=b.x+(x:Int)+g.W*(b.y+(y:Int)) by omega,q3,q4]
  omega
 ·rintro⟨n,rfl,hn,hh⟩
  unfold hasP at hh
  refine⟨((n:Int)/g.W-b.y).toNat,List.mem_range.2 (by omega),List.mem_map.2 ⟨((n:Int)%g.W-b.x).toNat,List.mem_range.2 (by omega),?_⟩⟩
  have:=Int.emod_add_mul_ediv (n:Int) g.W
  rw[show(((n:Int)%g.W-b.x).toNat:Int)=(n:Int)%g.W-b.x by omega,show(((n:Int)/g.W-b.y).toNat:Int)=(n:Int)/g.W-b.y by omega]
  rw[show b.x+((n:Int)%g.W-b.x)=(n:Int)%g.W by omega,show b.y+((n:Int)/g.W-b.y)=(n:Int)/g.W by omega]
  exact this
def bl(n:Nat)(f:Nat->Bool):List AV:=(List.range n).map fun t=>bool (f t)
theorem jg(n:Nat)(f:Nat->Bool):(bl n f).length=n:=by simp[bl]
theorem zfc{n:Nat}{f:Nat->Bool}{t:Nat}(h:t<n):(bl n f)[t]?=some (bool (f t)):=by simp[bl,h]
theorem zcx(n:Nat):List.replicate n (AV.s (.bool false))=bl n fun _=>false:=by
 unfold bl
 rw[List.map_const',List.length_range]
 rfl
theorem zcy{n:Nat}{f:Nat->Bool}{t:Nat}(h:t<n)(g:Nat->Bool)(hg:∀s,s≠t->g s=f s):zo (bl n f) t [bool (g t)]=bl n g:=by
 unfold zo
 apply List.ext_getElem?
 intro s
 by_cases h1:s<t
 ·rw[List.append_assoc,List.getElem?_append_left (by rw[List.length_take,jg];omega),List.getElem?_take_of_lt h1,zfc (by omega),zfc (by omega),hg s (by omega)]
 ·by_cases h2:s=t
  ·subst h2
   rw[List.append_assoc,List.getElem?_append_right (by rw[List.length_take,jg];omega),List.length_take,jg,show s-min s n=0 by omega,zfc h]
   rfl
  ·rw[List.getElem?_append_right (by rw[List.length_append,List.length_take,jg];simp;omega),List.length_append,List.length_take,jg,List.getElem?_drop]
   by_cases h3:s<n
   ·have e:t+[bool (g t)].length+(s-(min t n+[bool (g t)].length))=s:=by simp;omega
    rw[e,zfc h3,zfc h3,hg s h2]
   ·rw[List.getElem?_eq_none (by rw[jg];simp;omega),List.getElem?_eq_none (by rw[jg];omega)]
def covF(g:Gnd)(l:List Bld)(i:Nat)(ts:List Int)(k:Nat)(t:Nat):Bool:=covB g (l.take i) t||(ts.take k).contains (t:Int)
theorem zpy(g:Gnd)(l:List Bld)(i:Nat)(ts:List Int)(t:Nat):covF g l i ts 0 t=covB g (l.take i) t:=by simp[covF]
theorem zpz{g:Gnd}{l:List Bld}{i:Nat}{ts:List Int}{k n:Nat}(hk:k<ts.length)(hn:ts[k]=(n:Int)):
  covF g l i ts (k+1) n=true/\∀s,s≠n->covF g l i ts (k+1) s=covF g l i ts k s:=by
 unfold covF
 rw[List.take_succ_eq_append_getElem hk,hn]
 refine⟨by simp,fun s hs=>?_⟩
 rw[List.contains_append]
 have:[((n:Nat):Int)].contains (s:Int)=false:=by simp;omega
 rw[this,Bool.or_false]
theorem zp0{g:Gnd}(hg:gndP g){l:List Bld}{i:Nat}(hi:i<l.length)(hb:bldP l[i]/\onP g l[i]){t:Nat}(ht:t<g.T.length):
  covF g l i (v8 g.W l[i]) (v8 g.W l[i]).length t=covB g (l.take (i+1)) t:=by
 have ha:=zr hg
 unfold covF covB
 rw[List.take_length,List.take_succ_eq_append_getElem hi,List.any_append]
 congr 1
 rw[Bool.eq_iff_iff,List.contains_iff_mem,j2 hg hb.1 hb.2]
 simp only[List.any_cons,List.any_nil,Bool.or_false,decide_eq_true_eq]
 constructor
 ·rintro⟨n,h1,_,h2⟩
  have:n=t:=by omega
  subst this;exact h2
 ·intro h
  exact⟨t,rfl,by omega,h⟩
def zak(b:Bool):List AV:=[bool b]
def blL(n:Nat)(f:Nat->Bool):List Bool:=(List.range n).map f
theorem yu(n:Nat)(f:Nat->Bool):(blL n f).length=n:=by simp[blL]
theorem jy{n:Nat}{f:Nat->Bool}{t:Nat}(h:t<n):(blL n f)[t]'(by rw[yu];exact h)=f t:=by simp[blL]
theorem ys0(n:Nat)(f:Nat->Bool):(rws zak (blL n f)).flatten=bl n f:=by
 unfold rws blL bl zak
 induction List.range n with
 |nil=>rfl
 |cons a l ih=>simp at ih⊢;exact ih
theorem ych{n:Nat}{f:Nat->Bool}{t:Nat}(h:t<n):(rws zak (blL n f))[t]?=some (zak (f t)):=by
 unfold rws blL
 simp[h]
end Go.V
namespace Go.V
theorem zjr(W:Int)(b:Bld)(y k:Nat):(ki W b y k).Pairwise (·<·):=by
 unfold ki
 rw[List.pairwise_map]
 exact(List.pairwise_lt_range (n:=k)).imp fun h=>by omega
theorem zjq{W:Int}{b:Bld}(hW:1<=W)(hx:0<=b.x/\b.x+b.w<=W)(hw:1<=b.w)(k:Nat):(k8 W b k).Pairwise (·<·)/\∀t∈k8 W b k,t<W*(b.y+(k:Int)):=by
 induction k with
 |zero=>exact⟨List.Pairwise.nil,fun t ht=>(by simp[k8]at ht)⟩
 |succ k ih=>
  rw[zce]
  have hrow:∀t∈ki W b k b.w.toNat,W*(b.y+(k:Int))<=t/\t<W*(b.y+(k:Int))+W:=by
   intro t ht
   obtain⟨x,hx2,rfl⟩:=List.mem_map.1 ht
   have:=List.mem_range.1 hx2
   omega
  have e:W*(b.y+((k+1:Nat):Int))=W*(b.y+(k:Int))+W:=by
   rw[show b.y+((k+1:Nat):Int)=(b.y+(k:Int))+1 by omega,Int.mul_add,Int.mul_one]
  refine⟨List.pairwise_append.2 ⟨ih.1,zjr _ _ _ _,fun a ha c hc=>?_⟩,fun t ht=>?_⟩
  ·have h1:=ih.2 a ha
   have h2:=hrow c hc
   omega
  ·rw[e]
   rcases List.mem_append.1 ht with ht|ht
   ·have:=ih.2 t ht;omega
   ·have:=hrow t ht;omega
theorem zlv{g:Gnd}(hg:gndP g){b:Bld}(hb:bldP b/\onP g b):(v8 g.W b).Pairwise (·<·):=by
 unfold bldP onP at hb
 exact(zjq hg.1.1 hb.2.1 (by omega) _).1
theorem zop{l:List Int}(h:l.Pairwise (·<·)){k:Nat}(hk:k<l.length):l[k]∉l.take k:=by
 intro hm
 obtain⟨j,hj,e⟩:=List.getElem_of_mem hm
 rw[List.length_take]at hj
 rw[List.getElem_take]at e
 have:=List.pairwise_iff_getElem.1 h j k (by omega) hk (by omega)
 omega
theorem zt4{g:Gnd}(hg:gndP g){a b:Bld}(ha:bldP a/\onP g a)(hb:bldP b/\onP g b):zg1 a b↔∃t:Nat,(t:Int)<g.W*g.H/\hasP g a t/\hasP g b t:=by
 unfold bldP onP at ha hb
 unfold zg1
 constructor
 ·intro h
  obtain⟨q1,q2,q3,q4⟩:=k9 hg (x:=max a.x b.x) (y:=max a.y b.y) (by omega) (by omega)
  refine⟨(max a.x b.x+g.W*max a.y b.y).toNat,by omega,?_⟩
  unfold hasP
  rw[show(((max a.x b.x+g.W*max a.y b.y).toNat:Nat):Int)=max a.x b.x+g.W*max a.y b.y by omega,q3,q4]
  omega
 ·rintro⟨t,_,h1,h2⟩
  unfold hasP at h1 h2
  omega
theorem covB_iff{g:Gnd}{l:List Bld}{t:Nat}:covB g l t=true↔∃b∈l,hasP g b t:=by
 unfold covB
 rw[List.any_eq_true]
 simp
def ynj(g:Gnd)(l:List Bld)(i:Nat):Prop:=∀j,(h:j<l.length)->j<i->(bldP l[j]/\onP g l[j]/\zjz g l[j])/\∀k,(hk:k<j)->¬zg1 l[j] (l[k]'(by omega))
theorem zp9{g:Gnd}{l:List Bld}(h:ynj g l l.length):(∀b∈l,bldP b/\onP g b/\zjz g b)/\zup l:=by
 refine⟨fun b hb=>?_,fun j hj k hk=>(h j hj hj).2 k hk⟩
 obtain⟨j,hj,rfl⟩:=List.getElem_of_mem hb
 exact(h j hj hj).1
theorem yne{g:Gnd}(hg:gndP g){l:List Bld}{i:Nat}(hi:i<l.length)(hb:bldP l[i]/\onP g l[i])(hup:ynj g l i):
  (∃t∈v8 g.W l[i],covB g (l.take i) t.toNat=true)↔∃k,∃hk:k<i,zg1 l[i] (l[k]'(by omega)):=by
 constructor
 ·rintro⟨t,ht,hc⟩
  obtain⟨n,rfl,hn,hh⟩:=(j2 hg hb.1 hb.2 t).1 ht
  rw[Int.toNat_natCast]at hc
  obtain⟨b,hb2,hh2⟩:=covB_iff.1 hc
  obtain⟨k,hk,rfl⟩:=List.getElem_of_mem hb2
  rw[List.length_take]at hk
  rw[List.getElem_take]at hh2
  have:=(hup k (by omega) (by omega)).1
  exact⟨k,by omega,(zt4 hg hb ⟨this.1,this.2.1⟩).2 ⟨n,hn,hh,hh2⟩⟩
 ·rintro⟨k,hk,hm⟩
  have:=(hup k (by omega) (by omega)).1
  obtain⟨n,hn,h1,h2⟩:=(zt4 hg hb ⟨this.1,this.2.1⟩).1 hm
  refine⟨(n:Int),(j2 hg hb.1 hb.2 _).2 ⟨n,rfl,hn,h1⟩,?_⟩
  rw[Int.toNat_natCast]
  refine covB_iff.2 ⟨l[k],?_,h2⟩
  have:(l.take i)[k]'(by rw[List.length_take];omega)=l[k]:=List.getElem_take
  rw[<-this]
  exact List.getElem_mem _
end Go.V
namespace Go.V
def zcq(g:Gnd)(b:Bld)(k t:Nat):Prop:=(b.x<=(t:Int)%g.W/\(t:Int)%g.W<b.x+b.w)/\(b.y<=(t:Int)/g.W/\(t:Int)/g.W<b.y+(k:Int))
def zf1(g:Gnd)(b:Bld)(k m t:Nat):Prop:=(t:Int)/g.W=b.y+(k:Int)/\(b.x<=(t:Int)%g.W/\(t:Int)%g.W<b.x+(m:Int))
instance(g:Gnd)(b:Bld)(k t:Nat):Decidable (zcq g b k t):=inferInstanceAs (Decidable (_/\_))
instance(g:Gnd)(b:Bld)(k m t:Nat):Decidable (zf1 g b k m t):=inferInstanceAs (Decidable (_/\_))
def covR(g:Gnd)(l:List Bld)(i:Nat)(b:Bld)(k m t:Nat):Bool:=covB g (l.take i) t||decide (zcq g b k t\/zf1 g b k m t)
theorem yb6(g:Gnd)(l:List Bld)(i:Nat)(b:Bld):covR g l i b 0 0=covB g (l.take i):=by
 funext t
 unfold covR
 rw[decide_eq_false (by unfold zcq zf1;omega),Bool.or_false]
theorem ynf(g:Gnd)(l:List Bld)(i:Nat)(b:Bld)(k:Nat)(hw:0<=b.w):covR g l i b k b.w.toNat=covR g l i b (k+1) 0:=by
 funext t
 unfold covR
 have:(zcq g b k t\/zf1 g b k b.w.toNat t)↔(zcq g b (k+1) t\/zf1 g b (k+1) 0 t):=by
  unfold zcq zf1
  rw[show((b.w.toNat:Nat):Int)=b.w by omega]
  omega
 simp only[this]
theorem yb8{g:Gnd}{l:List Bld}{i:Nat}(hi:i<l.length)(hh:0<=l[i].h):covR g l i l[i] l[i].h.toNat 0=covB g (l.take (i+1)):=by
 funext t
 unfold covR covB
 rw[List.take_succ_eq_append_getElem hi,List.any_append]
 congr 1
 simp only[List.any_cons,List.any_nil,Bool.or_false]
 have:(zcq g l[i] l[i].h.toNat t\/zf1 g l[i] l[i].h.toNat 0 t)↔hasP g l[i] t:=by
  unfold zcq zf1 hasP
  rw[show((l[i].h.toNat:Nat):Int)=l[i].h by omega]
  omega
 simp only[this]
theorem yb7{g:Gnd}(hg:gndP g){l:List Bld}{i:Nat}{b:Bld}(hb:bldP b/\onP g b){k m:Nat}(hk:(k:Int)<b.h)(hm:(m:Int)<b.w){n:Nat}(hn:(n:Int)=b.x+(m:Int)+g.W*(b.y+(k:Int))):
  covR g l i b k (m+1) n=true/\∀s,s≠n->covR g l i b k (m+1) s=covR g l i b k m s:=by
 unfold bldP onP at hb
 obtain⟨q1,q2,q3,q4⟩:=k9 hg (x:=b.x+m) (y:=b.y+k) (by omega) (by omega)
 unfold covR
 refine⟨?_,fun s hs=>?_⟩
 ·have:zf1 g b k (m+1) n:=by
   unfold zf1
   rw[hn,q3,q4]
   omega
  rw[decide_eq_true (.inr this),Bool.or_true]
 ·have e:=Int.emod_add_mul_ediv (s:Int) g.W
  have:(zcq g b k s\/zf1 g b k (m+1) s)↔(zcq g b k s\/zf1 g b k m s):=by
   unfold zf1
   have hne:¬((s:Int)/g.W=b.y+(k:Int)/\(s:Int)%g.W=b.x+(m:Int)):=by
    rintro⟨e1,e2⟩
    rw[e1,e2]at e
    omega
   unfold zcq
   clear e hn q1 q2 q3 q4
   generalize(s:Int)%g.W=X at*
   generalize(s:Int)/g.W=Y at*
   omega
  simp only[this]
end Go.V
namespace Go.V
theorem ymv{g:Gnd}{t:Nat}{p:Vc}{r:Int}(hr:0<r)(h:hitP g t p r):
  (tx g t<p.1+r/\p.1-r<tx g t+65536)/\(ty g t<p.2+r/\p.2-r<ty g t+65536):=by
 unfold hitP at h
 have n:∀x lo:Int,0<=off x lo:=fun x lo=>by unfold off;split<;>(try split)<;>omega
 have a:=yj8 (n p.1 (tx g t)) hr (by have:=Int.mul_nonneg (n p.2 (ty g t)) (n p.2 (ty g t));omega)
 have b:=yj8 (n p.2 (ty g t)) hr (by have:=Int.mul_nonneg (n p.1 (tx g t)) (n p.1 (tx g t));omega)
 unfold off at a b
 refine⟨?_,?_⟩
 ·generalize tx g t=X at a
  split at a
  ·omega
  ·split at a<;>omega
 ·generalize ty g t=Y at b
  split at b
  ·omega
  ·split at b<;>omega
section
variable {P:Program} {c:Cfg}
theorem zv{ops:Array Oper}{o:Oper}{A:Fr}{go skip:Fr->Prop}(hg:o.guard=none)(h:go A):zgn ops o A go skip:=by
 unfold zgn;rw[hg];exact h
theorem zy{o:Oper}{t:TypeId}{a x:Operand}{K:Fr->Store->Prop}{A:Fr}{st:Store}{i:TI}{v:AV}(ho:o.op=.store t a x)(hd:o.dst=none)(hi:c.I t=some i)(hx:A.ev x=.av v)(h:zef i A st (A.ev a) v K):vcOp P c o K A st:=by
 unfold vcOp
 rw[ho]
 show zjp P c o K A st
 unfold zjp
 rw[ho]
 simp only[hd,Option.isNone_none,cond_true,hx]
 exact za i hi h
end
theorem yoa{A:Int}{m:Nat}(h:(m:Int)<A):A.toNat-(m+1)<A.toNat-m:=by omega
theorem zjf(a:Int)(m:Nat):a+((m+1:Nat):Int)=a+(m:Int)+1:=by omega
theorem zha{A x:Int}{m:Nat}(h:x+(m:Int)<A):((m+1:Nat):Int)<=A-x:=by omega
def zf8(g:Gnd)(l:List Bld)(c:Int)(p:Vc)(r y:Int):Prop:=∀t,t<g.T.length->(t:Int)/g.W<y->yl g l c t=false->¬hitP g t p r
def ze7(g:Gnd)(l:List Bld)(c:Int)(p:Vc)(r y x:Int):Prop:=∀t,t<g.T.length->(t:Int)/g.W=y->(t:Int)%g.W<x->yl g l c t=false->¬hitP g t p r
theorem zsj{g:Gnd}{l:List Bld}{c:Int}{p:Vc}{r:Int}(hr:0<r)(hp:0<=p.2-r):zf8 g l c p r ((p.2-r)/65536):=by
 intro t _ hy _ hh
 have:=(ymv hr hh).2
 unfold ty at this
 generalize(t:Int)/g.W=Y at*
 omega
theorem zp3{g:Gnd}{l:List Bld}{c:Int}{p:Vc}{r y:Int}(hr:0<r)(hp:0<=p.1-r):ze7 g l c p r y ((p.1-r)/65536):=by
 intro t _ _ hx _ hh
 have:=(ymv hr hh).1
 unfold tx at this
 generalize(t:Int)%g.W=X at*
 omega
theorem zp4{g:Gnd}(hg:gndP g){l:List Bld}{c:Int}{p:Vc}{r y x:Int}(hr:0<r)(hp:0<=p.1+r)(hx:¬(x<=(p.1+r)/65536)\/¬(x<g.W))(hu:zf8 g l c p r y)(h:ze7 g l c p r y x):zf8 g l c p r (y+1):=by
 intro t ht hy ho hh
 by_cases e:(t:Int)/g.W=y
 ·by_cases e2:(t:Int)%g.W<x
  ·exact h t ht e e2 ho hh
  ·have h1:=(ymv hr hh).1
   have h2:=(zcf hg (t:=t) (by have:=(zr hg).2.2;omega)).1
   unfold tx at h1
   generalize(t:Int)%g.W=X at*
   omega
 ·exact hu t ht (by omega) ho hh
theorem zsk{g:Gnd}(hg:gndP g){l:List Bld}{c:Int}{p:Vc}{r y:Int}(hr:0<r)(hp:0<=p.2+r)(hy:¬(y<=(p.2+r)/65536)\/¬(y<g.H))(hu:zf8 g l c p r y):∀t,t<g.T.length->yl g l c t=false->¬hitP g t p r:=by
 intro t ht ho hh
 by_cases e:(t:Int)/g.W<y
 ·exact hu t ht e ho hh
 ·have h1:=(ymv hr hh).2
  have h2:=(zcf hg (t:=t) (by have:=(zr hg).2.2;omega)).2
  unfold ty at h1
  generalize(t:Int)/g.W=Y at*
  omega
theorem zmw{g:Gnd}(hg:gndP g){l:List Bld}{c:Int}{p:Vc}{r y x:Int}(hx:0<=x/\x<g.W)(hy:0<=y/\y<g.H)(h:ze7 g l c p r y x)(hn:yl g l c (x+g.W*y).toNat=false->¬hitP g (x+g.W*y).toNat p r):ze7 g l c p r y (x+1):=by
 intro t ht e1 e2 ho
 by_cases e:(t:Int)%g.W<x
 ·exact h t ht e1 e ho
 ·have e3:(t:Int)%g.W=x:=by omega
  have q:=Int.emod_add_mul_ediv (t:Int) g.W
  rw[e1,e3]at q
  have:(x+g.W*y).toNat=t:=by rw[q];omega
  rw[this]at hn
  exact hn ho
end Go.V
namespace Go.V
def onG(g:Gnd)(x y:Int):Prop:=(0<=x/\x<g.W)/\(0<=y/\y<g.H)
instance(g:Gnd)(x y:Int):Decidable (onG g x y):=inferInstanceAs (Decidable (_/\_))
def tl(g:Gnd)(x y:Int):Nat:=(x+g.W*y).toNat
theorem jr{g:Gnd}(hg:gndP g){x y:Int}(h:onG g x y):((tl g x y:Nat):Int)=x+g.W*y/\tl g x y<g.T.length/\(tl g x y:Int)%g.W=x/\(tl g x y:Int)/g.W=y:=by
 obtain⟨h1,h2,h3⟩:=zr hg
 obtain⟨⟨hx,hx2⟩,hy,hy2⟩:=h
 have hW:1<=g.W:=hg.1.1
 have e0:0<=g.W*y:=Int.mul_nonneg (by omega) hy
 have e:((tl g x y:Nat):Int)=x+g.W*y:=by unfold tl;omega
 have e1:g.W*y<=g.W*(g.H-1):=Int.mul_le_mul (Int.le_refl _) (by omega) hy (by omega)
 rw[Int.mul_sub,Int.mul_one]at e1
 refine⟨e,by omega,?_,?_⟩
 ·rw[e,Int.add_mul_emod_self_left,Int.emod_eq_of_lt hx hx2]
 ·rw[e,Int.add_mul_ediv_left _ _ (by omega),Int.ediv_eq_zero_of_lt hx hx2,Int.zero_add]
theorem zri{g:Gnd}(hg:gndP g){t:Nat}(ht:t<g.T.length):onG g ((t:Int)%g.W) ((t:Int)/g.W)/\tl g ((t:Int)%g.W) ((t:Int)/g.W)=t:=by
 obtain⟨h1,h2,h3⟩:=zr hg
 have hW:1<=g.W:=hg.1.1
 have a:=Int.emod_nonneg (t:Int) (show g.W≠0 by omega)
 have b:=Int.emod_lt_of_pos (t:Int) (show 0<g.W by omega)
 have c:=Int.ediv_nonneg (show 0<=(t:Int) by omega) (show 0<=g.W by omega)
 have d:(t:Int)/g.W<g.H:=Int.ediv_lt_of_lt_mul (by omega) (by rw[Int.mul_comm];omega)
 refine⟨⟨⟨a,b⟩,c,d⟩,?_⟩
 unfold tl
 rw[Int.emod_add_mul_ediv]
 omega
def sqP(g:Gnd)(f:Nat->Bool)(s:Nat)(x y:Int):Prop:=∀a b:Int,-(s:Int)<=a->a<=s->-(s:Int)<=b->b<=s->onG g (x+a) (y+b)/\f (tl g (x+a) (y+b))=true
theorem sq_zero{g:Gnd}{f:Nat->Bool}{x y:Int}:sqP g f 0 x y↔onG g x y/\f (tl g x y)=true:=by
 constructor
 ·intro h
  have:=h 0 0 (by decide) (by decide) (by decide) (by decide)
  simpa using this
 ·intro h a b h1 h2 h3 h4
  have ea:a=0:=by omega
  have eb:b=0:=by omega
  subst ea eb
  simpa using h
theorem sq_succ{g:Gnd}{f:Nat->Bool}{s:Nat}{x y:Int}:sqP g f (s+1) x y↔∀a b:Int,-1<=a->a<=1->-1<=b->b<=1->onG g (x+a) (y+b)/\sqP g f s (x+a) (y+b):=by
 constructor
 ·intro h a b h1 h2 h3 h4
  refine⟨(h a b (by omega) (by omega) (by omega) (by omega)).1,fun a' b' k1 k2 k3 k4=>?_⟩
  have:=h (a+a') (b+b') (by omega) (by omega) (by omega) (by omega)
  rw[<-Int.add_assoc,<-Int.add_assoc]at this
  exact this
 ·intro h a b h1 h2 h3 h4
  obtain⟨a1,ha1,ha2,ha3,ha4⟩:∃a1:Int,-1<=a1/\a1<=1/\-(s:Int)<=a-a1/\a-a1<=s:=by
   by_cases c1:a>s
   ·exact⟨1,by omega,by omega,by omega,by omega⟩
   ·by_cases c2:a< -s
    ·exact⟨-1,by omega,by omega,by omega,by omega⟩
    ·exact⟨0,by omega,by omega,by omega,by omega⟩
  obtain⟨b1,hb1,hb2,hb3,hb4⟩:∃b1:Int,-1<=b1/\b1<=1/\-(s:Int)<=b-b1/\b-b1<=s:=by
   by_cases c1:b>s
   ·exact⟨1,by omega,by omega,by omega,by omega⟩
   ·by_cases c2:b< -s
    ·exact⟨-1,by omega,by omega,by omega,by omega⟩
    ·exact⟨0,by omega,by omega,by omega,by omega⟩
  have:=(h a1 b1 ha1 ha2 hb1 hb2).2 (a-a1) (b-b1) ha3 ha4 hb3 hb4
  rw[show x+a1+(a-a1)=x+a by omega,show y+b1+(b-b1)=y+b by omega]at this
  exact this
theorem zqv{g:Gnd}{f:Nat->Bool}{s s':Nat}(hs:s'<=s){x y:Int}(h:sqP g f s x y):sqP g f s' x y:=fun a b h1 h2 h3 h4=>h a b (by omega) (by omega) (by omega) (by omega)
theorem yq7{g:Gnd}{f:Nat->Bool}{s:Nat}{x y:Int}(h:sqP g f s x y):2*(s:Int)+1<=g.W:=by
 have h1:=(h (-(s:Int)) 0 (by omega) (by omega) (by omega) (by omega)).1.1.1
 have h2:=(h s 0 (by omega) (by omega) (by omega) (by omega)).1.1.2
 omega
def m5(a b c d e:Int):Int:=min (min (min (min a (b+1)) (c+1)) (d+1)) (e+1)
theorem cham{g:Gnd}{f:Nat->Bool}{A B:Int->Int->Int}(oA:∀x y,¬onG g x y->A x y=0)(oB:∀x y,¬onG g x y->B x y=0)
  (hA:∀x y,onG g x y->A x y=m5 (if f (tl g x y)then 128 else 0) (A (x-1) y) (A (x-1) (y-1)) (A x (y-1)) (A (x+1) (y-1)))
  (hB:∀x y,onG g x y->B x y=m5 (A x y) (B (x+1) y) (B (x+1) (y+1)) (B x (y+1)) (B (x-1) (y+1))) {x y:Int} (hxy:onG g x y) (s:Nat) (hs:s<=127):(s:Int)<B x y↔sqP g f s x y:=by
 -- not below 0
 have nA:∀n:Nat,∀x y,onG g x y->y*200+x<n->0<=A x y:=by
  intro n
  induction n with
  |zero=>intro x y h hn;obtain⟨⟨h1,h2⟩,h3,h4⟩:=h;omega
  |succ n ih=>
   intro x y h hn
   have any:∀x' y',y'*200+x'<y*200+x->0<=A x' y':=fun x' y' hl=>by
    by_cases ho:onG g x' y'
    ·exact ih x' y' ho (by omega)
    ·rw[oA x' y' ho];decide
   rw[hA x y h]
   have a1:=any (x-1) y (by omega)
   have a2:=any (x-1) (y-1) (by omega)
   have a3:=any x (y-1) (by omega)
   have a4:=any (x+1) (y-1) (by omega)
   have a5:(0:Int)<=(if f (tl g x y)then 128 else 0):=by split<;>decide
   unfold m5
   omega
 have pA:∀x y,0<=A x y:=fun x y=>by
  by_cases ho:onG g x y
  ·exact nA (y*200+x+1).toNat x y ho (by obtain⟨⟨h1,h2⟩,h3,h4⟩:=ho;omega)
  ·rw[oA x y ho];decide
 have nB:∀n:Nat,∀x y,onG g x y->(g.H-y)*200+(g.W-x)<n->0<=B x y:=by
  intro n
  induction n with
  |zero=>intro x y h hn;obtain⟨⟨h1,h2⟩,h3,h4⟩:=h;omega
  |succ n ih=>
   intro x y h hn
   have any:∀x' y',(g.H-y')*200+(g.W-x')<(g.H-y)*200+(g.W-x)->0<=B x' y':=fun x' y' hl=>by
    by_cases ho:onG g x' y'
    ·exact ih x' y' ho (by omega)
    ·rw[oB x' y' ho];decide
   rw[hB x y h]
   have a1:=any (x+1) y (by omega)
   have a2:=any (x+1) (y+1) (by omega)
   have a3:=any x (y+1) (by omega)
   have a4:=any (x-1) (y+1) (by omega)
   have a5:=pA x y
   unfold m5
   omega
 have pB:∀x y,0<=B x y:=fun x y=>by
  by_cases ho:onG g x y
  ·exact nB ((g.H-y)*200+(g.W-x)+1).toNat x y ho (by obtain⟨⟨h1,h2⟩,h3,h4⟩:=ho;omega)
  ·rw[oB x y ho];decide
 constructor
 ·-- what is bad is not farther than its steps
  have up1:∀d:Nat,∀x y a b,onG g x y->-(d:Int)<=a->a<=d->-(d:Int)<=b->b<=0->a<=-b->¬(onG g (x+a) (y+b)/\f (tl g (x+a) (y+b))=true)->A x y<=d:=by
   intro d
   induction d with
   |zero=>
    intro x y a b h h1 h2 h3 h4 h5 hbad
    have ea:a=0:=by omega
    have eb:b=0:=by omega
    subst ea eb
    rw[Int.add_zero,Int.add_zero]at hbad
    have hf:¬f (tl g x y)=true:=fun hf=>hbad ⟨h,hf⟩
    rw[hA x y h,if_neg hf]
    unfold m5
    omega
   |succ d ih=>
    intro x y a b h h1 h2 h3 h4 h5 hbad
    have go:∀u v:Int,-(d:Int)<=a-u->a-u<=d->-(d:Int)<=b-v->b-v<=0->a-u<=-(b-v)->A (x+u) (y+v)<=d:=fun u v g1 g2 g3 g4 g5=>by
     by_cases ho:onG g (x+u) (y+v)
     ·refine ih (x+u) (y+v) (a-u) (b-v) ho g1 g2 g3 g4 g5 ?_
      rw[show x+u+(a-u)=x+a by omega,show y+v+(b-v)=y+b by omega]
      exact hbad
     ·rw[oA _ _ ho];omega
    have hk:=hA x y h
    unfold m5 at hk
    by_cases cb:b=0
    ·by_cases ca:a=0
     ·subst ca cb
      rw[Int.add_zero,Int.add_zero]at hbad
      have hf:¬f (tl g x y)=true:=fun hf=>hbad ⟨h,hf⟩
      rw[if_neg hf]at hk
      omega
     ·have:=go (-1) 0 (by omega) (by omega) (by omega) (by omega) (by omega)
      rw[show x+-1=x-1 by omega,Int.add_zero]at this
      omega
    ·by_cases ca:a=0
     ·have:=go 0 (-1) (by omega) (by omega) (by omega) (by omega) (by omega)
      rw[show y+-1=y-1 by omega,Int.add_zero]at this
      omega
     ·by_cases ca2:a<0
      ·have:=go (-1) (-1) (by omega) (by omega) (by omega) (by omega) (by omega)
       rw[show y+-1=y-1 by omega,show x+-1=x-1 by omega]at this
       omega
      ·have:=go 1 (-1) (by omega) (by omega) (by omega) (by omega) (by omega)
       rw[show y+-1=y-1 by omega]at this
       omega
  have up2:∀d:Nat,∀x y a b,onG g x y->-(d:Int)<=a->a<=d->-(d:Int)<=b->b<=d->¬(onG g (x+a) (y+b)/\f (tl g (x+a) (y+b))=true)->B x y<=d:=by
   intro d
   induction d with
   |zero=>
    intro x y a b h h1 h2 h3 h4 hbad
    have:=up1 0 x y a b h h1 h2 h3 (by omega) (by omega) hbad
    have hk:=hB x y h
    unfold m5 at hk
    omega
   |succ d ih=>
    intro x y a b h h1 h2 h3 h4 hbad
    have hk:=hB x y h
    unfold m5 at hk
    by_cases cone:b<=0/\a<=-b
    ·have:=up1 (d+1) x y a b h h1 h2 h3 cone.1 cone.2 hbad
     omega
    have go:∀u v:Int,-(d:Int)<=a-u->a-u<=d->-(d:Int)<=b-v->b-v<=d->B (x+u) (y+v)<=d:=fun u v g1 g2 g3 g4=>by
     by_cases ho:onG g (x+u) (y+v)
     ·refine ih (x+u) (y+v) (a-u) (b-v) ho g1 g2 g3 g4 ?_
      rw[show x+u+(a-u)=x+a by omega,show y+v+(b-v)=y+b by omega]
      exact hbad
     ·rw[oB _ _ ho];omega
    by_cases cb:b<=0
    ·have:=go 1 0 (by omega) (by omega) (by omega) (by omega)
     rw[Int.add_zero]at this
     omega
    ·by_cases ca:a=0
     ·have:=go 0 1 (by omega) (by omega) (by omega) (by omega)
      rw[Int.add_zero]at this
      omega
     ·by_cases ca2:a<0
      ·have:=go (-1) 1 (by omega) (by omega) (by omega) (by omega)
       rw[show x+-1=x-1 by omega]at this
       omega
      ·have:=go 1 1 (by omega) (by omega) (by omega) (by omega)
       omega
  intro hlt a b h1 h2 h3 h4
  refine Classical.byContradiction fun hbad=>?_
  have:=up2 s x y a b hxy h1 h2 h3 h4 hbad
  omega
 ·-- what is good all about is far
  have loA:∀s:Nat,s<=127->∀x y,sqP g f s x y->(s:Int)<A x y:=by
   intro s
   induction s with
   |zero=>
    intro _ x y h
    obtain⟨ho,hf⟩:=sq_zero.1 h
    rw[hA x y ho,if_pos hf]
    have a1:=pA (x-1) y
    have a2:=pA (x-1) (y-1)
    have a3:=pA x (y-1)
    have a4:=pA (x+1) (y-1)
    unfold m5
    omega
   |succ s ih=>
    intro hs x y h
    have h2:=sq_succ.1 h
    have nb:=fun(a b:Int) h3 h4 h5 h6=>ih (by omega) _ _ (h2 a b h3 h4 h5 h6).2
    obtain⟨ho,hf⟩:=sq_zero.1 (zqv (Nat.zero_le _) h)
    have a1:=nb (-1) 0 (by decide) (by decide) (by decide) (by decide)
    have a2:=nb (-1) (-1) (by decide) (by decide) (by decide) (by decide)
    have a3:=nb 0 (-1) (by decide) (by decide) (by decide) (by decide)
    have a4:=nb 1 (-1) (by decide) (by decide) (by decide) (by decide)
    rw[show x+-1=x-1 by omega]at a1 a2
    rw[show y+-1=y-1 by omega]at a2 a3 a4
    rw[Int.add_zero]at a1 a3
    rw[hA x y ho,if_pos hf]
    unfold m5
    omega
  have loB:∀s:Nat,s<=127->∀x y,sqP g f s x y->(s:Int)<B x y:=by
   intro s
   induction s with
   |zero=>
    intro hs x y h
    obtain⟨ho,hf⟩:=sq_zero.1 h
    rw[hB x y ho]
    have a1:=pB (x+1) y
    have a2:=pB (x+1) (y+1)
    have a3:=pB x (y+1)
    have a4:=pB (x-1) (y+1)
    have a5:=loA 0 hs x y h
    unfold m5
    omega
   |succ s ih=>
    intro hs x y h
    have h2:=sq_succ.1 h
    have nb:=fun(a b:Int) h3 h4 h5 h6=>ih (by omega) _ _ (h2 a b h3 h4 h5 h6).2
    obtain⟨ho,hf⟩:=sq_zero.1 (zqv (Nat.zero_le _) h)
    have a1:=nb 1 0 (by decide) (by decide) (by decide) (by decide)
    have a2:=nb 1 1 (by decide) (by decide) (by decide) (by decide)
    have a3:=nb 0 1 (by decide) (by decide) (by decide) (by decide)
    have a4:=nb (-1) 1 (by decide) (by decide) (by decide) (by decide)
    rw[show x+-1=x-1 by omega]at a4
    rw[Int.add_zero]at a1 a3
    have a5:=loA (s+1) hs x y h
    rw[hB x y ho]
    unfold m5
    omega
  exact loB s hs x y
end Go.V
namespace Go.V
def absM(i j:Int):Int:=max (max i (-i)) (max j (-j))
def yus(g:Gnd)(x y k d:Int)(t:Nat):Bool:=decide (absM ((t:Int)%g.W-x) ((t:Int)/g.W-y)=d/\((t:Int)%g.W-x).tmod k=0/\((t:Int)/g.W-y).tmod k=0)
def yur(g:Gnd)(x y k d:Int):List Nat:=(List.range g.T.length).filter (yus g x y k d)
def yup(g:Gnd)(f:Nat->Bool)(x y k d:Int):List Nat:=(yur g x y k d).filter f
def zys(g:Gnd)(f:Nat->Bool)(x y k:Int):Nat->List Nat
 |0=>[]
 |d+1=>zys g f x y k d++yup g f x y k d
def ytn(g:Gnd)(f:Nat->Bool)(size goal:Int)(n:Nat):List Nat:=(zys g f (goal%g.W) (goal/g.W) (2*size+1) (g.W+g.H+1).toNat).take n
end Go.V
namespace Go.V
def il(n:Nat)(f:Nat->Int):List AV:=(List.range n).map fun t=>int (f t)
theorem yz(n:Nat)(f:Nat->Int):(il n f).length=n:=by simp[il]
theorem zct{n:Nat}{f:Nat->Int}{t:Nat}(h:t<n):(il n f)[t]?=some (int (f t)):=by simp[il,h]
theorem qc{n:Nat}{f:Nat->Int}{t:Nat}(h:t<n):((il n f).drop (0+t*1)).head?=some (int (f t)):=by
 rw[List.head?_drop,show 0+t*1=t by omega,zct h]
theorem zm3{n:Nat}{f:Nat->Bool}{t:Nat}(h:t<n):((bl n f).drop (0+t*1)).head?=some (bool (f t)):=by
 rw[List.head?_drop,show 0+t*1=t by omega,zfc h]
theorem ziu(n:Nat):List.replicate n (AV.s (.int .i64 0))=il n fun _=>0:=by
 unfold il
 rw[List.map_const',List.length_range]
 rfl
def setI(f:Nat->Int)(t:Nat)(v:Int):Nat->Int:=fun s=>if s=t then v else f s
theorem zbb(f:Nat->Int)(t:Nat)(v:Int):setI f t v t=v:=if_pos rfl
theorem zdy(f:Nat->Int){t s:Nat}(v:Int)(h:s≠t):setI f t v s=f s:=if_neg h
theorem yrc(f:Nat->Int)(t:Nat):setI f t (f t)=f:=funext fun s=>by
 unfold setI
 split
 ·rename_i h;rw[h]
 ·rfl
theorem zh3(f:Nat->Int)(t:Nat)(v u:Int):setI (setI f t v) t u=setI f t u:=funext fun s=>by
 unfold setI
 split<;>simp_all
theorem ya2{n:Nat}{f:Nat->Int}{t:Nat}(h:t<n)(g:Nat->Int)(hg:∀s,s≠t->g s=f s):zo (il n f) t [int (g t)]=il n g:=by
 unfold zo
 apply List.ext_getElem?
 intro s
 by_cases h1:s<t
 ·rw[List.append_assoc,List.getElem?_append_left (by rw[List.length_take,yz];omega),List.getElem?_take_of_lt h1,zct (by omega),zct (by omega),hg s (by omega)]
 ·by_cases h2:s=t
  ·subst h2
   rw[List.append_assoc,List.getElem?_append_right (by rw[List.length_take,yz];omega),List.length_take,yz,show s-min s n=0 by omega,zct h]
   rfl
  ·rw[List.getElem?_append_right (by rw[List.length_append,List.length_take,yz];simp;omega),List.length_append,List.length_take,yz,List.getElem?_drop]
   by_cases h3:s<n
   ·have e:t+[int (g t)].length+(s-(min t n+[int (g t)].length))=s:=by simp;omega
    rw[e,zct h3,zct h3,hg s h2]
   ·rw[List.getElem?_eq_none (by rw[yz];simp;omega),List.getElem?_eq_none (by rw[yz];omega)]
theorem zex{n:Nat}{f:Nat->Int}{t:Nat}(h:t<n)(v:Int):zo (il n f) t [int v]=il n (setI f t v):=by
 have:=ya2 h (setI f t v) (fun s hs=>zdy f v hs)
 rw[zbb]at this
 exact this
def ilL(n:Nat)(f:Nat->Int):List Int:=(List.range n).map f
theorem zah(n:Nat)(f:Nat->Int):(ilL n f).length=n:=by simp[ilL]
theorem ya4{n:Nat}{f:Nat->Int}{t:Nat}(h:t<n):(ilL n f)[t]'(by rw[zah];exact h)=f t:=by simp[ilL]
theorem ya3(n:Nat)(f:Nat->Int):(rws intC (ilL n f)).flatten=il n f:=by
 unfold rws ilL il
 rw[List.map_map]
 generalize List.range n=l
 induction l with
 |nil=>rfl
 |cons a l ih=>simp only[List.map_cons,List.flatten_cons,ih];rfl
theorem wi{n:Nat}{f g:Nat->Int}(h:∀t,t<n->f t=g t):il n f=il n g:=List.map_congr_left fun t ht=>by rw[h t (List.mem_range.1 ht)]
theorem zm4{n:Nat}{f g:Nat->Bool}(h:∀t,t<n->f t=g t):bl n f=bl n g:=List.map_congr_left fun t ht=>by rw[h t (List.mem_range.1 ht)]
theorem yci{n:Nat}{f g:Nat->Bool}(h:∀t,t<n->f t=g t):blL n f=blL n g:=List.map_congr_left fun t ht=>h t (List.mem_range.1 ht)
def gv(g:Gnd)(f:Nat->Int)(x y:Int):Int:=if onG g x y then f (tl g x y)else 0
def zb9(g:Gnd)(f:Nat->Int)(x y:Int)(v:Int)(ws:List (Int×Int)):Int:=ws.foldl (fun v d=>min v (gv g f (x+d.1) (y+d.2)+1)) v
theorem gv_b{g:Gnd}(hg:gndP g){f:Nat->Int}(hf:∀t,t<g.T.length->0<=f t/\f t<=128)(x y:Int):0<=gv g f x y/\gv g f x y<=128:=by
 unfold gv
 split
 ·rename_i h;exact hf _ (jr hg h).2.1
 ·omega
theorem zrd{g:Gnd}(hg:gndP g){f:Nat->Int}(hf:∀t,t<g.T.length->0<=f t/\f t<=128)(x y:Int):∀(ws:List (Int×Int)) (v:Int),0<=v/\v<=128->0<=zb9 g f x y v ws/\zb9 g f x y v ws<=128
 |[],v,hv=>hv
 |d::r,v,hv=>by
  have:=gv_b hg hf (x+d.1) (y+d.2)
  exact zrd hg hf x y r (min v (gv g f (x+d.1) (y+d.2)+1)) (by omega)
theorem zv3(g:Gnd)(f:Nat->Int)(x y v:Int)(ws:List (Int×Int)){i:Nat}(hi:i<ws.length):zb9 g f x y v (ws.take (i+1))=min (zb9 g f x y v (ws.take i)) (gv g f (x+ws[i].1) (y+ws[i].2)+1):=by
 unfold zb9
 rw[List.take_succ_eq_append_getElem hi,List.foldl_append]
 rfl
theorem yto{n:Nat}{f:Nat->Int}(hf:∀t,t<n->0<=f t/\f t<=128){t:Nat}{v:Int}(hv:0<=v/\v<=128):∀s,s<n->0<=setI f t v s/\setI f t v s<=128:=fun s hs=>by
 unfold setI
 split
 ·exact hv
 ·exact hf s hs
theorem yso{g:Gnd}(hg:gndP g)(f:Nat->Int){t:Nat}(v:Int){dx dy:Int}(hd:dx≠0\/dy≠0):gv g (setI f t v) ((t:Int)%g.W+dx) ((t:Int)/g.W+dy)=gv g f ((t:Int)%g.W+dx) ((t:Int)/g.W+dy):=by
 unfold gv
 split
 ·rename_i h
  obtain⟨_,_,h3,h4⟩:=jr hg h
  refine zdy f v fun e=>?_
  rw[e]at h3 h4
  omega
 ·rfl
def fwdW:List (Int×Int):=[(-1,0),(-1,-1),(0,-1),(1,-1)]
def bwdW:List (Int×Int):=[(1,0),(1,1),(0,1),(-1,1)]
def wayC(d:Int×Int):List AV:=[int d.1,int d.2]
def zkf(g:Gnd)(f:Nat->Int)(ws:List (Int×Int))(t:Nat):Nat->Int:=setI f t (zb9 g f ((t:Int)%g.W) ((t:Int)/g.W) (f t) ws)
def ku(g:Gnd)(f:Nat->Int):Nat->Nat->Int
 |0=>f
 |i+1=>zkf g (ku g f i) fwdW i
def zaq(g:Gnd)(f:Nat->Int)(n:Nat):Nat->Nat->Int
 |0=>f
 |j+1=>zkf g (zaq g f n j) bwdW (n-1-j)
theorem zs8{g:Gnd}(hg:gndP g){f:Nat->Int}(hf:∀t,t<g.T.length->0<=f t/\f t<=128){ws:List (Int×Int)}{t:Nat}(ht:t<g.T.length):∀s,s<g.T.length->0<=zkf g f ws t s/\zkf g f ws t s<=128:=
 yto hf (zrd hg hf _ _ _ _ (hf t ht))
theorem zlw{g:Gnd}(hg:gndP g){f:Nat->Int}(hf:∀t,t<g.T.length->0<=f t/\f t<=128):∀i,i<=g.T.length->∀s,s<g.T.length->0<=ku g f i s/\ku g f i s<=128
 |0,_=>hf
 |i+1,hi=>zs8 hg (zlw hg hf i (by omega)) (by omega)
theorem zs9{g:Gnd}(hg:gndP g){f:Nat->Int}(hf:∀t,t<g.T.length->0<=f t/\f t<=128):∀i,i<=g.T.length->∀s,s<g.T.length->0<=zaq g f g.T.length i s/\zaq g f g.T.length i s<=128
 |0,_=>hf
 |i+1,hi=>zs8 hg (zs9 hg hf i (by omega)) (by omega)
theorem zkh(g:Gnd)(f:Nat->Int):∀i s,i<=s->ku g f i s=f s
 |0,_,_=>rfl
 |i+1,s,h=>by
  show setI _ i _ s=_
  rw[zdy _ _ (by omega),zkh g f i s (by omega)]
theorem zee(g:Gnd)(f:Nat->Int):∀i s,s<i->ku g f i s=ku g f (s+1) s
 |0,_,h=>absurd h (Nat.not_lt_zero _)
 |i+1,s,h=>by
  by_cases e:s=i
  ·subst e;rfl
  ·show setI _ i _ s=_
   rw[zdy _ _ e,zee g f i s (by omega)]
theorem zkg(g:Gnd)(f:Nat->Int)(n:Nat):∀j s,s+j<n->zaq g f n j s=f s
 |0,_,_=>rfl
 |j+1,s,h=>by
  show setI _ (n-1-j) _ s=_
  rw[zdy _ _ (by omega),zkg g f n j s (by omega)]
theorem zed(g:Gnd)(f:Nat->Int)(n:Nat):∀j s,s<n->j<=n->n<=s+j->zaq g f n j s=zaq g f n (n-1-s+1) s
 |0,s,h,_,h2=>absurd h2 (by omega)
 |j+1,s,h,h1,h2=>by
  by_cases e:s=n-1-j
  ·have:j+1=n-1-s+1:=by omega
   rw[this]
  ·show setI _ (n-1-j) _ s=_
   rw[zdy _ _ e,zed g f n j s h (by omega) (by omega)]
theorem ysd(g:Gnd)(f:Nat->Int)(x y v:Int):zb9 g f x y v fwdW=m5 v (gv g f (x-1) y) (gv g f (x-1) (y-1)) (gv g f x (y-1)) (gv g f (x+1) (y-1)):=by
 unfold zb9 fwdW m5
 simp only[List.foldl_cons,List.foldl_nil,Int.add_zero,<-Int.sub_eq_add_neg]
theorem ysc(g:Gnd)(f:Nat->Int)(x y v:Int):zb9 g f x y v bwdW=m5 v (gv g f (x+1) y) (gv g f (x+1) (y+1)) (gv g f x (y+1)) (gv g f (x-1) (y+1)):=by
 unfold zb9 bwdW m5
 simp only[List.foldl_cons,List.foldl_nil,Int.add_zero,<-Int.sub_eq_add_neg]
def zh9(g:Gnd)(o:Nat->Bool):Nat->Int:=zaq g (ku g (fun t=>if o t then 128 else 0) g.T.length) g.T.length g.T.length
theorem yr6{g:Gnd}(hg:gndP g)(o:Nat->Bool){t:Nat}(ht:t<g.T.length)(s:Nat)(hs:s<=127):(s:Int)<zh9 g o t↔sqP g o s ((t:Int)%g.W) ((t:Int)/g.W):=by
 have hW:1<=g.W:=hg.1.1
 obtain⟨ho,he⟩:=zri hg ht
 have key:=cham (g:=g) (f:=o) (A:=gv g (ku g (fun t=>if o t then 128 else 0) g.T.length)) (B:=gv g (zh9 g o))
  (fun x y h=>if_neg h) (fun x y h=>if_neg h) (fun x y h=>?_) (fun x y h=>?_) ho s hs
 ·rw[<-key]
  unfold gv
  rw[if_pos ho,he]
 ·obtain⟨e1,e2,e3,e4⟩:=jr hg h
  have nb:∀dx dy:Int,(dy=-1\/dy=0/\dx=-1)->dx<=1->gv g (ku g (fun t=>if o t then 128 else 0) (tl g x y)) (x+dx) (y+dy)=gv g (ku g (fun t=>if o t then 128 else 0) g.T.length) (x+dx) (y+dy):=fun dx dy hd hx=>by
   unfold gv
   split
   ·rename_i h2
    obtain⟨f1,f2,f3,f4⟩:=jr hg h2
    have hlt:tl g (x+dx) (y+dy)<tl g x y:=by
     have hb:=h.1
     have hb2:=h2.1
     rcases hd with rfl|⟨rfl,rfl⟩
     ·have:g.W*(y+-1)=g.W*y-g.W:=by rw[Int.mul_add];omega
      rw[this]at f1
      have hne:(tl g (x+dx) (y+-1):Int)≠tl g x y:=fun e=>by
       rw[e,e4]at f4
       omega
      omega
     ·rw[Int.add_zero]at f1⊢
      omega
    rw[zee g _ _ _ hlt,zee g _ _ _ f2]
   ·rfl
  have h1:gv g (ku g (fun t=>if o t then 128 else 0) g.T.length) x y=zb9 g (ku g (fun t=>if o t then 128 else 0) (tl g x y)) x y (if o (tl g x y)then 128 else 0) fwdW:=by
   unfold gv
   rw[if_pos h,zee g _ _ _ e2]
   show setI _ _ _ _=_
   rw[zbb,e3,e4,zkh g _ _ _ (Nat.le_refl _)]
  rw[h1,ysd]
  have n1:=nb (-1) 0 (by omega) (by decide)
  have n2:=nb (-1) (-1) (by omega) (by decide)
  have n3:=nb 0 (-1) (by omega) (by decide)
  have n4:=nb 1 (-1) (by omega) (by decide)
  rw[Int.add_zero]at n1 n3
  rw[<-Int.sub_eq_add_neg]at n1 n2 n3 n4
  rw[<-Int.sub_eq_add_neg]at n2
  rw[n1,n2,n3,n4]
 ·obtain⟨e1,e2,e3,e4⟩:=jr hg h
  have hj:g.T.length-1-(g.T.length-1-tl g x y)=tl g x y:=by omega
  unfold zh9
  generalize hF:ku g (fun t=>if o t then 128 else 0) g.T.length=F
  have nb:∀dx dy:Int,(dy=1\/dy=0/\dx=1)->-1<=dx->gv g (zaq g F g.T.length (g.T.length-1-tl g x y)) (x+dx) (y+dy)=gv g (zaq g F g.T.length g.T.length) (x+dx) (y+dy):=fun dx dy hd hx=>by
   unfold gv
   split
   ·rename_i h2
    obtain⟨f1,f2,f3,f4⟩:=jr hg h2
    have hlt:tl g x y<tl g (x+dx) (y+dy):=by
     have hb:=h.1
     have hb2:=h2.1
     rcases hd with rfl|⟨rfl,rfl⟩
     ·have:g.W*(y+1)=g.W*y+g.W:=by rw[Int.mul_add];omega
      rw[this]at f1
      have hne:(tl g (x+dx) (y+1):Int)≠tl g x y:=fun e=>by
       rw[e,e4]at f4
       omega
      omega
     ·rw[Int.add_zero]at f1⊢
      omega
    rw[zed g _ _ _ _ f2 (by omega) (by omega),zed g _ _ _ _ f2 (Nat.le_refl _) (by omega)]
   ·rfl
  have h1:gv g (zaq g F g.T.length g.T.length) x y=zb9 g (zaq g F g.T.length (g.T.length-1-tl g x y)) x y (gv g F x y) bwdW:=by
   unfold gv
   rw[if_pos h,if_pos h,zed g _ _ _ _ e2 (Nat.le_refl _) (by omega)]
   show setI _ _ _ _=_
   rw[hj,zbb,e3,e4,zkg g _ _ _ _ (by omega)]
  rw[h1,ysc]
  have n1:=nb 1 0 (by omega) (by decide)
  have n2:=nb 1 1 (by omega) (by decide)
  have n3:=nb 0 1 (by omega) (by decide)
  have n4:=nb (-1) 1 (by omega) (by decide)
  rw[Int.add_zero]at n1 n3
  rw[<-Int.sub_eq_add_neg]at n4
  rw[n1,n2,n3,n4]
def sqB(g:Gnd)(f:Nat->Bool)(s:Nat)(x y:Int):Bool:=(List.range (2*s+1)).all fun a=>(List.range (2*s+1)).all fun b=>decide (onG g (x-s+a) (y-s+b))&&f (tl g (x-s+a) (y-s+b))
theorem zyo{g:Gnd}{f:Nat->Bool}{s:Nat}{x y:Int}:sqB g f s x y=true↔sqP g f s x y:=by
 unfold sqB
 rw[List.all_eq_true]
 constructor
 ·intro h a b h1 h2 h3 h4
  have h5:=h (a+s).toNat (List.mem_range.2 (by omega))
  rw[List.all_eq_true]at h5
  have h6:=h5 (b+s).toNat (List.mem_range.2 (by omega))
  rw[show x-s+((a+s).toNat:Int)=x+a by omega,show y-s+((b+s).toNat:Int)=y+b by omega,Bool.and_eq_true_iff]at h6
  exact⟨of_decide_eq_true h6.1,h6.2⟩
 ·intro h a ha
  have ha:=List.mem_range.1 ha
  rw[List.all_eq_true]
  intro b hb
  have hb:=List.mem_range.1 hb
  have:=h (a-s) (b-s) (by omega) (by omega) (by omega) (by omega)
  rw[show x-s+(a:Int)=x+(a-s) by omega,show y-s+(b:Int)=y+(b-s) by omega,Bool.and_eq_true_iff]
  exact⟨decide_eq_true this.1,this.2⟩
def zl(g:Gnd)(l:List Bld)(c s:Int)(t:Nat):Bool:=sqB g (yl g l c) s.toNat ((t:Int)%g.W) ((t:Int)/g.W)
theorem ybd{g:Gnd}(hg:gndP g)(l:List Bld)(c:Int){s:Int}(hs:0<=s/\s<=3){t:Nat}(ht:t<g.T.length):decide (s<zh9 g (yl g l c) t)=zl g l c s t:=by
 rw[Bool.eq_iff_iff,decide_eq_true_iff]
 unfold zl
 rw[zyo,<-yr6 hg _ ht _ (by omega)]
 omega
def zix(g:Gnd)(l:List Bld)(c s:Int):AV:=lst 1 zak (blL g.T.length (zl g l c s))
end Go.V
namespace Go.V
def dirL:List (Int×Int):=[(0,-1),(1,0),(0,1),(-1,0),(1,-1),(1,1),(-1,1),(-1,-1)]
def jj(g:Gnd)(x y:Int)(d:Int×Int):Int:=if onG g (x+d.1) (y+d.2)then x+d.1+g.W*(y+d.2)else -1
def vh(g:Gnd)(t:Nat):List Int:=dirL.map (jj g ((t:Int)%g.W) ((t:Int)/g.W))
theorem zae(g:Gnd)(t:Nat):(vh g t).length=8:=by simp[vh,dirL]
theorem zt2{g:Gnd}(hg:gndP g)(x y:Int)(d:Int×Int):jj g x y d=-1/\¬onG g (x+d.1) (y+d.2)\/onG g (x+d.1) (y+d.2)/\jj g x y d=(tl g (x+d.1) (y+d.2):Nat)/\tl g (x+d.1) (y+d.2)<g.T.length:=by
 unfold jj
 split
 ·rename_i h
  exact .inr ⟨h,(jr hg h).1.symm,(jr hg h).2.1⟩
 ·rename_i h
  exact .inl ⟨rfl,h⟩
theorem zos{g:Gnd}(hg:gndP g){t:Nat}{u:Int}(h:u∈vh g t):u=-1\/∃m:Nat,u=m/\m<g.T.length:=by
 unfold vh at h
 obtain⟨d,_,rfl⟩:=List.mem_map.1 h
 rcases zt2 hg ((t:Int)%g.W) ((t:Int)/g.W) d with⟨q1,_⟩|⟨_,q2,q3⟩
 ·exact .inl q1
 ·exact .inr ⟨_,q2,q3⟩
def sqT(g:Gnd)(o:Nat->Bool)(r t:Nat):Bool:=sqB g o r ((t:Int)%g.W) ((t:Int)/g.W)
theorem sqT_iff{g:Gnd}{o:Nat->Bool}{r t:Nat}:sqT g o r t=true↔sqP g o r ((t:Int)%g.W) ((t:Int)/g.W):=zyo
theorem yj9{g:Gnd}(hg:gndP g)(o:Nat->Bool){t:Nat}(ht:t<g.T.length):sqT g o 0 t=o t:=by
 rw[Bool.eq_iff_iff,sqT_iff,sq_zero]
 obtain⟨h1,h2⟩:=zri hg ht
 rw[h2]
 exact⟨fun h=>h.2,fun h=>⟨h1,h⟩⟩
theorem zl0{g:Gnd}{o:Nat->Bool}{r s t:Nat}(h:s<=r)(hi:sqT g o r t=true):sqT g o s t=true:=sqT_iff.2 (zqv h (sqT_iff.1 hi))
theorem yuo{g:Gnd}(hg:gndP g){o:Nat->Bool}{r t:Nat}(h:sqT g o r t=true):r<=63:=by
 have:=yq7 (sqT_iff.1 h)
 have:=hg.1.2
 omega
def okB(g:Gnd)(o:Nat->Bool)(r:Nat)(u:Int):Bool:=decide (0<=u)&&sqT g o r u.toNat
theorem zz6{g:Gnd}(hg:gndP g){o:Nat->Bool}{r:Nat}{x y:Int}{d:Int×Int}:okB g o r (jj g x y d)=true↔onG g (x+d.1) (y+d.2)/\sqP g o r (x+d.1) (y+d.2):=by
 unfold okB
 rw[Bool.and_eq_true_iff]
 rcases zt2 hg x y d with⟨h1,h2⟩|⟨h1,h2,h3⟩
 ·rw[h1]
  exact⟨fun h=>absurd (of_decide_eq_true h.1) (by decide),fun h=>absurd h.1 h2⟩
 ·obtain⟨_,_,e3,e4⟩:=jr hg h1
  rw[h2,Int.toNat_natCast,sqT_iff,e3,e4]
  exact⟨fun h=>⟨h1,h.2⟩,fun h=>⟨decide_eq_true (by omega),h.2⟩⟩
theorem ysx{a b:Int}(h1:-1<=a)(h2:a<=1)(h3:-1<=b)(h4:b<=1):(a=0/\b=0)\/(a,b)∈dirL:=by
 have ha:a=-1\/a=0\/a=1:=by omega
 have hb:b=-1\/b=0\/b=1:=by omega
 rcases ha with rfl|rfl|rfl<;>rcases hb with rfl|rfl|rfl<;>first|exact .inl ⟨rfl,rfl⟩|exact .inr (by decide)
theorem yka{g:Gnd}(hg:gndP g){o:Nat->Bool}{r t:Nat}(ht:t<g.T.length):sqT g o (r+1) t=(sqT g o r t&&(vh g t).all (okB g o r)):=by
 rw[Bool.eq_iff_iff,Bool.and_eq_true_iff,sqT_iff,sqT_iff,sq_succ,List.all_eq_true]
 unfold vh
 constructor
 ·intro h
  refine⟨by have:=(h 0 0 (by decide) (by decide) (by decide) (by decide)).2;simpa using this,fun u hu=>?_⟩
  obtain⟨d,hd,rfl⟩:=List.mem_map.1 hu
  refine(zz6 hg).2 ?_
  have:∀d∈dirL,(-1<=d.1/\d.1<=1)/\(-1<=d.2/\d.2<=1):=by decide
  have:=this d hd
  exact h d.1 d.2 this.1.1 this.1.2 this.2.1 this.2.2
 ·rintro⟨h0,h⟩ a b h1 h2 h3 h4
  rcases ysx h1 h2 h3 h4 with⟨rfl,rfl⟩|hd
  ·rw[Int.add_zero,Int.add_zero]
   exact⟨(zri hg ht).1,h0⟩
  ·exact(zz6 hg).1 (h _ (List.mem_map.2 ⟨(a,b),hd,rfl⟩))
def zg4(g:Gnd)(o:Nat->Bool)(r i:Nat)(f:Nat->Int):Prop:=∀t,t<g.T.length->0<=f t/\f t<=((if t<i then r+1 else r:Nat):Int)/\∀s:Nat,s<(if t<i then r+1 else r)->((s:Int)<f t↔sqT g o s t=true)
theorem zwq(g:Gnd)(o:Nat->Bool):zg4 g o 0 0 fun _=>0:=fun t _=>⟨Int.le_refl _,by simp,fun s hs=>absurd hs (by simp)⟩
theorem zwr{g:Gnd}{o:Nat->Bool}{r:Nat}{f:Nat->Int}(h:zg4 g o r g.T.length f):zg4 g o (r+1) 0 f:=fun t ht=>by
 have:=h t ht
 rw[if_pos ht]at this
 rw[if_neg (Nat.not_lt_zero t)]
 exact this
theorem ysp{g:Gnd}{o:Nat->Bool}{r i:Nat}{f:Nat->Int}(h:zg4 g o r i f){t:Nat}(ht:t<g.T.length):0<=f t/\f t<=r+1:=by
 have:=h t ht
 split at this<;>omega
theorem ymz{g:Gnd}{o:Nat->Bool}{r t:Nat}{f:Nat->Int}(h:zg4 g o r t f)(hn:sqT g o r t=false):zg4 g o r (t+1) f:=fun s hs=>by
 have h1:=h s hs
 by_cases e:s=t
 ·subst e
  rw[if_neg (Nat.lt_irrefl s)]at h1
  rw[if_pos (by omega)]
  refine⟨h1.1,by omega,fun q hq=>?_⟩
  by_cases e2:q=r
  ·subst e2
   rw[hn]
   exact⟨fun hh=>by omega,fun hh=>by cases hh⟩
  ·exact h1.2.2 q (by omega)
 ·by_cases e2:s<t
  ·rw[if_pos e2]at h1
   rw[if_pos (by omega)]
   exact h1
  ·rw[if_neg e2]at h1
   rw[if_neg (by omega)]
   exact h1
theorem yba{g:Gnd}{o:Nat->Bool}{r t:Nat}{f:Nat->Int}(h:zg4 g o r t f)(ht:t<g.T.length)(hn:sqT g o r t=true):zg4 g o r (t+1) (setI f t (f t+1)):=fun s hs=>by
 have h1:=h s hs
 by_cases e:s=t
 ·subst e
  rw[if_neg (Nat.lt_irrefl s)]at h1
  rw[if_pos (by omega),zbb]
  have hr:f s=r:=by
   by_cases e0:r=0
   ·subst e0;have:=h1.1;have:=h1.2.1;omega
   ·have:=(h1.2.2 (r-1) (by omega)).2 (zl0 (by omega) hn)
    have:=h1.2.1
    omega
  rw[hr]
  refine⟨by omega,by omega,fun q hq=>⟨fun _=>zl0 (by omega) hn,fun _=>by omega⟩⟩
 ·rw[zdy _ _ e]
  by_cases e2:s<t
  ·rw[if_pos e2]at h1
   rw[if_pos (by omega)]
   exact h1
  ·rw[if_neg e2]at h1
   rw[if_neg (by omega)]
   exact h1
def ymy(g:Gnd)(o:Nat->Bool)(f:Nat->Int):Prop:=∀t,t<g.T.length->∀s:Nat,(s:Int)<f t↔sqT g o s t=true
theorem ybb{g:Gnd}{o:Nat->Bool}{r:Nat}{f:Nat->Int}(h:zg4 g o r 0 f)(hn:∀t,t<g.T.length->sqT g o r t=false):ymy g o f:=fun t ht s=>by
 have h1:=h t ht
 rw[if_neg (Nat.not_lt_zero t)]at h1
 by_cases e:s<r
 ·exact h1.2.2 s e
 ·constructor
  ·intro hh;have:=h1.2.1;omega
  ·intro hh
   have:=zl0 (s:=r) (by omega) hh
   rw[hn t ht]at this
   cases this
theorem zwp{g:Gnd}{l:List Bld}{c:Int}{f:Nat->Int}(h:ymy g (yl g l c) f){s:Int}(hs:0<=s){t:Nat}(ht:t<g.T.length):decide (s<f t)=zl g l c s t:=by
 rw[Bool.eq_iff_iff,decide_eq_true_iff]
 have:=h t ht s.toNat
 rw[show((s.toNat:Nat):Int)=s by omega]at this
 exact this
def nxF(g:Gnd)(o:Nat->Bool)(r t:Nat)(v:Bool)(s:Nat):Bool:=if s<t then sqT g o (r+1) s else(decide (s=t)&&v)
def zfz(g:Gnd)(o:Nat->Bool)(r t:Nat):Bool:=(List.range t).any (sqT g o (r+1))
theorem zwe(g:Gnd)(o:Nat->Bool)(r t:Nat):zfz g o r (t+1)=(zfz g o r t||sqT g o (r+1) t):=by
 unfold zfz
 rw[List.range_succ,List.any_append]
 simp
theorem yml(g:Gnd)(o:Nat->Bool)(r:Nat):nxF g o r 0 false=fun _=>false:=funext fun s=>by
 unfold nxF
 rw[if_neg (Nat.not_lt_zero s),Bool.and_false]
theorem zty(g:Gnd)(o:Nat->Bool)(r t:Nat):nxF g o r t (sqT g o (r+1) t)=nxF g o r (t+1) false:=funext fun s=>by
 unfold nxF
 by_cases h:s<t
 ·rw[if_pos h,if_pos (by omega)]
 ·rw[if_neg h]
  by_cases e:s=t
  ·subst e
   rw[if_pos (by omega)];simp
  ·rw[if_neg (by omega)];simp[e]
theorem yse(g:Gnd)(o:Nat->Bool)(r n:Nat):∀t,t<n->nxF g o r n false t=sqT g o (r+1) t:=fun t ht=>if_pos ht
theorem ztz(g:Gnd)(o:Nat->Bool)(r t:Nat)(v:Bool):nxF g o r t v t=v:=by
 unfold nxF
 rw[if_neg (Nat.lt_irrefl t)];simp
theorem ytx(g:Gnd)(o:Nat->Bool)(r t:Nat)(v u:Bool){s:Nat}(h:s≠t):nxF g o r t v s=nxF g o r t u s:=by
 unfold nxF
 split
 ·rfl
 ·simp[h]
end Go.V
namespace Go.V
def besN(g:Gnd)(t way:Nat):Int:=(vh g t).getD way (-1)
def zi9(g:Gnd)(c:Int)(t:Nat):Int:=zb8 c (g.T.getD t 5).toNat
def zai(ok:Nat->Bool)(u:Int):Bool:=decide (0<=u)&&ok u.toNat
def zl3(way:Nat):Nat:=way-4
def zl2(way:Nat):Nat:=(way-3)%4
def y9(g:Gnd)(ok:Nat->Bool)(c:Int)(t way:Nat):Int:=
 if zai ok (besN g t way)then
  (if way<4 then 5*(zi9 g c t+zi9 g c (besN g t way).toNat)
   else if zai ok (besN g t (zl3 way))/\zai ok (besN g t (zl2 way))then 7*(zi9 g c t+zi9 g c (besN g t way).toNat)else 0)
 else 0
def j7(g:Gnd)(ok:Nat->Bool)(c:Int)(t u:Nat)(k:Int):Prop:=ok t=true/\t<g.T.length/\∃way,way<8/\besN g t way=(u:Int)/\ok u=true/\k=y9 g ok c t way/\0<k
theorem zdd{g:Gnd}{ok:Nat->Bool}{c:Int}:∀t u k,j7 g ok c t u k->0<k:=fun t u k h=>by
 obtain⟨_,_,w,_,_,_,_,h⟩:=h
 exact h
theorem zuk{g:Gnd}(hg:gndP g){t way:Nat}(hw:way<8):besN g t way=-1\/∃u:Nat,besN g t way=u/\u<g.T.length:=by
 unfold besN
 have h8:way<(vh g t).length:=by rw[zae];exact hw
 rw[List.getD_eq_getElem?_getD,List.getElem?_eq_getElem h8]
 exact zos hg (List.getElem_mem h8)
theorem zml{ok:Nat->Bool}{u:Int}(h:zai ok u=true):0<=u/\ok u.toNat=true:=by
 unfold zai at h
 simpa using h
theorem zfm{g:Gnd}{ok:Nat->Bool}{c:Int}{t way:Nat}(h:y9 g ok c t way≠0):zai ok (besN g t way)=true:=by
 unfold y9 at h
 split at h
 ·assumption
 ·exact absurd rfl h
theorem zuh{g:Gnd}{ok:Nat->Bool}{c:Int}{t way:Nat}(ht:ok t=true)(htl:t<g.T.length)(hw:way<8)(h:0<y9 g ok c t way):j7 g ok c t (besN g t way).toNat (y9 g ok c t way):=by
 obtain⟨h1,h2⟩:=zml (zfm (g:=g) (ok:=ok) (c:=c) (t:=t) (way:=way) (by omega))
 exact⟨ht,htl,way,hw,by omega,h2,rfl,h⟩
theorem j1(c:Int)(t:Nat):0<=zb8 c t/\zb8 c t<=6:=by
 have h:∀l∈[[2,1,3,5,0,0],[2,1,6,0,0,0],[2,1,0,3,2,0]],∀t:Nat,0<=(l:List Int).getD t 0/\(l:List Int).getD t 0<=6:=by
  intro l hl t
  simp only[List.mem_cons,List.not_mem_nil,or_false]at hl
  by_cases h6:t<6
  ·have:t=0\/t=1\/t=2\/t=3\/t=4\/t=5:=by omega
   rcases hl with rfl|rfl|rfl<;>rcases this with rfl|rfl|rfl|rfl|rfl|rfl<;>decide
  ·rcases hl with rfl|rfl|rfl<;>(rw[List.getD_eq_getElem?_getD,List.getElem?_eq_none (by simp;omega)];decide)
 unfold zb8
 split
 ·exact h _ (by simp) t
 ·split
  ·exact h _ (by simp) t
  ·exact h _ (by simp) t
theorem zly(g:Gnd)(ok:Nat->Bool)(c:Int)(t way:Nat):0<=y9 g ok c t way/\y9 g ok c t way<=84:=by
 have h1:=j1 c (g.T.getD t 5).toNat
 have h2:=j1 c (g.T.getD (besN g t way).toNat 5).toNat
 unfold y9 zi9
 split
 ·split
  ·omega
  ·split<;>omega
 ·omega
open Classical in
noncomputable def farF(g:Gnd)(ok:Nat->Bool)(c:Int)(goal:Nat):Nat->Int:=
 if ok goal=true then(if h:∃d,FarOK (j7 g ok c) goal d then h.choose else fun _=>-1)else fun _=>-1
theorem zr5{g:Gnd}{ok:Nat->Bool}{c:Int}{goal:Nat}(hok:ok goal=true){d:Nat->Int}(h:FarOK (j7 g ok c) goal d):farF g ok c goal=d:=by
 unfold farF
 rw[if_pos hok]
 have hx:∃d,FarOK (j7 g ok c) goal d:=⟨d,h⟩
 rw[dif_pos hx]
 exact ysr zdd hx.choose_spec h
theorem ybu{g:Gnd}{ok:Nat->Bool}{c:Int}{goal:Nat}(hok:ok goal=false):farF g ok c goal=fun _=>-1:=by
 unfold farF
 rw[if_neg (by simp[hok])]
noncomputable def wayF(g:Gnd)(ok:Nat->Bool)(c:Int)(d:Nat->Int)(t:Nat):Int:=
 if d t<=0 then -1 else match(List.range 8).find? fun way=>decide (0<y9 g ok c t way/\0<=d (besN g t way).toNat/\y9 g ok c t way+d (besN g t way).toNat=d t)with
  |some way=>(way:Int)
  |none=>-1
end Go.V
namespace Go.V
theorem zpa{F N S:Store}(hd:Disj F N):((F.un N).un S).Has (F.un S):=by
 refine⟨fun b y h=>?_,fun b x h=>?_⟩
 ·rcases yn0 h with h1|⟨h1,h2⟩
  ·exact un_r h1
  ·have h3:(F.un N).obj b=some y:=un_l hd h2
   show(match S.obj b with|some y=>some y|none=>(F.un N).obj b)=some y
   rw[h1];exact h3
 ·rcases ynz h with h1|⟨h1,h2⟩
  ·exact zns h1
  ·have h3:(F.un N).tok b=some x:=zyb hd h2
   show(match S.tok b with|some y=>some y|none=>(F.un N).tok b)=some x
   rw[h1];exact h3
theorem xe{l:List Unt}(hr:yh l){a b:Nat}(hab:a<b)(hb:b<l.length):(l[a]'(by omega)).id<l[b].id:=by
 induction b with
 |zero=>omega
 |succ b ih=>
  have h3:=hr (b+1) hb (by omega)
  simp only[Nat.add_sub_cancel]at h3
  by_cases e:a=b
  ·subst e;exact h3
  ·have:=ih (by omega) (by omega)
   omega
theorem vf{l:List Unt}(hr:yh l){u v:Unt}(hu:u∈l)(hv:v∈l)(h:u.id=v.id):u=v:=by
 obtain⟨a,ha,rfl⟩:=List.getElem_of_mem hu
 obtain⟨b,hb,rfl⟩:=List.getElem_of_mem hv
 rcases Nat.lt_trichotomy a b with q|q|q
 ·have:=xe hr q hb;omega
 ·subst q;rfl
 ·have:=xe hr q ha;omega
def zab(w:Wld)(L:List Ent):Prop:=∀e,e∈L↔∃u∈w.U,u.inn=0/\e=(u.id,u.pos)
theorem zfr{w:Wld}{L:List Ent}(h:zab w L)(hn:∀u∈w.U,u.pos.ok):∀e∈L,e.2.ok:=fun e he=>by
 obtain⟨u,hu,_,rfl⟩:=(h e).1 he
 exact hn u hu
def zrj(w:Wld)(p:Vc)(r:Int)(us:List Unt):Prop:=∀u,u∈us↔(u∈w.U/\u.inn=0)/\near p u.pos r=true
theorem zt1{w:Wld}{L:List Ent}(hr:yh w.U)(hL:zab w L){p:Vc}{r:Int}{ns:List Int}(hn:zqj L p r ns){us:List Unt}(h1:us.map (·.id)=ns)(h2:∀u∈us,u∈w.U/\u.inn=0):zrj w p r us:=by
 intro u
 constructor
 ·intro hu
  refine⟨h2 u hu,?_⟩
  have:u.id∈ns:=by rw[<-h1];exact List.mem_map.2 ⟨u,hu,rfl⟩
  obtain⟨e,he,h3,h4⟩:=(hn.2 _).1 this
  obtain⟨v,hv,_,rfl⟩:=(hL e).1 he
  rw[vf hr (h2 u hu).1 hv h3.symm]
  exact h4
 ·rintro⟨⟨h3,h4⟩,h5⟩
  have:u.id∈ns:=(hn.2 _).2 ⟨(u.id,u.pos),(hL _).2 ⟨u,h3,h4,rfl⟩,rfl,h5⟩
  rw[<-h1]at this
  obtain⟨v,hv,h6⟩:=List.mem_map.1 this
  rw[vf hr h3 (h2 v hv).1 h6.symm]
  exact hv
theorem zb5(k:Int):0<kRad k/\kRad k<=81920:=by unfold kRad;split<;>(try split)<;>omega
theorem zis(k:Int):kCls k=0\/kCls k=1\/kCls k=2:=by unfold kCls;split<;>(try split)<;>(try split)<;>omega
theorem zor{a b:Vc}{r r':Int}(h:r<=r')(hn:near a b r=true):near a b r'=true:=by
 unfold near at*
 rw[decide_eq_true_iff]at*
 have:r*r<=r'*r':=Int.mul_le_mul h h (by omega) (by omega)
 omega
theorem zp2{w:Wld}{id k:Int}{q:Vc}{us:List Unt}(hf:zg5 w.G w.B (kCls k) q (kRad k))(hus:zrj w q (kRad k+81920) us):
  yv w id k q↔∀u∈us,u.id≠id->zam q (kRad k) u.pos (kRad u.kind)=true:=by
 constructor
 ·intro h u hu hne
  have:=(hus u).1 hu
  exact h.2 u this.1.1 this.1.2 hne
 ·intro h
  refine⟨hf,fun u hu h0 hne=>?_⟩
  unfold zam
  cases hc:near q u.pos (kRad k+kRad u.kind)with
  |false=>rfl
  |true=>
   have h1:=zor (r':=kRad k+81920) (by have:=zb5 u.kind;omega) hc
   have:=h u ((hus u).2 ⟨⟨hu,h0⟩,h1⟩) hne
   unfold zam at this
   rw[hc]at this
   exact this
end Go.V
namespace Go.V
def entI{α:Type}(f:α->AV)(e:Int×α):AV×AV:=(int e.1,f e.2)
def getI{α:Type}(cs:List (Int×α))(k:Int):Option α:=(cs.find? fun e=>k==e.1).map (·.2)
def putI{α:Type}:List (Int×α)->Int->α->List (Int×α)
 |[],k,v=>[(k,v)]
 |e::l,k,v=>if k==e.1 then(k,v)::l else e::putI l k v
theorem zpp{α:Type}(f:α->AV)(cs:List (Int×α))(k:Int):(cs.map (entI f)).find? (qA k)=(cs.find? fun e=>k==e.1).map (entI f):=by
 rw[List.find?_map];rfl
theorem vp{α:Type}(f:α->AV)(cs:List (Int×α))(k:Int)(z:AV):zdp false z ((cs.map (entI f)).find? (qA k))=((getI cs k).map f).getD z:=by
 rw[zpp]
 unfold getI
 cases cs.find? fun e=>k==e.1 with
 |none=>rfl
 |some e=>rfl
theorem zoi{α:Type}(f:α->AV)(k:Int)(v:α):∀cs:List (Int×α),
  (match(cs.map (entI f)).findIdx? (qA k)with|some i=>(cs.map (entI f)).set i (int k,f v)|none=>cs.map (entI f)++[(int k,f v)])=(putI cs k v).map (entI f)
 |[]=>rfl
 |e::l=>by
  have ih:=zoi f k v l
  rw[List.map_cons,List.findIdx?_cons]
  unfold putI
  by_cases h:k==e.1
  ·have h2:qA k (entI f e)=true:=h
   rw[h2]
   simp only[h,if_true,List.set_cons_zero,List.map_cons]
   rfl
  ·have h:(k==e.1)=false:=by simpa using h
   have h2:qA k (entI f e)=false:=h
   rw[h2]
   simp only[h,if_false,List.map_cons]
   cases hx:(l.map (entI f)).findIdx? (qA k)with
   |none=>rw[hx]at ih;simp at ih⊢;exact ih
   |some i=>rw[hx]at ih;simp at ih⊢;exact ih
theorem ju{α:Type}(f:α->AV)(cs:List (Int×α))(bs:List Nat)(clk:Nat)(k:Int)(v:α):∃bs' clk',jk (cs.map (entI f)) bs clk (qA k) (int k) (f v)=.map ((putI cs k v).map (entI f)) bs' clk':=by
 have h:=zoi f k v cs
 unfold jk
 cases hx:(cs.map (entI f)).findIdx? (qA k)with
 |none=>rw[hx]at h;exact⟨_,_,by rw[<-h]⟩
 |some i=>rw[hx]at h;exact⟨_,_,by rw[<-h]⟩
theorem js{α:Type}(k:Int)(v:α)(j:Int):∀cs:List (Int×α),getI (putI cs k v) j=if j=k then some v else getI cs j
 |[]=>by
  unfold putI getI
  by_cases h:j=k<;>simp[h]
 |e::l=>by
  have ih:=js k v j l
  unfold getI at ih⊢
  by_cases h:k=e.1
  ·have h1:(k==e.1)=true:=by simpa using h
   rw[show putI (e::l) k v=(k,v)::l by unfold putI;simp[h1]]
   by_cases h2:j=k
   ·simp[h2]
   ·have e1:(j==k)=false:=by simpa using h2
    have e2:(j==e.1)=false:=by rw[<-h];exact e1
    rw[List.find?_cons,List.find?_cons,if_neg h2]
    simp only[e1,e2]
  ·have h1:(k==e.1)=false:=by simpa using h
   rw[show putI (e::l) k v=e::putI l k v by rw[putI];simp[h1]]
   rw[List.find?_cons,List.find?_cons]
   by_cases h2:j=e.1
   ·have e1:(j==e.1)=true:=by simpa using h2
    simp only[e1]
    rw[if_neg (by omega)]
   ·have e1:(j==e.1)=false:=by simpa using h2
    simp only[e1]
    exact ih
end Go.V
namespace Go.V
theorem zcr{l:List Unt}{i:Nat}(hi:i<l.length)(id:Int):((inOf (l.take (i+1)) id).length:Int)=((inOf (l.take i) id).length:Int)+(if l[i].inn=id then 1 else 0):=by
 unfold inOf
 rw[List.take_succ_eq_append_getElem hi,List.filter_append,List.map_append,List.length_append]
 by_cases h:l[i].inn=id
 ·simp[h]
 ·simp[h]
theorem zrw{l:List Unt}(i:Nat)(id:Int):(inOf (l.take i) id).length<=(inOf l id).length:=by
 have h:(inOf l id).length=(inOf (l.take i) id).length+(inOf (l.drop i) id).length:=by
  unfold inOf
  rw[<-List.length_append,<-List.map_append,<-List.filter_append,List.take_append_drop]
 omega
def zze(w:Wld)(i:Nat):Prop:=
 (∀j,(h:j<w.U.length)->j<i->w.U[j].inn≠0->∃x∈w.U,x.id=w.U[j].inn/\(x.inn=0/\x.owner=w.U[j].owner)/\zbj w.U[j].kind=0/\w.U[j].pos=(0,0)/\w.U[j].goal=-1/\w.U[j].state=0)∧
 ∀x∈w.U,x.id≠0->((inOf (w.U.take i) x.id).length:Int)<=zbj x.kind
theorem zvq{w:Wld}(h:zze w w.U.length):∀u∈w.U,u.inn≠0->zdl w u:=by
 intro u hu hne
 obtain⟨j,hj,rfl⟩:=List.getElem_of_mem hu
 obtain⟨x,hx,h1,h2,h3,h4,h5,h6⟩:=h.1 j hj hj hne
 have:=h.2 x hx (by rw[h1];exact hne)
 rw[List.take_length,h1]at this
 exact⟨x,hx,h1,h2,this,h3,h4,h5,h6⟩
theorem zrq(k:Int):0<=zbj k/\zbj k<=4:=by unfold zbj;split<;>(try split)<;>(try split)<;>omega
end Go.V
namespace Go.V
def znr(w:Wld)(i:Nat):Prop:=∀j,(h:j<w.U.length)->j<i->(untP w w.U[j]/\∀b∈w.B,b.id≠w.U[j].id)/\(0<j->(w.U[j-1]'(by omega)).id<w.U[j].id)
theorem znq{w:Wld}(h:znr w w.U.length):zdv w:=by
 refine⟨fun j hj h0=>(h j hj hj).2 h0,fun u hu=>?_⟩
 obtain⟨j,hj,rfl⟩:=List.getElem_of_mem hu
 exact(h j hj hj).1
theorem zs1{w:Wld}(h:zdv w)(i:Nat):znr w i:=fun j hj _=>⟨h.2 _ (List.getElem_mem hj),h.1 j hj⟩
end Go.V
namespace Go.V
def RowsO{α:Type}(k:Nat)(f:α->List AV)(st:Store)(v:AV)(l:List α):Prop:=
 (v=.s (.slice none 0 0)/\l=[])\/∃b cap L,v=.s (.slice (some ⟨b,0,none⟩) l.length cap)/\st.obj b=some (.cells ((rws f l).flatten++L))/\l.length<=cap/\cap*k<=l.length*k+L.length/\cap<=9223372036854775807
section
variable {α:Type} {f:α->List AV} {k:Nat}
theorem qp(hf:∀x,(f x).length=k)(l:List α):(rws f l).flatten.length=l.length*k:=by
 induction l with
 |nil=>simp[rws]
 |cons a l ih=>
  show(f a++(rws f l).flatten).length=(l.length+1)*k
  rw[List.length_append,hf,ih,Nat.succ_mul];omega
theorem zcg(a b:List α):(rws f (a++b)).flatten=(rws f a).flatten++(rws f b).flatten:=by
 rw[<-zy3,List.flatten_append]
theorem zek{l:List α}{i:Nat}(hi:i<l.length):(rws f l).flatten=(rws f (l.take i)).flatten++(f l[i]++(rws f (l.drop (i+1))).flatten):=by
 have e:l=l.take i++(l[i]::l.drop (i+1)):=by
  rw[<-List.drop_eq_getElem_cons hi,List.take_append_drop]
 have e2:(rws f (l[i]::l.drop (i+1))).flatten=f l[i]++(rws f (l.drop (i+1))).flatten:=rfl
 rw[<-e2,<-zcg,<-e]
theorem zqw{X Y ys:List AV}{j:Nat}(h:j+ys.length<=X.length):zo (X++Y) j ys=zo X j ys++Y:=by
 unfold zo
 rw[List.take_append_of_le_length (by omega),List.drop_append_of_le_length (by omega)]
 simp only[List.append_assoc]
theorem zbo(hf:∀x,(f x).length=k){l:List α}{i j:Nat}(hi:i<l.length){x':α}{ys L:List AV}(hj:j+ys.length<=k)(hx:f x'=zo (f l[i]) j ys):
  zo ((rws f l).flatten++L) (i*k+j) ys=(rws f (l.set i x')).flatten++L:=by
 have h1:(rws f (l.take i)).flatten.length=i*k:=by rw[qp hf,List.length_take,Nat.min_eq_left (by omega)]
 have hi2:i<(l.set i x').length:=by rw[List.length_set];exact hi
 rw[zek hi,zek hi2,List.append_assoc,List.append_assoc,<-h1,zh0]
 have e1:(l.set i x').take i=l.take i:=by rw[List.take_set_of_le (Nat.le_refl i)]
 have e2:(l.set i x').drop (i+1)=l.drop (i+1):=by rw[List.drop_set_of_lt (by omega)]
 rw[e1,e2,List.getElem_set_self,hx]
 have h3:=hf l[i]
 rw[List.append_assoc,zqw (by omega)]
 simp only[List.append_assoc]
theorem RowsO.un{a g:Store}{v:AV}{l:List α}(h:RowsO k f g v l):RowsO k f (a.un g) v l:=by
 rcases h with h|⟨b1,cap,L,h1,h2,h3⟩
 ·exact .inl h
 ·exact .inr ⟨b1,cap,L,h1,un_r h2,h3⟩
theorem RowsO.unL{a g:Store}{v:AV}{l:List α}(h:RowsO k f a v l)(hd:Disj a g):RowsO k f (a.un g) v l:=by
 rcases h with h|⟨b1,cap,L,h1,h2,h3⟩
 ·exact .inl h
 ·exact .inr ⟨b1,cap,L,h1,un_l hd h2,h3⟩
theorem RowsO.at{st:Store}{v:AV}{l:List α}(h:RowsO k f st v l){i:Nat}(hi:i<l.length):
  ∃b cap L,v=.s (.slice (some ⟨b,0,none⟩) l.length cap)/\st.obj b=some (.cells ((rws f l).flatten++L))/\l.length<=cap/\cap*k<=l.length*k+L.length/\cap<=9223372036854775807:=by
 rcases h with⟨_,rfl⟩|h
 ·exact absurd hi (Nat.not_lt_zero i)
 ·exact h
theorem RowsO.borrow{st:Store}{v:AV}{l:List α}(hf:∀x,(f x).length=k)(hs:∀x,∀y∈f x,∃u,y=AV.s u/\yd u=true)(hv:RowsO k f st v l){Oth M:Nat->Nat->Prop}{w:World}(sto:StoreOK st Oth M w){x:Value}(hx:VRel w (fun b o=>M b o\/Oth b o) v x):
  VRel w (fun b o=>(M b o\/Oth b o)/\st.obj b=none) (lst k f l) x:=by
 rcases hv with⟨rfl,rfl⟩|⟨b,cap,L,rfl,ho,h1,h2,h3⟩
 ·cases hx
  exact AV.le_nil k _ _ _ (.s _)
 ·cases hx
  exact zlh (sto.obj b _ ho).1 (fun o hT=>by rw[ho]at hT;exact absurd hT.2 (by simp)) (zk l) h1
   (fun row hr=>by obtain⟨n,_,rfl⟩:=List.mem_map.1 hr;exact hf n) (fun row hr y hy=>by
    obtain⟨n,_,rfl⟩:=List.mem_map.1 hr
    exact hs n y hy)
theorem zm7{P:Program}{c:Cfg}{e:TypeId}{ie:TI}(hie:c.I e=some ie)(hf:∀x,(f x).length=ie.size)(hby:ie.bytes<=1000){st:Store}{v:AV}{l:List α}(hv:RowsO ie.size f st v l)(x:α){src:AV}(hsrc:xc ie.size (.av src)=some [f x])(hlen:l.length<=1000000000){K:AV->Store->Prop}
  (h:∀b cap L,(Fresh st b\/∃c0,v=.s (.slice (some ⟨b,0,none⟩) l.length c0))->(l++[x]).length<=cap->cap*ie.size<=(l++[x]).length*ie.size+L.length->cap<=9223372036854775807->
   K (.s (.slice (some ⟨b,0,none⟩) (l++[x]).length cap)) (st.setObj b (.cells ((rws f (l++[x])).flatten++L)))):appendK P c st e (.av v) (.av src) K:=by
 refine⟨.inr ⟨v,_,rfl,rfl,?_⟩⟩
 have hl:(l++[x]).length=l.length+1:=by simp
 have hfl:=qp hf l
 have hmul:(l.length+1)*ie.bytes<=1000000001*1000:=Nat.mul_le_mul (by omega) hby
 have happ:(rws f (l++[x])).flatten=(rws f l).flatten++f x:=by
  rw[zcg]
  show _++(f x++[])=_
  rw[List.append_nil]
 rcases hv with⟨rfl,rfl⟩|⟨b,cap,L,rfl,ho,h1,h2,h3⟩
 ·refine zuo hie hsrc ⟨by simp at hmul⊢;omega,by simp⟩ (by simp) (fun b' cap' hb hc hc2=>?_)
  have:=h b' cap' (List.replicate ((cap'-[f x].length)*ie.size) .any) (.inl hb) (by simpa using hc) (by
   simp only[List.length_replicate,List.nil_append,List.length_singleton,<-Nat.add_mul]
   exact Nat.mul_le_mul_right _ (by omega)) hc2
  exact this
 ·refine zun hie (cap:=cap) ho (by rw[List.length_append,hfl];exact h2) h1 hsrc ⟨by simp;omega,by simp;omega⟩ (fun hc=>?_) (fun hc b' cap' hb hc1 hc2=>?_)
  ·have hc:l.length+1<=cap:=hc
   have hcm:(l.length+1)*ie.size<=cap*ie.size:=Nat.mul_le_mul_right _ hc
   rw[Nat.succ_mul]at hcm
   have e1:zo ((rws f l).flatten++L) (l.length*ie.size) [f x].flatten=(rws f (l++[x])).flatten++L.drop ie.size:=by
    rw[wz hfl,happ]
    simp[hf x]
   have:=h b cap (L.drop ie.size) (.inr ⟨cap,rfl⟩) (by omega) (by rw[hl,Nat.succ_mul,List.length_drop];omega) h3
   rw[hl,<-e1]at this
   exact this
  ·have hc1:l.length+1<=cap':=hc1
   have e1:((rws f l).flatten++L).take (l.length*ie.size)++[f x].flatten++List.replicate ((cap'-(l.length+1))*ie.size) .any=(rws f (l++[x])).flatten++List.replicate ((cap'-(l.length+1))*ie.size) .any:=by
    rw[List.take_append_of_le_length (by omega),List.take_of_length_le (by omega),happ]
    simp
   have:=h b' cap' (List.replicate ((cap'-(l.length+1))*ie.size) .any) (.inl hb) (by omega) (by
    rw[hl,List.length_replicate,<-Nat.add_mul]
    exact Nat.mul_le_mul_right _ (by omega)) hc2
   rw[hl,<-e1]at this
   exact this
end
theorem qf(u:Unt):(untC u).length=10:=rfl
theorem yny(u:Unt):∀y∈untC u,∃x,y=AV.s x/\yd x=true:=by
 intro y hy
 simp[untC]at hy
 rcases hy with rfl|rfl|rfl|rfl|rfl|rfl|rfl|rfl|rfl|rfl<;>exact⟨_,rfl,rfl⟩
def wldV(w:Wld)(v:AV):List AV:=[int w.tick,int w.players,int w.next,int w.G.W,int w.G.H,byts w.G.T,lst 6 bldC w.B,v]
end Go.V
namespace Go.V
theorem je{l:List Unt}(hr:yh l){a b:Nat}(hab:a<b)(hb:b<l.length):(l[a]'(by omega)).id<l[b].id:=by
 induction b with
 |zero=>omega
 |succ b ih=>
  have h3:=hr (b+1) hb (by omega)
  simp only[Nat.add_sub_cancel]at h3
  by_cases e:a=b
  ·subst e;exact h3
  ·have:=ih (by omega) (by omega)
   omega
end Go.V
namespace Go.V
theorem yk{i:TI}{A:Fr}{st:Store}{b o:Nat}{v:AV}{xs l:List AV}{K:Fr->Store->Prop}(hc:cellsOf v=some xs)(h1:xs.all AV.one=true)(hi:i.size=xs.length)(ho:st.obj b=some (.cells l))(hl:o+xs.length<=l.length)
  (hk:K A (st.setObj b (.cells (zo l o xs)))):zef i A st (.av (.s (.pointer (some ⟨b,o,none⟩)))) v K:=by
 unfold zef
 rw[hc]
 show(bif Nat.beq xs.length i.size&&(xs.all AV.one)then _ else False)
 rw[hi]
 simp only[h1,Nat.beq_refl,Bool.and_self,cond_true]
 rw[ho]
 exact⟨hl,jb hk⟩
theorem zq8(k:Int):24576<=kRad k/\kRad k<=81920:=by unfold kRad;split<;>(try split)<;>omega
theorem zud{g:Gnd}(hg:gndP g){l:List Bld}{c:Int}{p:Vc}{k:Int}(h:zg5 g l c p (kRad k)):(24576<=p.1/\p.1+24576<=g.W*65536)/\(24576<=p.2/\p.2+24576<=g.H*65536)/\(p.1<=8388608/\p.2<=8388608):=by
 have h1:=h.1
 have h2:=zq8 k
 obtain⟨⟨_,h3⟩,⟨_,h4⟩,_⟩:=hg
 omega
def ql(g:Gnd)(p:Vc):Nat:=(p.1/65536+g.W*(p.2/65536)).toNat
theorem zhx{g:Gnd}(hg:gndP g){p:Vc}(h:(0<=p.1/\p.1<g.W*65536)/\(0<=p.2/\p.2<g.H*65536)):
  ((ql g p:Nat):Int)=p.1/65536+g.W*(p.2/65536)/\ql g p<g.T.length/\((ql g p:Nat):Int)%g.W=p.1/65536/\((ql g p:Nat):Int)/g.W=p.2/65536:=by
 have hs:=k9 hg (x:=p.1/65536) (y:=p.2/65536) (by omega) (by omega)
 have ha:=zr hg
 unfold ql
 generalize p.1/65536=x at*
 generalize p.2/65536=y at*
 have e:((x+g.W*y).toNat:Int)=x+g.W*y:=by omega
 rw[e]
 exact⟨rfl,by omega,hs.2.2.1,hs.2.2.2⟩
end Go.V
namespace Go.V
theorem ACalls.frozen{P:Program}{f:FuncId}{xs:List AV}{Q:AV->Store->Prop}{R:AV->Prop}(h:ACalls P f xs Store.empty Q)
  (hQ:∀r S,Q r S->∃r2,R r2/\∀(Oth M:Nat->Nat->Prop) (w:World) (v:Value),StoreOK S Oth M w->VRel w (fun b o=>M b o\/Oth b o) r v->VRel w (fun b o=>(M b o\/Oth b o)/\S.obj b=none) r2 v):
  ACalls P f xs Store.empty fun r _=>R r:=by
 refine⟨fun Oth M w vs sto hr=>?_⟩
 have h1:=h.out Oth M w vs sto hr
 have key:∀v w',zu Store.empty Q Oth M w v w'->zu Store.empty (fun r _=>R r) Oth M w v w':=by
  rintro v w' ⟨r,S,M',hq,hv,hs,hc⟩
  obtain⟨r2,hr2,hk⟩:=hQ r S hq
  refine⟨r2,Store.empty,fun b o=>M' b o/\S.obj b=none,hr2,(hk Oth M' w' v hs hv).mono fun b o hT=>?_,?_,?_⟩
  ·rcases hT with⟨h1,h2⟩|h1
   ·exact⟨.inl h1,h2⟩
   ·refine⟨.inr h1,?_⟩
    cases hb:S.obj b with
    |none=>rfl
    |some y=>exact absurd ((hs.obj b y hb).2 o) (hs.dis b o h1)
  ·exact{obj:=fun b x hx=>(by cases hx),tok:=fun b x hx=>(by cases hx),mlt:=fun b o hm=>hs.mlt b o hm.1,olt:=hs.olt,dis:=fun b o ho hm=>hs.dis b o ho hm.1}
  ·exact{size:=hc.size,keep:=hc.keep,blk:=hc.blk,shp:=hc.shp,sub:=fun b o hm hb=>hc.sub b o hm.1 hb,tape:=hc.tape,os:=hc.os,output:=hc.output}
 generalize(callFunc f vs).run P w=res at h1
 cases res with
 |ok n w'=>
  cases n with
  |enter g args=>exact Calls.mono h1 fun e w'' ⟨v,he,hv⟩=>⟨v,he,key _ _ hv⟩
  |value v=>exact key _ _ h1
  |_=>exact h1
 |_=>exact h1
end Go.V
