/- Ground of laws of thronglaw25: contracts and plain lemmas; no condition beyond the row's own. -/
import Derived.Test.YtdfpifbbcigelaaGreatKD
set_option linter.unusedSimpArgs false
set_option linter.unusedVariables false
namespace Go.V
theorem zy1{P:Program}{c:Cfg}{e:TypeId}{ie:TI}(hie:c.I e=some ie)(hsz:ie.size=1)(hby:ie.bytes=8){st:Store}{v:AV}{ns:List Int}(hv:Ints st v ns)(x:Int)(hlen:ns.length<=1000000000000){K:Ja}
  (h:∀b cap L,(Fresh st b\/∃c0,v=.s (.slice (some ⟨b,0,none⟩) ns.length c0))->(ns++[x]).length<=cap->cap<=(ns++[x]).length+L.length->cap<=9223372036854775807->
   K (.s (.slice (some ⟨b,0,none⟩) (ns++[x]).length cap)) (st.sO b (.cells ((ns++[x]).map aI++L)))):appendK P c st e (.av v) (.av (.lst 1 [[aI x]] none)) K:=by
 have hrows:ji ie.size (.av (.lst 1 [[aI x]] none))=some [[aI x]]:=by simp[ji,hsz]
 refine⟨.inr ⟨v,_,rfl,rfl,?_⟩⟩
 have hl:(ns++[x]).length=ns.length+1:=by simp
 rcases hv with⟨rfl,rfl⟩|⟨b,cap,L,rfl,ho,h1,h2,h3⟩
 ·refine mo hie hrows ⟨by rw[hby];simp,by simp⟩ (by simp) (λb' cap' hb hc hc2=>?_)
  exact h b' cap' _ (.inl hb) (by simpa using hc) (by simp[hsz];omega) hc2
 ·refine S9 hie (cap:=cap) ho (by rw[hsz];simp;omega) h1 hrows ⟨by rw[hby];simp;omega,by simp;omega⟩ (λhc=>?_) (λhc b' cap' hb hc1 hc2=>?_)
  ·have hc:ns.length+1<=cap:=hc
   have e1:zv (ns.map aI++L) (ns.length*ie.size) ([[aI x]]:List (List AV)).flatten=(ns++[x]).map aI++L.drop 1:=by
    rw[hsz,Fd9,Da (by simp)]
    simp
   have e0:ns.map (λn=>AV.s (.int .i64 n))++L=ns.map aI++L:=rfl
   have:=h b cap (L.drop 1) (.inr ⟨cap,rfl⟩) (by omega) (by simp;omega) h3
   rw[hl]at this
   rw[<-e1]at this
   exact this
  ·have hc1:ns.length+1<=cap':=hc1
   have e1:(ns.map aI++L).take (ns.length*ie.size)++([[aI x]]:List (List AV)).flatten++List.replicate ((cap'-(ns.length+1))*ie.size) .any=(ns++[x]).map aI++List.replicate (cap'-(ns.length+1)) .any:=by
    rw[hsz,Fd9,Fd9,Fb6 (by simp),Fcq (by simp)]
    simp
   have:=h b' cap' (List.replicate (cap'-(ns.length+1)) .any) (.inl hb) (by omega) (by simp;omega) hc2
   rw[hl,<-e1]at this
   exact this
structure NearAt(N:Store)(b3 b4 b5 b6 p:Nat)(q:Vc)(r:Int)(v:AV)(acc:List Int):Prop where
 h3:N.obj b3=some (.cells [.s (.pointer (some ⟨p,0,none⟩))])
 h4:N.obj b4=some (.cells (zx q))
 h5:N.obj b5=some (.cells [int r])
 h6:N.obj b6=some (.cells [v])
 hv:Ints N v acc
 n36:b3≠b6
 n46:b4≠b6
 n56:b5≠b6
 nv:∀b n cap,v=.s (.slice (some ⟨b,0,none⟩) n cap)->b≠b3/\b≠b4/\b≠b5/\b≠b6
theorem NearAt.app{N:Store}{b3 b4 b5 b6 p:Nat}{q:Vc}{r:Int}{v:AV}{acc:List Int}(h:NearAt N b3 b4 b5 b6 p q r v acc){b cap:Nat}{L:List AV}{x:Int}
  (hb:Fresh N b\/∃c0,v=.s (.slice (some ⟨b,0,none⟩) acc.length c0)) (h1:(acc++[x]).length<=cap) (h2:cap<=(acc++[x]).length+L.length) (h3:cap<=9223372036854775807):
  NearAt ((N.sO b (.cells ((acc++[x]).map aI++L))).sO b6 (.cells [.s (.slice (some ⟨b,0,none⟩) (acc++[x]).length cap)])) b3 b4 b5 b6 p q r (.s (.slice (some ⟨b,0,none⟩) (acc++[x]).length cap)) (acc++[x]):=by
 have hne:b≠b3/\b≠b4/\b≠b5/\b≠b6:=by
  rcases hb with hb|⟨c0,hb⟩
  ·exact⟨hb.ne_obj h.h3,hb.ne_obj h.h4,hb.ne_obj h.h5,hb.ne_obj h.h6⟩
  ·exact h.nv b _ _ hb
 obtain⟨n3,n4,n5,n6⟩:=hne
 refine⟨?_,?_,?_,zc _ _ _,.inr ⟨b,cap,L,rfl,?_,h1,h2,h3⟩,h.n36,h.n46,h.n56,λb' n c e=>?_⟩
 ·rw[ze h.n36,ze (Ne.symm n3)];exact h.h3
 ·rw[ze h.n46,ze (Ne.symm n4)];exact h.h4
 ·rw[ze h.n56,ze (Ne.symm n5)];exact h.h5
 ·rw[ze n6,zc];rfl
 ·simp at e
  obtain⟨rfl,_⟩:=e
  exact⟨n3,n4,n5,n6⟩
theorem Ints.un{a g:Store}{v:AV}{ns:List Int}(h:Ints g v ns):Ints (a.un g) v ns:=by
 rcases h with h|⟨b1,cap,L,h1,h2,h3⟩
 ·exact .inl h
 ·exact .inr ⟨b1,cap,L,h1,zd h2,h3⟩
section
variable {P:Program} {c:Cfg} {w:World} {st:Store} {Oth M:Nat->Nat->Prop}
structure Stamps(es:List (AV×AV))(bs:List Nat)(clk:Nat):Prop where
  len:es.length=bs.length
  lt:∀t∈bs,t<clk
  inc:bs.Pairwise (·<·)
theorem zzh{o:Oper}{args:List AV}{m clk:Nat}{es:List (AV×AV)}{bs:List Nat}(hm:st.obj m=some (.map es bs clk)){R:Ja}(h:Stamps es bs clk->AEff P c o args st R):AEff P c o args st R:=by
  refine⟨λOth M w ρ hI sto hr=>?_⟩
  obtain⟨⟨ms,g1,g2,g3,g4,g5,g6⟩,hM⟩:=sto.obj m _ hm
  exact(h ⟨by rw[g4];simpa using g2,g5,g6⟩).out Oth M w ρ hI sto hr
theorem zvm{t:Nat}{me:MapEntry}:∀{L:List MapEntry} {i:Nat},(L.map (·.born)).Pairwise (·<·)->L[i]?=some me->me.born=t->L.find? (λe=>e.born==t)=some me:=by
  intro L
  induction L with
  |nil=>intro i _ h;simp at h
  | cons a L ih=>
    intro i hinc hti hbt
    rw[Fb0,Fct]at hinc
    cases i with
    | zero=>
      simp at hti
      subst hti
      rw[List.find?_cons_of_pos (by simp[hbt])]
    | succ i=>
      have hti:L[i]?=some me:=by simpa using hti
      have h1:=hinc.1 me.born (List.mem_map_of_mem (Fap hti))
      rw[List.find?_cons_of_neg (by simp;omega)]
      exact ih hinc.2 hti hbt
theorem zzm{o:Oper}{x:Operand}(ho:o.op=.entry x){b m clk since:Nat}{es:List (AV×AV)}{bs seen:List Nat}{i t:Nat}{e:AV×AV}(hb:st.obj b=some (.iter m since (seen++[t]) clk))(hm:st.obj m=some (.map es bs clk))
    (he:es[i]?=some e) (hbi:bs[i]?=some t) {R:Ja} (h:R (.tup [e.1,e.2]) st):AEff P c o [.s (.pointer (some ⟨b,0,none⟩))] st R:=by
  refine⟨λOth M w ρ hI sto hr=>?_⟩
  rw[ho]at hr
  have hr:Reads w (λb o=>M b o\/Oth b o) [.s (.pointer (some ⟨b,0,none⟩))] [ρ x]:=by simpa [Op.operands]using hr
  obtain⟨u,hx0,hx⟩:=Iu hr
  simp only[Fcp,and_true]at hx0
  rw[<-hx0]at hx
  have hx:=VRel.eq_s hx
  obtain⟨⟨ms,g1,g2,g3,g4,g5,g6⟩,hM⟩:=sto.obj m _ hm
  obtain⟨hit,hMb⟩:=sto.obj b _ hb
  have hit:w.heap[b]?=some (.mapIter (some m) since (seen++[t]).toArray clk):=hit
  have hgo:(getObj b).run P w=.ok (.mapIter (some m) since (seen++[t]).toArray clk) w:=by simp[getObj,Sem.run,hit]
  have hlt:i<ms.size:=by rw[<-g2];exact(Fae.1 he).1
  have hmi:ms[i]?=some ms[i]:=Fa0 hlt
  have hbt:ms[i].born=t:=by
    rw[g4,Fam,Fbs,hmi]at hbi
    simpa using hbi
  have hfind:ms.find? (λe=>e.born==t)=some ms[i]:=by
    rw[<-Array.find?_toList]
    exact zvm (by rw[<-g4];exact g6) (by rw[Fbs];exact hmi) hbt
  have hback:(seen++[t]).toArray.back?=some t:=by simp
  have hrun:(execOp ρ o).run P w=.ok (.value (.tuple #[ms[i].key,ms[i].val])) w:=by
    simp only[execOp,ho,Instr.entry,hx,Sem.run_bind,hgo,Result.andThen_ok,hback,we g1,bne_self_eq_false,Fag,if_false,hfind,Sem.run_pure]
  rw[hrun]
  have hrel:=g3 i e ms[i] he hmi
  exact⟨_,st,M,h,js (Reads.cons hrel.1 (Reads.cons hrel.2 Reads.nil)),sto,Chg.refl _ _⟩
end
section
variable {r:Int} {g:Store}
theorem eo{x:Int}(hx:0<=x)(hr:0<r)(h:x*x<r*r):x<r:=by
 by_cases h1:x<r
 ·exact h1
 ·have h2:r<=x:=by omega
  have h3:r*r<=x*x:=Fbn h2 h2 (by omega) hx
  omega
theorem iu{a b:Int}(ha:ya a)(hb:ya b)(hr:0<r)(hr2:r<=9223372036854775807)(h:asz (yg a b)<r):yg a r<=nrm b/\nrm b<=yq a r:=by
 have h1:=vn ha
 have h2:=vn hb
 have h3:=xj (n:=-nrm b) (by omega)
 have h4:=xj (n:=r) (by omega)
 have h5:=xj (n:=-r) (by omega)
 have h6:=Hj a b
 have h7:=xj (n:=yg a b) (by omega)
 unfold asz at h
 rw[h7]at h
 unfold yg yq at*
 rw[h3]at h
 rw[h4,h5]
 unfold jg at*
 generalize nrm a=x at*
 generalize nrm b=y at*
 refine⟨?_,?_⟩<;>(repeat' split)<;>(repeat' split at h)<;>omega
theorem zrk{q p:Vc}(hq:q.ok)(hp:p.ok)(hr:0<r)(hr2:r<=9223372036854775807)(h:near q p r=true):
  ((zl (yg q.1 r,yg q.2 r)).1<=(zl p).1/\(zl p).1<=(zl (yq q.1 r,yq q.2 r)).1)/\((zl (yg q.1 r,yg q.2 r)).2<=(zl p).2/\(zl p).2<=(zl (yq q.1 r,yq q.2 r)).2):=by
 unfold near at h
 have h:=(of_decide_eq_true h).2
 have e1:=Hz (Dq q.1 p.1)
 have e2:=Hz (Dq q.2 p.2)
 have m1:0<=asz (yg q.1 p.1)*asz (yg q.1 p.1):=Fa2 e1.1 e1.1
 have m2:0<=asz (yg q.2 p.2)*asz (yg q.2 p.2):=Fa2 e2.1 e2.1
 have h':asz (yg q.1 p.1)*asz (yg q.1 p.1)+asz (yg q.2 p.2)*asz (yg q.2 p.2)<r*r:=h
 have d1:=iu hq.1 hp.1 hr hr2 (eo e1.1 hr (by omega))
 have d2:=iu hq.2 hp.2 hr hr2 (eo e2.1 hr (by omega))
 have n1:=xj (Hj q.1 r).1
 have n2:=xj (Hj q.2 r).1
 have n3:=xj (F0 q.1 r).1
 have n4:=xj (F0 q.2 r).1
 unfold zl
 simp only[n1,n2,n3,n4]
 omega
theorem zp0{q:Vc}(hq:q.ok)(hr:0<r)(hr2:r<=9223372036854775807):
  (zl (yg q.1 r,yg q.2 r)).1<=(zl (yq q.1 r,yq q.2 r)).1/\(zl (yg q.1 r,yg q.2 r)).2<=(zl (yq q.1 r,yq q.2 r)).2:=by
 have key:∀a:Int,ya a->yg a r<=yq a r:=by
  intro a ha
  have h1:=vn ha
  have h4:=xj (n:=r) (by omega)
  have h5:=xj (n:=-r) (by omega)
  unfold yg yq
  rw[h4,h5]
  unfold jg
  generalize nrm a=x at*
  (repeat' split)<;>omega
 have k1:=key q.1 hq.1
 have k2:=key q.2 hq.2
 have n1:=xj (Hj q.1 r).1
 have n2:=xj (Hj q.2 r).1
 have n3:=xj (F0 q.1 r).1
 have n4:=xj (F0 q.2 r).1
 unfold zl
 simp only[n1,n2,n3,n4]
 omega
theorem ly{p:Vc}(h:p.ok):(-70368744177664<=(zl p).1/\(zl p).1<=70368744177664)/\(-70368744177664<=(zl p).2/\(zl p).2<=70368744177664):=by
 have h1:=vn h.1
 have h2:=vn h.2
 unfold zl
 simp only
 omega
def NearIn(l:List Ent)(q:Vc)(r:Int)(D:Ent->Prop)(acc:List Int):Prop:=acc.Nodup/\∀id,id∈acc↔∃e∈l,e.1=id/\near q e.2 r=true/\D e
theorem NearIn.congr{l:List Ent}{q:Vc}{D D':Ent->Prop}{acc:List Int}(h:NearIn l q r D acc)(hD:∀e∈l,near q e.2 r=true->(D e↔D' e)):NearIn l q r D' acc:=by
 refine⟨h.1,λid=>?_⟩
 rw[h.2 id]
 constructor
 ·rintro⟨e,h1,h2,h3,h4⟩;exact⟨e,h1,h2,h3,(hD e h1 h3).1 h4⟩
 ·rintro⟨e,h1,h2,h3,h4⟩;exact⟨e,h1,h2,h3,(hD e h1 h3).2 h4⟩
theorem NearIn.len{l:List Ent}{q:Vc}{D:Ent->Prop}{acc:List Int}(h:NearIn l q r D acc):acc.length<=l.length:=by
 have:=Fbm (l₂:=l.map (·.1)) h.1 (λid hid=>by
  obtain⟨e,h1,h2,_⟩:=(h.2 id).1 hid
  exact Fad.2 ⟨e,h1,h2⟩)
 simpa using this
theorem NearIn.step{l:List Ent}(hn:(l.map (·.1)).Nodup){q:Vc}{D:Ent->Prop}{acc:List Int}(h:NearIn l q r D acc){e:Ent}(he:e∈l)(hD:¬D e):NearIn l q r (λe'=>D e'\/e'=e) (if near q e.2 r then acc++[e.1]else acc):=by
 cases hnr:near q e.2 r with
 |false=>
  refine h.congr λe' he' hn'=>⟨.inl,λhh=>hh.elim id λhh=>?_⟩
  rw[hh,hnr]at hn';cases hn'
 |true=>
  refine⟨?_,λid=>?_⟩
  ·rw[if_pos rfl,Fcy]
   refine⟨h.1,by simp,λa ha b hb=>?_⟩
   simp at hb
   subst hb
   intro hab
   subst hab
   obtain⟨e',h1,h2,_,h4⟩:=(h.2 _).1 ha
   rw[I9 hn he h1 h2]at h4
   exact hD h4
  ·rw[if_pos rfl,Fai,h.2 id]
   constructor
   ·rintro(⟨e',h1,h2,h3,h4⟩|h1)
    ·exact⟨e',h1,h2,h3,.inl h4⟩
    ·simp at h1;exact⟨e,he,h1.symm,hnr,.inr rfl⟩
   ·rintro⟨e',h1,h2,h3,h4|h4⟩
    ·exact .inl ⟨e',h1,h2,h3,h4⟩
    ·subst h4;exact .inr (by simp[h2])
theorem ztx{l:List Ent}{G:List Grp}(h:Inv l G):G.length<=l.length:=by
 have h1:(G.map λg=>g.ns.headD 0).Nodup:=by
  unfold List.Nodup
  rw[List.pairwise_map]
  have n2:=h.n2
  unfold List.Nodup at n2
  rw[List.pairwise_map]at n2
  have key:∀g∈G,g.ns.headD 0∈g.ns:=λg hg=>by
   have:=(h.s g hg).2
   cases hns:g.ns with
   |nil=>exact absurd hns this
   |cons a t=>simp
  rw[Fcc]at n2⊢
  intro i j hi hj hij he
  obtain⟨e1,q1,q2,q3⟩:=(h.m1 G[i] (Fab hi) _).1 (key _ (Fab hi))
  obtain⟨e2,q4,q5,q6⟩:=(h.m1 G[j] (Fab hj) _).1 (key _ (Fab hj))
  refine n2 i j hi hj hij ?_
  rw[<-q3,<-q6,I9 h.n1 q4 q1 (by rw[q2,q5,he])]
 have:=Fbm (l₂:=l.map (·.1)) h1 (λid hid=>by
  obtain⟨g,hg,rfl⟩:=Fad.1 hid
  have:=(h.s g hg).2
  cases hns:g.ns with
  |nil=>exact absurd hns this
  |cons a t=>
   obtain⟨e,q1,q2,_⟩:=(h.m1 g hg a).1 (by rw[hns];simp)
   exact Fad.2 ⟨e,q1,by simpa using q2⟩)
 simpa using this
theorem zr4{xs:List Int}(h:xs.Nodup):(xs.mergeSort λx y=>decide (x<=y)).Pairwise (·<·)/\∀n,n∈(xs.mergeSort λx y=>decide (x<=y))↔n∈xs:=by
 have h1:=List.pairwise_mergeSort (le:=λx y:Int=>decide (x<=y)) (λa b c h1 h2=>by simp at*;omega) (λa b=>by simp;omega) xs
 have h2:(xs.mergeSort λx y=>decide (x<=y)).Nodup:=(List.mergeSort_perm xs _).nodup_iff.2 h
 refine⟨?_,λn=>List.mem_mergeSort⟩
 have h3:=h1.and h2
 exact h3.imp λ⟨h4,h5⟩=>by simp at h4;omega
def Ky(l:List Ent)(q:Vc)(r:Int)(ns:List Int):Prop:=ns.Pairwise (·<·)/\∀id,id∈ns↔∃e∈l,e.1=id/\near q e.2 r=true
theorem K6{a:Store}{b:Nat}{x:AObj}(h:¬g.has b):(a.un g).sO b x=(a.sO b x).un g:=by
 obtain⟨h1,h2⟩:=vo h
 unfold Store.un Store.sO
 congr
 funext i
 by_cases hi:i=b
 ·subst hi;simp[h1]
 ·simp[yj hi]
theorem zwm{a:Store}{b:Nat}{x:AObj}(h:zh a g)(hb:¬g.has b):zh (a.sO b x) g:=by
 intro i hi hg
 rcases has_setObj_iff.1 hi with rfl|hi
 ·exact hb hg
 ·exact h i hi hg
theorem zwl{a:Store}{b:Nat}{x y:AObj}(h:zh (a.sO b x) g):zh (a.sO b y) g/\¬g.has b:=by
 have h1:¬g.has b:=h b (has_setObj_iff.2 (.inl rfl))
 refine⟨λi hi hg=>?_,h1⟩
 rcases has_setObj_iff.1 hi with rfl|hi
 ·exact h1 hg
 ·exact h i (has_setObj_iff.2 (.inr hi)) hg
theorem gn{l:List Ent}(hn:(l.map (·.1)).Nodup){e:Ent}(he:e∈l):l.find? (j2 e.1)=some e:=by
 cases hf:l.find? (j2 e.1)with
 |none=>
  have:=Fcu.1 hf e he
  simp[j2]at this
 |some e'=>
  obtain⟨h1,h2⟩:=Ki hf
  have:e'.1=e.1:=(by simpa [j2]using h2:e.1=e'.1).symm
  rw[I9 hn he h1 this]
end
def Bs:Option Nat->Int|some i=>(i:Int)|none=>-1
theorem H9(a b c:Store):(a.un b).un c=a.un (b.un c):=by
 unfold Store.un
 congr<;>funext i
 ·show(match c.obj i with|some x=>some x|none=>match b.obj i with|some x=>some x|none=>a.obj i)=(match(match c.obj i with|some x=>some x|none=>b.obj i)with|some x=>some x|none=>a.obj i)
  cases c.obj i<;>rfl
 ·show(match c.tok i with|some x=>some x|none=>match b.tok i with|some x=>some x|none=>a.tok i)=(match(match c.tok i with|some x=>some x|none=>b.tok i)with|some x=>some x|none=>a.tok i)
  cases c.tok i<;>rfl
theorem un_comm{a b:Store}(h:zh a b):a.un b=b.un a:=by
 unfold Store.un
 congr<;>funext i
 ·cases h1:b.obj i with
  |none=>cases a.obj i<;>rfl
  |some x=>
   have:a.obj i=none:=by
    cases h2:a.obj i with
    |none=>rfl
    |some y=>exact absurd (xq h1) (h i (xq h2))
   rw[this]
 ·cases h1:b.tok i with
  |none=>cases a.tok i<;>rfl
  |some x=>
   have:a.tok i=none:=by
    cases h2:a.tok i with
    |none=>rfl
    |some y=>exact absurd (Dn h1) (h i (Dn h2))
   rw[this]
theorem vf(a:Store):Store.empty.un a=a:=by
 unfold Store.un Store.empty
 congr<;>funext i
 ·cases a.obj i<;>rfl
 ·cases a.tok i<;>rfl
theorem disj_un{a b c:Store}:zh (a.un b) c↔zh a c/\zh b c:=
 ⟨λh=>⟨λi h1=>h i (un_has.2 (.inl h1)),λi h1=>h i (un_has.2 (.inr h1))⟩,λ⟨h1,h2⟩ i h=>(un_has.1 h).elim (h1 i) (h2 i)⟩
theorem pt{a g:Store}:(a.un g).Le g:=⟨λb y h=>⟨y,zd h,AObj.le_refl y⟩,λb x h=>Cz h⟩
theorem AWp.leS{P:Program}{c:Cfg}{code:Code}{Q:Exit->Fr->Store->Prop}{A:Fr}{st st':Store}(hle:st.Le st')(h:AWp P c code Q A st'):AWp P c code Q A st:=by
 refine⟨λOth M a w ⟨β,s⟩=>h.out Oth M a w ⟨β,{tsz:=s.tsz,dfr:=s.dfr,tm:=s.tm,bx:=s.bx,inj:=s.inj,sep:=λk b hk hb=>s.sep k b hk ?_,sto:=s.sto.weakenLe hle}⟩⟩
 rcases hb with hb|hb
 ·cases hx:st'.obj b with
  |none=>exact absurd hx hb
  |some y=>
   obtain⟨x,h1,_⟩:=hle.obj b y hx
   exact .inl (by rw[h1];simp)
 ·cases hx:st'.tok b with
  |none=>exact absurd hx hb
  |some y=>exact .inr (by rw[hle.tok b y hx];simp)
theorem xk{st:Store}{x:AV}{Oth M:Nat->Nat->Prop}{w:World}{v:Value}(h:VRel w (λb o=>M b o\/Oth b o) x v):VRel w (λb o=>(M b o\/Oth b o)/\st.obj b=none) x v:=
 h.mono λ_ _ h=>h.1
structure Bld where
 id:Int
 owner:Int
 x:Int
 y:Int
 w:Int
 h:Int
 deriving DecidableEq
structure Unt where
 id:Int
 owner:Int
 kind:Int
 pos:Vc
 goal:Int
 next:Int
 stuck:Int
 inn:Int
 state:Int
 deriving DecidableEq
structure Wld where
 tick:Int
 players:Int
 next:Int
 G:Gnd
 B:List Bld
 U:List Unt
 deriving DecidableEq
def zn(b:Bld):List AV:=[int b.id,int b.owner,int b.x,int b.y,int b.w,int b.h]
def zj(u:Unt):List AV:=[int u.id,int u.owner,int u.kind,int u.pos.1,int u.pos.2,int u.goal,int u.next,int u.stuck,int u.inn,int u.state]
def zu(w:Wld):List AV:=[int w.tick,int w.players,int w.next,int w.G.W,int w.G.H,qk w.G.T,lst 6 zn w.B,lst 10 zj w.U]
def Wld.fits(w:Wld):Prop:=w.G.fits/\w.B.length<=1000000000000/\w.U.length<=1000000000000
def zq(k:Int):Int:=if k=0 then 24576 else if k=2 then 81920 else 32768
def jj(k:Int):Int:=if k=0 then 16384 else if k=1 then 24576 else if k=2 then 8192 else 16384
def yx(k:Int):Int:=if k=0 then 0 else if k=1 then 1 else if k=2 then 0 else 2
def jk(k:Int):Int:=if k=2 then 1 else 0
def xn(k:Int):Int:=if k=0 then 0 else if k=1 then 0 else if k=2 then 0 else 4
def Fs(k:Int):List AV:=[int (zq k),int (jj k),int (yx k),int (jk k),int (xn k)]
def Fq(k:Int):Prop:=0<=k/\k<=3
def wu(c:Int)(t:Nat):Int:=((if c=0 then [2,1,3,5,0,0]else if c=1 then [2,1,6,0,0,0]else [2,1,0,3,2,0]):List Int).getD t 0
def yv(b:Bld):Prop:=(1<=b.id/\b.id<=1099511627776)/\(1<=b.owner/\b.owner<=8)/\(1<=b.w/\b.w<=4)/\(1<=b.h/\b.h<=4)
def onP(g:Gnd)(b:Bld):Prop:=(0<=b.x/\b.x+b.w<=g.W)/\(0<=b.y/\b.y+b.h<=g.H)
def wi(g:Gnd)(b:Bld)(t:Nat):Prop:=(b.x<=(t:Int)%g.W/\(t:Int)%g.W<b.x+b.w)/\(b.y<=(t:Int)/g.W/\(t:Int)/g.W<b.y+b.h)
instance(g:Gnd)(b:Bld)(t:Nat):Decidable (wi g b t):=inferInstanceAs (Decidable (_/\_))
def Cr(g:Gnd)(b:Bld):Prop:=∀t,t<g.T.length->wi g b t->(g.T.getD t 0).toNat<=1
def At(a b:Bld):Prop:=(a.x<b.x+b.w/\b.x<a.x+a.w)/\(a.y<b.y+b.h/\b.y<a.y+a.h)
def Lq(l:List Bld):Prop:=∀j,(h:j<l.length)->0<j->(l[j-1]'(by omega)).id<l[j].id
def yh(l:List Unt):Prop:=∀j,(h:j<l.length)->0<j->(l[j-1]'(by omega)).id<l[j].id
def Nq(l:List Bld):Prop:=∀j,(h:j<l.length)->∀i,(hi:i<j)->¬At l[j] (l[i]'(by omega))
def Gb(g:Gnd)(l:List Bld):Prop:=l.length<=256/\Lq l/\(∀b∈l,yv b/\onP g b/\Cr g b)/\Nq l
def qe(g:Gnd)(l:List Bld)(t:Nat):Bool:=l.any λb=>decide (wi g b t)
def ye(g:Gnd)(l:List Bld)(c:Int)(t:Nat):Bool:= !qe g l t&&decide (0<wu c (g.T.getD t 0).toNat)
def tx(g:Gnd)(t:Nat):Int:=(t:Int)%g.W*65536
def ty(g:Gnd)(t:Nat):Int:=(t:Int)/g.W*65536
def off(x lo:Int):Int:=if x<lo then lo-x else if x>lo+65536 then x-(lo+65536)else 0
def ve(g:Gnd)(t:Nat)(p:Vc)(r:Int):Prop:=off p.1 (tx g t)*off p.1 (tx g t)+off p.2 (ty g t)*off p.2 (ty g t)<r*r
instance(g:Gnd)(t:Nat)(p:Vc)(r:Int):Decidable (ve g t p r):=inferInstanceAs (Decidable (_<_))
def wj(g:Gnd)(l:List Bld)(c:Int)(p:Vc)(r:Int):Prop:=
 ((r<=p.1/\p.1+r<=g.W*65536)/\(r<=p.2/\p.2+r<=g.H*65536))/\∀t,t<g.T.length->ye g l c t=false->¬ve g t p r
def kb(p:Vc)(r:Int)(q:Vc)(s:Int):Bool:= !near p q (r+s)
def qv(w:Wld)(id k:Int)(p:Vc):Prop:=
 wj w.G w.B (yx k) p (zq k)/\∀u∈w.U,u.inn=0->u.id≠id->kb p (zq k) u.pos (zq u.kind)=true
def wc(g:Gnd)(t:Int):Prop:=t=-1\/(0<=t/\t<g.W*g.H)
def xh(w:Wld)(u:Unt):Prop:=
 ((1<=u.id/\u.id<w.next)/\(1<=u.owner/\u.owner<=w.players)/\Fq u.kind)/\(wc w.G u.goal/\wc w.G u.next/\(0<=u.stuck/\u.stuck<8))∧
 ((0<=u.state/\u.state<=4)/\(u.state=1↔u.goal≠-1))/\(u.goal=-1->u.next=-1/\u.stuck=0)
def Kb(w:Wld):Prop:=
 ((0<=w.tick/\w.tick<=1099511627776)/\(1<=w.players/\w.players<=8)/\(1<=w.next/\w.next<=1099511627776))∧
 (zp w.G/\Gb w.G w.B/\w.U.length<=4096)/\∀b∈w.B,b.owner<=w.players/\b.id<w.next
def H7(w:Wld):Prop:=yh w.U/\∀u∈w.U,xh w u/\∀b∈w.B,b.id≠u.id
def z7(l:List Unt)(id:Int):List Int:=(l.filter λu=>u.inn==id).map (·.id)
def Bk(w:Wld)(u:Unt):Prop:=
 ∃x∈w.U,x.id=u.inn/\(x.inn=0/\x.owner=u.owner)/\((z7 w.U u.inn).length:Int)<=xn x.kind/\xn u.kind=0/\u.pos=(0,0)/\u.goal=-1/\u.state=0
def zw(w:Wld):Prop:=(Kb w/\H7 w)/\(∀u∈w.U,u.inn=0->qv w u.id u.kind u.pos)/\∀u∈w.U,u.inn≠0->Bk w u
theorem zyq(a b:Int):(a==b)=decide (a=b):=by rw[Fb5];simp
theorem qm{g:Gnd}(h:zp g):1<=g.W*g.H/\g.W*g.H<=16384/\(g.T.length:Int)=g.W*g.H:=by
 obtain⟨⟨h1,h2⟩,⟨h3,h4⟩,h5,_⟩:=h
 have:1*1<=g.W*g.H:=Fbn h1 h3 (by decide) (by omega)
 have:g.W*g.H<=128*128:=Fbn h2 h4 (by omega) (by decide)
 omega
def Kc(w:Wld):Prop:=(w.G.T.length>700\/w.B.length>30)\/w.U.length>30
section
variable {x r w:Int} {g:Gnd} {t:Nat}
theorem Vo{a b:Vc}(h1:-2305843009213693952<=a.1/\a.1<=2305843009213693952)(h2:-2305843009213693952<=a.2/\a.2<=2305843009213693952)(h3:-2305843009213693952<=b.1/\b.1<=2305843009213693952)(h4:-2305843009213693952<=b.2/\b.2<=2305843009213693952):
  qf a b=(a.1-b.1,a.2-b.2):=by
 have n:∀x:Int,-4611686018427387904<=x/\x<=4611686018427387904->nrm x=x:=λx hx=>by unfold nrm;rw[if_neg (by omega)]
 have c:∀x:Int,-4611686018427387904<=x/\x<=4611686018427387904->jg x=x:=λx hx=>by unfold jg;rw[if_neg (by omega),if_neg (by omega)]
 unfold qf yg yq
 rw[n a.1 (by omega),n b.1 (by omega),n a.2 (by omega),n b.2 (by omega),n (-b.1) (by omega),n (-b.2) (by omega),c _ (by omega),c _ (by omega)]
 rfl
theorem Nn(h:-4611686018427387904<=x/\x<=4611686018427387904):asz x*asz x=x*x:=by
 have n:nrm x=x:=by unfold nrm;rw[if_neg (by omega)]
 unfold asz
 rw[n]
 split
 ·rw[Fdh]
 ·rfl
theorem P0{a b:Vc}(h1:-2305843009213693952<=a.1/\a.1<=2305843009213693952)(h2:-2305843009213693952<=a.2/\a.2<=2305843009213693952)(h3:-2305843009213693952<=b.1/\b.1<=2305843009213693952)(h4:-2305843009213693952<=b.2/\b.2<=2305843009213693952)(hr:0<r):
  near a b r=decide ((a.1-b.1)*(a.1-b.1)+(a.2-b.2)*(a.2-b.2)<r*r):=by
 unfold near sqr
 rw[Vo h1 h2 h3 h4,Nn (by dsimp only;omega),Nn (by dsimp only;omega)]
 rw[Fb5,decide_eq_true_iff,decide_eq_true_iff]
 exact⟨λh=>h.2,λh=>⟨hr,h⟩⟩
theorem D8(hg:zp g){t:Nat}(ht:(t:Int)<g.W*g.H):(0<=(t:Int)%g.W/\(t:Int)%g.W<g.W)/\(0<=(t:Int)/g.W/\(t:Int)/g.W<g.H):=by
 obtain⟨⟨h1,h2⟩,⟨h3,h4⟩,_⟩:=hg
 have h5:=Int.emod_nonneg (t:Int) (show g.W≠0 by omega)
 have h6:=Int.emod_lt_of_pos (t:Int) (show 0<g.W by omega)
 have h7:0<=(t:Int)/g.W:=Fc0 (by omega) (by omega)
 have h8:(t:Int)/g.W<g.H:=Int.ediv_lt_of_lt_mul (by omega) (by rw[Fcv];exact ht)
 exact⟨⟨h5,h6⟩,h7,h8⟩
theorem La(hw:1<=w):(t:Int).tdiv w=(t:Int)/w:=Fa7 (by omega)
theorem K9(hw:1<=w):(t:Int).tmod w=(t:Int)%w:=Int.tmod_eq_emod_of_nonneg (by omega)
theorem Oq(hg:zp g){t:Nat}(ht:(t:Int)<g.W*g.H):(0<=tx g t/\tx g t<=8323072)/\(0<=ty g t/\ty g t<=8323072):=by
 have:=D8 hg ht
 obtain⟨⟨h1,h2⟩,⟨h3,h4⟩,_⟩:=hg
 unfold tx ty
 omega
def Bz(x lo:Int):Int:=min2 (max2 x lo) (lo+65536)
theorem min2_eq(a b:Int):min2 a b=min a b:=by unfold min2;by_cases h:b<a<;>simp[h]<;>omega
theorem Mb(a b:Int):max2 a b=max a b:=by unfold max2;by_cases h:b>a<;>simp[h]<;>omega
theorem lp(x lo:Int):Bz x lo=min (max x lo) (lo+65536):=by unfold Bz;rw[min2_eq,Mb]
theorem ln(x lo:Int):(x-Bz x lo)*(x-Bz x lo)=off x lo*off x lo:=by
 rw[lp]
 unfold off
 by_cases h1:x<lo
 ·rw[if_pos h1,show min (max x lo) (lo+65536)=lo by omega]
  rw[<-Fdh (x-lo),Int.neg_sub]
 ·rw[if_neg h1]
  by_cases h2:x>lo+65536
  ·rw[if_pos h2,show min (max x lo) (lo+65536)=lo+65536 by omega]
  ·rw[if_neg h2,show min (max x lo) (lo+65536)=x by omega]
   simp
theorem Nh{lo:Int}(h:0<=lo/\lo<=8323072):0<=Bz x lo/\Bz x lo<=8388608:=by rw[lp];omega
theorem zrm(hg:zp g){t:Nat}(ht:(t:Int)<g.W*g.H){p:Vc}(hp:k7 p.1 p.2)(hr:0<r):
  near p (Bz p.1 (tx g t),Bz p.2 (ty g t)) r=decide (ve g t p r):=by
 have hb:=Oq hg ht
 have h1:=Nh (x:=p.1) hb.1
 have h2:=Nh (x:=p.2) hb.2
 obtain⟨h3,h4⟩:=hp
 rw[P0 (by omega) (by omega) (by dsimp only;omega) (by dsimp only;omega) hr]
 dsimp only
 rw[ln,ln]
 rfl
theorem Wr{a:Int}(ha:0<=a)(hr:0<r)(h:a*a<r*r):a<r:=by
 apply Decidable.byContradiction
 intro hn
 have:r*r<=a*a:=Fbn (by omega) (by omega) (by omega) ha
 omega
end
def Store.dO(st:Store)(b:Nat):Store:={st with obj:=λi=>bif Nat.beq i b then none else st.obj i}
theorem Hs{st:Store}{b b':Nat}{x:AObj}(h:(st.dO b).obj b'=some x):b'≠b/\st.obj b'=some x:=by
  have h:(bif Nat.beq b' b then none else st.obj b')=some x:=h
  cases hb:Nat.beq b' b with
  |true=>rw[hb]at h;cases h
  | false=>
    rw[hb]at h
    exact⟨λe=>(by rw[e,Fbk]at hb;cases hb),h⟩
theorem AWp.freeze{P:Program}{c:Cfg}{code:Code}{Q:Exit->Fr->Store->Prop}{A:Fr}{st:Store}{d b n cap k:Nat}{rows:List (List AV)}{pad:List AV}
    (hA:A.t d=.av (.s (.slice (some ⟨b,0,none⟩) n cap))) (ho:st.obj b=some (.cells (rows.flatten++pad))) (ht:st.tok b=none) (hn:rows.length=n) (hcap:n<=cap)
    (hk:∀row∈rows,row.length=k) (hall:∀row∈rows,∀x∈row,∃v,x=AV.s v/\qc v=true)
    (h:AWp P c code Q (A.put d (.av (.lst k rows none))) (st.dO b)):AWp P c code Q A st:=by
  refine⟨λOth M a w ⟨β,sim⟩=>?_⟩
  have hs:∀b' o,((M b' o/\b'≠b)\/Oth b' o)->(M b' o\/Oth b' o):=λ_ _ h=>h.imp (·.1) id
  have sim':SimB c.N Oth β (A.put d (.av (.lst k rows none))) (st.dO b) (λb' o=>M b' o/\b'≠b) a w:=by
    refine{tsz:=sim.tsz,dfr:=sim.dfr.sub λ_ _ h=>h.1,tm:=λi=>?_,bx:=λj l hj=>⟨(sim.bx j l hj).1.mono hs,λo=>⟨(sim.bx j l hj).2 o,?_⟩⟩,inj:=sim.inj,sep:=λj b' hj hb'=>?_,sto:=?_}
    · by_cases hi:i=d
      · subst hi
        have e:(A.put i (.av (.lst k rows none))).t i=.av (.lst k rows none):=by
          show(bif Nat.beq i i then _ else A.t i)=_
          rw[Fbk];rfl
        rw[e]
        have h1:=sim.tm i
        rw[hA]at h1
        have h1:VRel w (λb o=>M b o\/Oth b o) (.s (.slice (some ⟨b,0,none⟩) n cap)) (a.tmps.getD i undef):=h1
        generalize a.tmps.getD i undef=v at h1
        cases h1
        obtain⟨⟨cs,e0,fr,hb0,huf,hlen,hrel⟩,hM⟩:=sim.sto.obj b _ ho
        subst hn
        have at1:∀(i:Nat) (row:List AV) (j:Nat) (x:AV),rows[i]?=some row->row[j]?=some x->∃v,x=.s v/\qc v=true/\cs[i*k+j]?=some v:=by
          intro i row j x hi hj
          obtain⟨v,rfl,hv⟩:=hall row (Fap hi) x (Fap hj)
          have h5:=Dr hk hi hj
          have hlt:=(Fae.1 h5).1
          have h6:(rows.flatten++pad)[i*k+j]?=some (.s v):=by rw[Fah hlt];exact h5
          have hlt2:i*k+j<cs.size:=by rw[<-hlen,Faj];omega
          have h7:=hrel _ _ cs[i*k+j] h6 (by simp[hlt2])
          have:cs[i*k+j]=v:=by generalize cs[i*k+j]=y at h7;cases h7;rfl
          exact⟨v,rfl,hv,by rw[<-this];simp[hlt2]⟩
        refine VRel.lst rows none b 0 cap k (λp=>cs.getD p undef) hcap (λi row hi=>hk row (Fap hi)) (λ_ h=>by cases h) (λi row j x hi hj=>?_) (λi row j x hi hj=>?_) (λi row j x hi hj=>?_)
        · obtain⟨v,rfl,hv,h5⟩:=at1 i row j x hi hj
          refine⟨?_,?_⟩
          · rw[Fbf]
            simp only[World.cell?,hb0]
            rw[Far,h5]
            simp[h5]
          · rintro(⟨_,h⟩|h)
            · exact h rfl
            · exact sim.sto.dis _ _ h (hM _)
        · obtain⟨v,rfl,hv,h5⟩:=at1 i row j x hi hj
          rw[Far,h5];exact hv
        · obtain⟨v,rfl,hv,h5⟩:=at1 i row j x hi hj
          rw[Far,h5];exact .s _
      · have e:(A.put d (.av (.lst k rows none))).t i=A.t i:=by
          show(bif Nat.beq i d then _ else A.t i)=_
          have:Nat.beq i d=false:=by
            cases hb:Nat.beq i d with
            |false=>rfl
            |true=>exact absurd ((qy _ _).1 hb) hi
          rw[this];rfl
        rw[e]
        have h1:=sim.tm i
        generalize A.t i=x at h1
        cases x with
        |any=>trivial
        |und=>exact h1
        |av x=>exact VRel.mono hs h1
        |bx k off=>exact h1
    · exact sim.sep j b (λe=>by rw[show A.bx j=some l from hj]at e;cases e) (.inl (by rw[ho];simp))
    · refine sim.sep j b' hj ?_
      rcases hb' with hb'|hb'
      · cases hx:(st.dO b).obj b' with
        |none=>exact absurd hx hb'
        |some y=>exact .inl (by rw[(Hs hx).2];simp)
      · exact .inr hb'
    · exact { obj:=λb' y hy=>⟨(sim.sto.obj b' y (Hs hy).2).1.mono hs,λo=>⟨(sim.sto.obj b' y (Hs hy).2).2 o,(Hs hy).1⟩⟩
              tok:=λb' top htk=>by
                obtain⟨c,e,fr,h1,h2,h3,h4⟩:=sim.sto.tok b' top htk
                exact⟨c,e,fr,h1,h2,h3,λo ho=>⟨h4 o ho,λe=>by subst e;rw[show st.tok b'=some top from htk]at ht;cases ht⟩⟩
              mlt:=λb' o hm=>sim.sto.mlt b' o hm.1,olt:=sim.sto.olt,dis:=λb' o ho hm=>sim.sto.dis b' o ho hm.1}
  refine Code.wpF_mono ?_ (h.out Oth _ a w ⟨β,sim'⟩)
  rintro e a' w' ⟨A',st',M',h1,h2,h3⟩
  exact⟨A',st',M',h1,h2,{size:=h3.size,keep:=λb' o hb hm=>h3.keep b' o hb λh=>hm h.1,blk:=λb' hb hm=>h3.blk b' hb λo h=>hm o h.1,shp:=h3.shp,sub:=λb' o hm hb=>(h3.sub b' o hm hb).1,tape:=h3.tape,os:=h3.os,output:=h3.output}⟩
section
variable {g:Gnd} {n t i:Nat}
theorem Sh{st:Store}{b:Nat}{x:AObj}(h:st.obj b=none):(st.sO b x).dO b=st:=by
 unfold Store.sO Store.dO
 congr 1
 funext i
 by_cases hi:i=b
 ·subst hi;simp[h]
 ·simp[yj hi]
def vk(W:Int)(b:Bld)(y k:Nat):List Int:=(List.range k).map λ(x:Nat)=>b.x+(x:Int)+W*(b.y+(y:Int))
def v8(W:Int)(b:Bld)(k:Nat):List Int:=(List.range k).flatMap λy=>vk W b y b.w.toNat
def kk(W:Int)(b:Bld):List Int:=v8 W b b.h.toNat
theorem ro(W:Int)(b:Bld)(y k:Nat):vk W b y (k+1)=vk W b y k++[b.x+(k:Int)+W*(b.y+(y:Int))]:=by
 unfold vk;rw[List.range_succ];simp
theorem Ou(W:Int)(b:Bld)(k:Nat):v8 W b (k+1)=v8 W b k++vk W b k b.w.toNat:=by
 unfold v8;rw[List.range_succ];simp
theorem Wa(W:Int)(b:Bld)(y k:Nat):(vk W b y k).length=k:=by unfold vk;simp
theorem Ov(W:Int)(b:Bld)(k:Nat):(v8 W b k).length=k*b.w.toNat:=by
 induction k with
 |zero=>simp[v8]
 |succ k ih=>rw[Ou,Faj,ih,Wa,Fds]
theorem V9(W:Int){b:Bld}(hb:yv b):(kk W b).length<=16:=by
 unfold kk
 rw[Ov]
 unfold yv at hb
 have:b.h.toNat*b.w.toNat<=4*4:=Fdp (by omega) (by omega)
 omega
theorem Ig(hg:zp g){x y:Int}(hx:0<=x/\x<g.W)(hy:0<=y/\y<g.H):
  0<=x+g.W*y/\x+g.W*y<g.W*g.H/\(x+g.W*y)%g.W=x/\(x+g.W*y)/g.W=y:=by
 obtain⟨⟨h1,h2⟩,⟨h3,h4⟩,_⟩:=hg
 have a1:0<=g.W*y:=Fa2 (by omega) hy.1
 have a2:g.W*y<=g.W*(g.H-1):=Fdw (by omega) (by omega)
 have a3:g.W*(g.H-1)=g.W*g.H-g.W:=by rw[Int.mul_sub,Int.mul_one]
 refine⟨by omega,by omega,?_,?_⟩
 ·rw[Int.add_mul_emod_self_left];exact Fd7 hx.1 hx.2
 ·rw[Int.add_mul_ediv_left _ _ (by omega),Fdm hx.1 hx.2];omega
theorem Df(hg:zp g){b:Bld}(hb:yv b)(ho:onP g b)(t:Int):t∈kk g.W b↔∃n:Nat,t=(n:Int)/\(n:Int)<g.W*g.H/\wi g b n:=by
 have hb':=hb
 have ho':=ho
 unfold yv at hb'
 unfold onP at ho'
 unfold kk v8 vk
 rw[List.mem_flatMap]
 constructor
 ·rintro⟨y,hy,hx⟩
  obtain⟨x,hx2,rfl⟩:=Fad.1 hx
  have hy:=Fbb.1 hy
  have hx:=Fbb.1 hx2
  obtain⟨q1,q2,q3,q4⟩:=Ig hg (x:=b.x+x) (y:=b.y+y) (by omega) (by omega)
  refine⟨(b.x+(x:Int)+g.W*(b.y+(y:Int))).toNat,by omega,by omega,?_⟩
  unfold wi
  rw[show(((b.x+(x:Int)+g.W*(b.y+(y:Int))).toNat:Nat):Int)=b.x+(x:Int)+g.W*(b.y+(y:Int)) by omega,q3,q4]
  omega
 ·rintro⟨n,rfl,hn,hh⟩
  unfold wi at hh
  refine⟨((n:Int)/g.W-b.y).toNat,Fbb.2 (by omega),Fad.2 ⟨((n:Int)%g.W-b.x).toNat,Fbb.2 (by omega),?_⟩⟩
  have:=Int.emod_add_mul_ediv (n:Int) g.W
  rw[show(((n:Int)%g.W-b.x).toNat:Int)=(n:Int)%g.W-b.x by omega,show(((n:Int)/g.W-b.y).toNat:Int)=(n:Int)/g.W-b.y by omega]
  rw[show b.x+((n:Int)%g.W-b.x)=(n:Int)%g.W by omega,show b.y+((n:Int)/g.W-b.y)=(n:Int)/g.W by omega]
  exact this
def bl(n:Nat)(f:Nat->Bool):List AV:=(List.range n).map λt=>bool (f t)
theorem wl(n:Nat)(f:Nat->Bool):(bl n f).length=n:=by simp[bl]
theorem Dv{f:Nat->Bool}(h:t<n):(bl n f)[t]?=some (bool (f t)):=by simp[bl,h]
theorem Nj(n:Nat):List.replicate n (AV.s (.bool false))=bl n λ_=>false:=by
 unfold bl
 rw[List.map_const',Fd6]
 rfl
theorem Hx{f:Nat->Bool}(h:t<n)(g:Nat->Bool)(hg:∀s,s≠t->g s=f s):zv (bl n f) t [bool (g t)]=bl n g:=by
 unfold zv
 apply Fb2
 intro s
 by_cases h1:s<t
 ·rw[Fa1,Fah (by rw[Fat,wl];omega),Fbw h1,Dv (by omega),Dv (by omega),hg s (by omega)]
 ·by_cases h2:s=t
  ·subst h2
   rw[Fa1,Fau (by rw[Fat,wl];omega),Fat,wl,show s-min s n=0 by omega,Dv h]
   rfl
  ·rw[Fau (by rw[Faj,Fat,wl];simp;omega),Faj,Fat,wl,Fca]
   by_cases h3:s<n
   ·have e:t+[bool (g t)].length+(s-(min t n+[bool (g t)].length))=s:=by simp;omega
    rw[e,Dv h3,Dv h3,hg s h2]
   ·rw[Fbi (by rw[wl];simp;omega),Fbi (by rw[wl];omega)]
def xa(g:Gnd)(l:List Bld)(i:Nat)(ts:List Int)(k:Nat)(t:Nat):Bool:=qe g (l.take i) t||(ts.take k).contains (t:Int)
theorem i6(g:Gnd)(l:List Bld)(i:Nat)(ts:List Int)(t:Nat):xa g l i ts 0 t=qe g (l.take i) t:=by simp[xa]
theorem i7{l:List Bld}{ts:List Int}{k n:Nat}(hk:k<ts.length)(hn:ts[k]=(n:Int)):
  xa g l i ts (k+1) n=true/\∀s,s≠n->xa g l i ts (k+1) s=xa g l i ts k s:=by
 unfold xa
 rw[Fac hk,hn]
 refine⟨by simp,λs hs=>?_⟩
 rw[List.contains_append]
 have:[((n:Nat):Int)].contains (s:Int)=false:=by simp;omega
 rw[this,Bool.or_false]
theorem i8(hg:zp g){l:List Bld}(hi:i<l.length)(hb:yv l[i]/\onP g l[i])(ht:t<g.T.length):
  xa g l i (kk g.W l[i]) (kk g.W l[i]).length t=qe g (l.take (i+1)) t:=by
 have ha:=qm hg
 unfold xa qe
 rw[Fax,Fac hi,List.any_append]
 congr 1
 rw[Fb5,List.contains_iff_mem,Df hg hb.1 hb.2]
 simp only[List.any_cons,List.any_nil,Bool.or_false,decide_eq_true_eq]
 constructor
 ·rintro⟨n,h1,_,h2⟩
  have:n=t:=by omega
  subst this;exact h2
 ·intro h
  exact⟨t,rfl,by omega,h⟩
def vy(b:Bool):List AV:=[bool b]
def blL(n:Nat)(f:Nat->Bool):List Bool:=(List.range n).map f
theorem Cv(n:Nat)(f:Nat->Bool):(blL n f).length=n:=by simp[blL]
theorem Gc{f:Nat->Bool}(h:t<n):(blL n f)[t]'(by rw[Cv];exact h)=f t:=by simp[blL]
theorem zyg(n:Nat)(f:Nat->Bool):(rws vy (blL n f)).flatten=bl n f:=by
 unfold rws blL bl vy
 induction List.range n with
 |nil=>rfl
 |cons a l ih=>simp at ih⊢;exact ih
theorem zyi{f:Nat->Bool}(h:t<n):(rws vy (blL n f))[t]?=some (vy (f t)):=by
 unfold rws blL
 simp[h]
end
section
variable {g:Gnd}
theorem rn(W:Int)(b:Bld)(y k:Nat):(vk W b y k).Pairwise (·<·):=by
 unfold vk
 rw[List.pairwise_map]
 exact(List.pairwise_lt_range (n:=k)).imp λh=>by omega
theorem rl{W:Int}{b:Bld}(hW:1<=W)(hx:0<=b.x/\b.x+b.w<=W)(hw:1<=b.w)(k:Nat):(v8 W b k).Pairwise (·<·)/\∀t∈v8 W b k,t<W*(b.y+(k:Int)):=by
 induction k with
 |zero=>exact⟨List.Pairwise.nil,λt ht=>(by simp[v8]at ht)⟩
 |succ k ih=>
  rw[Ou]
  have hrow:∀t∈vk W b k b.w.toNat,W*(b.y+(k:Int))<=t/\t<W*(b.y+(k:Int))+W:=by
   intro t ht
   obtain⟨x,hx2,rfl⟩:=Fad.1 ht
   have:=Fbb.1 hx2
   omega
  have e:W*(b.y+((k+1:Nat):Int))=W*(b.y+(k:Int))+W:=by
   rw[show b.y+((k+1:Nat):Int)=(b.y+(k:Int))+1 by omega,Int.mul_add,Int.mul_one]
  refine⟨List.pairwise_append.2 ⟨ih.1,rn _ _ _ _,λa ha c hc=>?_⟩,λt ht=>?_⟩
  ·have h1:=ih.2 a ha
   have h2:=hrow c hc
   omega
  ·rw[e]
   rcases Fai.1 ht with ht|ht
   ·have:=ih.2 t ht;omega
   ·have:=hrow t ht;omega
theorem rm(hg:zp g){b:Bld}(hb:yv b/\onP g b):(kk g.W b).Pairwise (·<·):=by
 unfold yv onP at hb
 exact(rl hg.1.1 hb.2.1 (by omega) _).1
theorem zrb{l:List Int}(h:l.Pairwise (·<·)){k:Nat}(hk:k<l.length):l[k]∉l.take k:=by
 intro hm
 obtain⟨j,hj,e⟩:=Fan hm
 rw[Fat]at hj
 rw[Fc6]at e
 have:=Fcc.1 h j k (by omega) hk (by omega)
 omega
theorem d9(hg:zp g){a b:Bld}(ha:yv a/\onP g a)(hb:yv b/\onP g b):At a b↔∃t:Nat,(t:Int)<g.W*g.H/\wi g a t/\wi g b t:=by
 unfold yv onP at ha hb
 unfold At
 constructor
 ·intro h
  obtain⟨q1,q2,q3,q4⟩:=Ig hg (x:=max a.x b.x) (y:=max a.y b.y) (by omega) (by omega)
  refine⟨(max a.x b.x+g.W*max a.y b.y).toNat,by omega,?_⟩
  unfold wi
  rw[show(((max a.x b.x+g.W*max a.y b.y).toNat:Nat):Int)=max a.x b.x+g.W*max a.y b.y by omega,q3,q4]
  omega
 ·rintro⟨t,_,h1,h2⟩
  unfold wi at h1 h2
  omega
theorem covB_iff{l:List Bld}{t:Nat}:qe g l t=true↔∃b∈l,wi g b t:=by
 unfold qe
 rw[Fef]
 simp
def Sv(g:Gnd)(l:List Bld)(i:Nat):Prop:=∀j,(h:j<l.length)->j<i->(yv l[j]/\onP g l[j]/\Cr g l[j])/\∀k,(hk:k<j)->¬At l[j] (l[k]'(by omega))
theorem zx3{l:List Bld}(h:Sv g l l.length):(∀b∈l,yv b/\onP g b/\Cr g b)/\Nq l:=by
 refine⟨λb hb=>?_,λj hj k hk=>(h j hj hj).2 k hk⟩
 obtain⟨j,hj,rfl⟩:=Fan hb
 exact(h j hj hj).1
theorem zw0(hg:zp g){l:List Bld}{i:Nat}(hi:i<l.length)(hb:yv l[i]/\onP g l[i])(hup:Sv g l i):
  (∃t∈kk g.W l[i],qe g (l.take i) t.toNat=true)↔∃k,∃hk:k<i,At l[i] (l[k]'(by omega)):=by
 constructor
 ·rintro⟨t,ht,hc⟩
  obtain⟨n,rfl,hn,hh⟩:=(Df hg hb.1 hb.2 t).1 ht
  rw[Fba]at hc
  obtain⟨b,hb2,hh2⟩:=covB_iff.1 hc
  obtain⟨k,hk,rfl⟩:=Fan hb2
  rw[Fat]at hk
  rw[Fc6]at hh2
  have:=(hup k (by omega) (by omega)).1
  exact⟨k,by omega,(d9 hg hb ⟨this.1,this.2.1⟩).2 ⟨n,hn,hh,hh2⟩⟩
 ·rintro⟨k,hk,hm⟩
  have:=(hup k (by omega) (by omega)).1
  obtain⟨n,hn,h1,h2⟩:=(d9 hg hb ⟨this.1,this.2.1⟩).1 hm
  refine⟨(n:Int),(Df hg hb.1 hb.2 _).2 ⟨n,rfl,hn,h1⟩,?_⟩
  rw[Fba]
  refine covB_iff.2 ⟨l[k],?_,h2⟩
  have:(l.take i)[k]'(by rw[Fat];omega)=l[k]:=Fc6
  rw[<-this]
  exact Fab _
end
end Go.V
namespace Go.V
theorem Mo{g:Gnd}{t:Nat}{p:Vc}{r:Int}(hr:0<r)(h:ve g t p r):
  (tx g t<p.1+r/\p.1-r<tx g t+65536)/\(ty g t<p.2+r/\p.2-r<ty g t+65536):=by
 unfold ve at h
 have n:∀x lo:Int,0<=off x lo:=λx lo=>by unfold off;split<;>(try split)<;>omega
 have a:=Wr (n p.1 (tx g t)) hr (by have:=Fa2 (n p.2 (ty g t)) (n p.2 (ty g t));omega)
 have b:=Wr (n p.2 (ty g t)) hr (by have:=Fa2 (n p.1 (tx g t)) (n p.1 (tx g t));omega)
 unfold off at a b
 refine⟨?_,?_⟩
 ·generalize tx g t=X at a
  split at a
  ·omega
  ·split at a<;>omega
 ·generalize ty g t=Y at b
  split at b
  ·omega
  ·split at b<;>omega
section
variable {P:Program} {c:Cfg}
theorem je{ops:Array Oper}{o:Oper}{A:Fr}{go skip:Fr->Prop}(hg:o.guard=none)(h:go A):Dp ops o A go skip:=by
 unfold Dp;rw[hg];exact h
theorem xy{o:Oper}{t:TypeId}{a x:Operand}{K:Fr->Store->Prop}{A:Fr}{st:Store}{i:TI}{v:AV}(ho:o.op=.store t a x)(hd:o.dst=none)(hi:c.I t=some i)(hx:A.ev x=.av v)(h:Cd i A st (A.ev a) v K):wq P c o K A st:=by
 unfold wq
 rw[ho]
 show Bf P c o K A st
 unfold Bf
 rw[ho]
 simp only[hd,Option.isNone_none,cond_true,hx]
 exact za i hi h
end
theorem dv{A:Int}{m:Nat}(h:(m:Int)<A):A.toNat-(m+1)<A.toNat-m:=by omega
theorem Ss(a:Int)(m:Nat):a+((m+1:Nat):Int)=a+(m:Int)+1:=by omega
theorem Mh{A x:Int}{m:Nat}(h:x+(m:Int)<A):((m+1:Nat):Int)<=A-x:=by omega
def Hv(g:Gnd)(l:List Bld)(c:Int)(p:Vc)(r y:Int):Prop:=∀t,t<g.T.length->(t:Int)/g.W<y->ye g l c t=false->¬ve g t p r
def Kq(g:Gnd)(l:List Bld)(c:Int)(p:Vc)(r y x:Int):Prop:=∀t,t<g.T.length->(t:Int)/g.W=y->(t:Int)%g.W<x->ye g l c t=false->¬ve g t p r
theorem zxj{g:Gnd}{l:List Bld}{c:Int}{p:Vc}{r:Int}(hr:0<r)(hp:0<=p.2-r):Hv g l c p r ((p.2-r)/65536):=by
 intro t _ hy _ hh
 have:=(Mo hr hh).2
 unfold ty at this
 generalize(t:Int)/g.W=Y at*
 omega
theorem zxm{g:Gnd}{l:List Bld}{c:Int}{p:Vc}{r y:Int}(hr:0<r)(hp:0<=p.1-r):Kq g l c p r y ((p.1-r)/65536):=by
 intro t _ _ hx _ hh
 have:=(Mo hr hh).1
 unfold tx at this
 generalize(t:Int)%g.W=X at*
 omega
theorem zxn{g:Gnd}(hg:zp g){l:List Bld}{c:Int}{p:Vc}{r y x:Int}(hr:0<r)(hp:0<=p.1+r)(hx:¬(x<=(p.1+r)/65536)\/¬(x<g.W))(hu:Hv g l c p r y)(h:Kq g l c p r y x):Hv g l c p r (y+1):=by
 intro t ht hy ho hh
 by_cases e:(t:Int)/g.W=y
 ·by_cases e2:(t:Int)%g.W<x
  ·exact h t ht e e2 ho hh
  ·have h1:=(Mo hr hh).1
   have h2:=(D8 hg (t:=t) (by have:=(qm hg).2.2;omega)).1
   unfold tx at h1
   generalize(t:Int)%g.W=X at*
   omega
 ·exact hu t ht (by omega) ho hh
theorem zxk{g:Gnd}(hg:zp g){l:List Bld}{c:Int}{p:Vc}{r y:Int}(hr:0<r)(hp:0<=p.2+r)(hy:¬(y<=(p.2+r)/65536)\/¬(y<g.H))(hu:Hv g l c p r y):∀t,t<g.T.length->ye g l c t=false->¬ve g t p r:=by
 intro t ht ho hh
 by_cases e:(t:Int)/g.W<y
 ·exact hu t ht e ho hh
 ·have h1:=(Mo hr hh).2
  have h2:=(D8 hg (t:=t) (by have:=(qm hg).2.2;omega)).2
  unfold ty at h1
  generalize(t:Int)/g.W=Y at*
  omega
theorem zxl{g:Gnd}(hg:zp g){l:List Bld}{c:Int}{p:Vc}{r y x:Int}(hx:0<=x/\x<g.W)(hy:0<=y/\y<g.H)(h:Kq g l c p r y x)(hn:ye g l c (x+g.W*y).toNat=false->¬ve g (x+g.W*y).toNat p r):Kq g l c p r y (x+1):=by
 intro t ht e1 e2 ho
 by_cases e:(t:Int)%g.W<x
 ·exact h t ht e1 e ho
 ·have e3:(t:Int)%g.W=x:=by omega
  have q:=Int.emod_add_mul_ediv (t:Int) g.W
  rw[e1,e3]at q
  have:(x+g.W*y).toNat=t:=by rw[q];omega
  rw[this]at hn
  exact hn ho
section
variable {g:Gnd} {x y:Int} {s:Nat}
def onG(g:Gnd)(x y:Int):Prop:=(0<=x/\x<g.W)/\(0<=y/\y<g.H)
instance(g:Gnd)(x y:Int):Decidable (onG g x y):=inferInstanceAs (Decidable (_/\_))
def tl(g:Gnd)(x y:Int):Nat:=(x+g.W*y).toNat
theorem Bi(hg:zp g)(h:onG g x y):((tl g x y:Nat):Int)=x+g.W*y/\tl g x y<g.T.length/\(tl g x y:Int)%g.W=x/\(tl g x y:Int)/g.W=y:=by
 obtain⟨h1,h2,h3⟩:=qm hg
 obtain⟨⟨hx,hx2⟩,hy,hy2⟩:=h
 have hW:1<=g.W:=hg.1.1
 have e0:0<=g.W*y:=Fa2 (by omega) hy
 have e:((tl g x y:Nat):Int)=x+g.W*y:=by unfold tl;omega
 have e1:g.W*y<=g.W*(g.H-1):=Fbn (Fcl _) (by omega) hy (by omega)
 rw[Int.mul_sub,Int.mul_one]at e1
 refine⟨e,by omega,?_,?_⟩
 ·rw[e,Int.add_mul_emod_self_left,Fd7 hx hx2]
 ·rw[e,Int.add_mul_ediv_left _ _ (by omega),Fdm hx hx2,Int.zero_add]
theorem zq9(hg:zp g){t:Nat}(ht:t<g.T.length):onG g ((t:Int)%g.W) ((t:Int)/g.W)/\tl g ((t:Int)%g.W) ((t:Int)/g.W)=t:=by
 obtain⟨h1,h2,h3⟩:=qm hg
 have hW:1<=g.W:=hg.1.1
 have a:=Int.emod_nonneg (t:Int) (show g.W≠0 by omega)
 have b:=Int.emod_lt_of_pos (t:Int) (show 0<g.W by omega)
 have c:=Fc0 (show 0<=(t:Int) by omega) (show 0<=g.W by omega)
 have d:(t:Int)/g.W<g.H:=Int.ediv_lt_of_lt_mul (by omega) (by rw[Fcv];omega)
 refine⟨⟨⟨a,b⟩,c,d⟩,?_⟩
 unfold tl
 rw[Int.emod_add_mul_ediv]
 omega
def sqP(g:Gnd)(f:Nat->Bool)(s:Nat)(x y:Int):Prop:=∀a b:Int,-(s:Int)<=a->a<=s->-(s:Int)<=b->b<=s->onG g (x+a) (y+b)/\f (tl g (x+a) (y+b))=true
theorem sq_zero{f:Nat->Bool}:sqP g f 0 x y↔onG g x y/\f (tl g x y)=true:=by
 constructor
 ·intro h
  have:=h 0 0 (by decide) (by decide) (by decide) (by decide)
  simpa using this
 ·intro h a b h1 h2 h3 h4
  have ea:a=0:=by omega
  have eb:b=0:=by omega
  subst ea eb
  simpa using h
theorem sq_succ{f:Nat->Bool}:sqP g f (s+1) x y↔∀a b:Int,-1<=a->a<=1->-1<=b->b<=1->onG g (x+a) (y+b)/\sqP g f s (x+a) (y+b):=by
 constructor
 ·intro h a b h1 h2 h3 h4
  refine⟨(h a b (by omega) (by omega) (by omega) (by omega)).1,λa' b' k1 k2 k3 k4=>?_⟩
  have:=h (a+a') (b+b') (by omega) (by omega) (by omega) (by omega)
  rw[<-Int.add_assoc,<-Int.add_assoc]at this
  exact this
 ·intro h a b h1 h2 h3 h4
  obtain⟨a1,ha1,ha2,ha3,ha4⟩:∃a1:Int,-1<=a1/\a1<=1/\-(s:Int)<=a-a1/\a-a1<=s:=by
   by_cases c1:a>s
   ·exact⟨1,by omega,by omega,by omega,by omega⟩
   ·by_cases c2:a< -s
    ·exact⟨-1,by omega,by omega,by omega,by omega⟩
    ·exact⟨0,by omega,by omega,by omega,by omega⟩
  obtain⟨b1,hb1,hb2,hb3,hb4⟩:∃b1:Int,-1<=b1/\b1<=1/\-(s:Int)<=b-b1/\b-b1<=s:=by
   by_cases c1:b>s
   ·exact⟨1,by omega,by omega,by omega,by omega⟩
   ·by_cases c2:b< -s
    ·exact⟨-1,by omega,by omega,by omega,by omega⟩
    ·exact⟨0,by omega,by omega,by omega,by omega⟩
  have:=(h a1 b1 ha1 ha2 hb1 hb2).2 (a-a1) (b-b1) ha3 ha4 hb3 hb4
  rw[show x+a1+(a-a1)=x+a by omega,show y+b1+(b-b1)=y+b by omega]at this
  exact this
theorem Ws{f:Nat->Bool}{s':Nat}(hs:s'<=s)(h:sqP g f s x y):sqP g f s' x y:=λa b h1 h2 h3 h4=>h a b (by omega) (by omega) (by omega) (by omega)
def m5(a b c d e:Int):Int:=min (min (min (min a (b+1)) (c+1)) (d+1)) (e+1)
theorem zxr{f:Nat->Bool}{A B:Int->Int->Int}(oA:∀x y,¬onG g x y->A x y=0)(oB:∀x y,¬onG g x y->B x y=0)
  (hA:∀x y,onG g x y->A x y=m5 (if f (tl g x y)then 128 else 0) (A (x-1) y) (A (x-1) (y-1)) (A x (y-1)) (A (x+1) (y-1)))
  (hB:∀x y,onG g x y->B x y=m5 (A x y) (B (x+1) y) (B (x+1) (y+1)) (B x (y+1)) (B (x-1) (y+1))) (hxy:onG g x y) (s:Nat) (hs:s<=127):(s:Int)<B x y↔sqP g f s x y:=by
 -- not below 0
 have nA:∀n:Nat,∀x y,onG g x y->y*200+x<n->0<=A x y:=by
  intro n
  induction n with
  |zero=>intro x y h hn;obtain⟨⟨h1,h2⟩,h3,h4⟩:=h;omega
  |succ n ih=>
   intro x y h hn
   have any:∀x' y',y'*200+x'<y*200+x->0<=A x' y':=λx' y' hl=>by
    by_cases ho:onG g x' y'
    ·exact ih x' y' ho (by omega)
    ·rw[oA x' y' ho];decide
   rw[hA x y h]
   have a1:=any (x-1) y (by omega)
   have a2:=any (x-1) (y-1) (by omega)
   have a3:=any x (y-1) (by omega)
   have a4:=any (x+1) (y-1) (by omega)
   have a5:(0:Int)<=(if f (tl g x y)then 128 else 0):=by split<;>decide
   unfold m5
   omega
 have pA:∀x y,0<=A x y:=λx y=>by
  by_cases ho:onG g x y
  ·exact nA (y*200+x+1).toNat x y ho (by obtain⟨⟨h1,h2⟩,h3,h4⟩:=ho;omega)
  ·rw[oA x y ho];decide
 have nB:∀n:Nat,∀x y,onG g x y->(g.H-y)*200+(g.W-x)<n->0<=B x y:=by
  intro n
  induction n with
  |zero=>intro x y h hn;obtain⟨⟨h1,h2⟩,h3,h4⟩:=h;omega
  |succ n ih=>
   intro x y h hn
   have any:∀x' y',(g.H-y')*200+(g.W-x')<(g.H-y)*200+(g.W-x)->0<=B x' y':=λx' y' hl=>by
    by_cases ho:onG g x' y'
    ·exact ih x' y' ho (by omega)
    ·rw[oB x' y' ho];decide
   rw[hB x y h]
   have a1:=any (x+1) y (by omega)
   have a2:=any (x+1) (y+1) (by omega)
   have a3:=any x (y+1) (by omega)
   have a4:=any (x-1) (y+1) (by omega)
   have a5:=pA x y
   unfold m5
   omega
 have pB:∀x y,0<=B x y:=λx y=>by
  by_cases ho:onG g x y
  ·exact nB ((g.H-y)*200+(g.W-x)+1).toNat x y ho (by obtain⟨⟨h1,h2⟩,h3,h4⟩:=ho;omega)
  ·rw[oB x y ho];decide
 constructor
 ·-- what is bad is not farther than its steps
  have up1:∀d:Nat,∀x y a b,onG g x y->-(d:Int)<=a->a<=d->-(d:Int)<=b->b<=0->a<=-b->¬(onG g (x+a) (y+b)/\f (tl g (x+a) (y+b))=true)->A x y<=d:=by
   intro d
   induction d with
   |zero=>
    intro x y a b h h1 h2 h3 h4 h5 hbad
    have ea:a=0:=by omega
    have eb:b=0:=by omega
    subst ea eb
    rw[Fb4,Fb4]at hbad
    have hf:¬f (tl g x y)=true:=λhf=>hbad ⟨h,hf⟩
    rw[hA x y h,if_neg hf]
    unfold m5
    omega
   |succ d ih=>
    intro x y a b h h1 h2 h3 h4 h5 hbad
    have go:∀u v:Int,-(d:Int)<=a-u->a-u<=d->-(d:Int)<=b-v->b-v<=0->a-u<=-(b-v)->A (x+u) (y+v)<=d:=λu v g1 g2 g3 g4 g5=>by
     by_cases ho:onG g (x+u) (y+v)
     ·refine ih (x+u) (y+v) (a-u) (b-v) ho g1 g2 g3 g4 g5 ?_
      rw[show x+u+(a-u)=x+a by omega,show y+v+(b-v)=y+b by omega]
      exact hbad
     ·rw[oA _ _ ho];omega
    have hk:=hA x y h
    unfold m5 at hk
    by_cases cb:b=0
    ·by_cases ca:a=0
     ·subst ca cb
      rw[Fb4,Fb4]at hbad
      have hf:¬f (tl g x y)=true:=λhf=>hbad ⟨h,hf⟩
      rw[if_neg hf]at hk
      omega
     ·have:=go (-1) 0 (by omega) (by omega) (by omega) (by omega) (by omega)
      rw[show x+-1=x-1 by omega,Fb4]at this
      omega
    ·by_cases ca:a=0
     ·have:=go 0 (-1) (by omega) (by omega) (by omega) (by omega) (by omega)
      rw[show y+-1=y-1 by omega,Fb4]at this
      omega
     ·by_cases ca2:a<0
      ·have:=go (-1) (-1) (by omega) (by omega) (by omega) (by omega) (by omega)
       rw[show y+-1=y-1 by omega,show x+-1=x-1 by omega]at this
       omega
      ·have:=go 1 (-1) (by omega) (by omega) (by omega) (by omega) (by omega)
       rw[show y+-1=y-1 by omega]at this
       omega
  have up2:∀d:Nat,∀x y a b,onG g x y->-(d:Int)<=a->a<=d->-(d:Int)<=b->b<=d->¬(onG g (x+a) (y+b)/\f (tl g (x+a) (y+b))=true)->B x y<=d:=by
   intro d
   induction d with
   |zero=>
    intro x y a b h h1 h2 h3 h4 hbad
    have:=up1 0 x y a b h h1 h2 h3 (by omega) (by omega) hbad
    have hk:=hB x y h
    unfold m5 at hk
    omega
   |succ d ih=>
    intro x y a b h h1 h2 h3 h4 hbad
    have hk:=hB x y h
    unfold m5 at hk
    by_cases cone:b<=0/\a<=-b
    ·have:=up1 (d+1) x y a b h h1 h2 h3 cone.1 cone.2 hbad
     omega
    have go:∀u v:Int,-(d:Int)<=a-u->a-u<=d->-(d:Int)<=b-v->b-v<=d->B (x+u) (y+v)<=d:=λu v g1 g2 g3 g4=>by
     by_cases ho:onG g (x+u) (y+v)
     ·refine ih (x+u) (y+v) (a-u) (b-v) ho g1 g2 g3 g4 ?_
      rw[show x+u+(a-u)=x+a by omega,show y+v+(b-v)=y+b by omega]
      exact hbad
     ·rw[oB _ _ ho];omega
    by_cases cb:b<=0
    ·have:=go 1 0 (by omega) (by omega) (by omega) (by omega)
     rw[Fb4]at this
     omega
    ·by_cases ca:a=0
     ·have:=go 0 1 (by omega) (by omega) (by omega) (by omega)
      rw[Fb4]at this
      omega
     ·by_cases ca2:a<0
      ·have:=go (-1) 1 (by omega) (by omega) (by omega) (by omega)
       rw[show x+-1=x-1 by omega]at this
       omega
      ·have:=go 1 1 (by omega) (by omega) (by omega) (by omega)
       omega
  intro hlt a b h1 h2 h3 h4
  refine Classical.byContradiction λhbad=>?_
  have:=up2 s x y a b hxy h1 h2 h3 h4 hbad
  omega
 ·-- what is good all about is far
  have loA:∀s:Nat,s<=127->∀x y,sqP g f s x y->(s:Int)<A x y:=by
   intro s
   induction s with
   |zero=>
    intro _ x y h
    obtain⟨ho,hf⟩:=sq_zero.1 h
    rw[hA x y ho,if_pos hf]
    have a1:=pA (x-1) y
    have a2:=pA (x-1) (y-1)
    have a3:=pA x (y-1)
    have a4:=pA (x+1) (y-1)
    unfold m5
    omega
   |succ s ih=>
    intro hs x y h
    have h2:=sq_succ.1 h
    have nb:=λ(a b:Int) h3 h4 h5 h6=>ih (by omega) _ _ (h2 a b h3 h4 h5 h6).2
    obtain⟨ho,hf⟩:=sq_zero.1 (Ws (Faq _) h)
    have a1:=nb (-1) 0 (by decide) (by decide) (by decide) (by decide)
    have a2:=nb (-1) (-1) (by decide) (by decide) (by decide) (by decide)
    have a3:=nb 0 (-1) (by decide) (by decide) (by decide) (by decide)
    have a4:=nb 1 (-1) (by decide) (by decide) (by decide) (by decide)
    rw[show x+-1=x-1 by omega]at a1 a2
    rw[show y+-1=y-1 by omega]at a2 a3 a4
    rw[Fb4]at a1 a3
    rw[hA x y ho,if_pos hf]
    unfold m5
    omega
  have loB:∀s:Nat,s<=127->∀x y,sqP g f s x y->(s:Int)<B x y:=by
   intro s
   induction s with
   |zero=>
    intro hs x y h
    obtain⟨ho,hf⟩:=sq_zero.1 h
    rw[hB x y ho]
    have a1:=pB (x+1) y
    have a2:=pB (x+1) (y+1)
    have a3:=pB x (y+1)
    have a4:=pB (x-1) (y+1)
    have a5:=loA 0 hs x y h
    unfold m5
    omega
   |succ s ih=>
    intro hs x y h
    have h2:=sq_succ.1 h
    have nb:=λ(a b:Int) h3 h4 h5 h6=>ih (by omega) _ _ (h2 a b h3 h4 h5 h6).2
    obtain⟨ho,hf⟩:=sq_zero.1 (Ws (Faq _) h)
    have a1:=nb 1 0 (by decide) (by decide) (by decide) (by decide)
    have a2:=nb 1 1 (by decide) (by decide) (by decide) (by decide)
    have a3:=nb 0 1 (by decide) (by decide) (by decide) (by decide)
    have a4:=nb (-1) 1 (by decide) (by decide) (by decide) (by decide)
    rw[show x+-1=x-1 by omega]at a4
    rw[Fb4]at a1 a3
    have a5:=loA (s+1) hs x y h
    rw[hB x y ho]
    unfold m5
    omega
  exact loB s hs x y
end
def zzs(i j:Int):Int:=max (max i (-i)) (max j (-j))
def zpv(g:Gnd)(x y k d:Int)(t:Nat):Bool:=decide (zzs ((t:Int)%g.W-x) ((t:Int)/g.W-y)=d/\((t:Int)%g.W-x).tmod k=0/\((t:Int)/g.W-y).tmod k=0)
def br(g:Gnd)(x y k d:Int):List Nat:=(List.range g.T.length).filter (zpv g x y k d)
def O6(g:Gnd)(f:Nat->Bool)(x y k d:Int):List Nat:=(br g x y k d).filter f
def Lj(g:Gnd)(f:Nat->Bool)(x y k:Int):Nat->List Nat
 |0=>[]
 |d+1=>Lj g f x y k d++O6 g f x y k d
def zmu(g:Gnd)(f:Nat->Bool)(size goal:Int)(n:Nat):List Nat:=(Lj g f (goal%g.W) (goal/g.W) (2*size+1) (g.W+g.H+1).toNat).take n
section
variable {n t:Nat} {g:Gnd}
def il(n:Nat)(f:Nat->Int):List AV:=(List.range n).map λt=>int (f t)
theorem qi(n:Nat)(f:Nat->Int):(il n f).length=n:=by simp[il]
theorem Ay{f:Nat->Int}(h:t<n):(il n f)[t]?=some (int (f t)):=by simp[il,h]
theorem vr{f:Nat->Int}(h:t<n):((il n f).drop (0+t*1)).head?=some (int (f t)):=by
 rw[Fb9,show 0+t*1=t by omega,Ay h]
theorem l9{f:Nat->Bool}(h:t<n):((bl n f).drop (0+t*1)).head?=some (bool (f t)):=by
 rw[Fb9,show 0+t*1=t by omega,Dv h]
theorem fm(n:Nat):List.replicate n (AV.s (.int .i64 0))=il n λ_=>0:=by
 unfold il
 rw[List.map_const',Fd6]
 rfl
def setI(f:Nat->Int)(t:Nat)(v:Int):Nat->Int:=λs=>if s=t then v else f s
theorem Il(f:Nat->Int)(t:Nat)(v:Int):setI f t v t=v:=if_pos rfl
theorem Gx(f:Nat->Int){s:Nat}(v:Int)(h:s≠t):setI f t v s=f s:=if_neg h
theorem zm2(f:Nat->Int)(t:Nat):setI f t (f t)=f:=funext λs=>by
 unfold setI
 split
 ·rename_i h;rw[h]
 ·rfl
theorem O8(f:Nat->Int)(t:Nat)(v u:Int):setI (setI f t v) t u=setI f t u:=funext λs=>by
 unfold setI
 split<;>simp_all
theorem fo{f:Nat->Int}(h:t<n)(g:Nat->Int)(hg:∀s,s≠t->g s=f s):zv (il n f) t [int (g t)]=il n g:=by
 unfold zv
 apply Fb2
 intro s
 by_cases h1:s<t
 ·rw[Fa1,Fah (by rw[Fat,qi];omega),Fbw h1,Ay (by omega),Ay (by omega),hg s (by omega)]
 ·by_cases h2:s=t
  ·subst h2
   rw[Fa1,Fau (by rw[Fat,qi];omega),Fat,qi,show s-min s n=0 by omega,Ay h]
   rfl
  ·rw[Fau (by rw[Faj,Fat,qi];simp;omega),Faj,Fat,qi,Fca]
   by_cases h3:s<n
   ·have e:t+[int (g t)].length+(s-(min t n+[int (g t)].length))=s:=by simp;omega
    rw[e,Ay h3,Ay h3,hg s h2]
   ·rw[Fbi (by rw[qi];simp;omega),Fbi (by rw[qi];omega)]
theorem Dk{f:Nat->Int}(h:t<n)(v:Int):zv (il n f) t [int v]=il n (setI f t v):=by
 have:=fo h (setI f t v) (λs hs=>Gx f v hs)
 rw[Il]at this
 exact this
def ilL(n:Nat)(f:Nat->Int):List Int:=(List.range n).map f
theorem Mm(n:Nat)(f:Nat->Int):(ilL n f).length=n:=by simp[ilL]
theorem zti{f:Nat->Int}(h:t<n):(ilL n f)[t]'(by rw[Mm];exact h)=f t:=by simp[ilL]
theorem ztg(n:Nat)(f:Nat->Int):(rws yo (ilL n f)).flatten=il n f:=by
 unfold rws ilL il
 rw[List.map_map]
 generalize List.range n=l
 induction l with
 |nil=>rfl
 |cons a l ih=>simp only[Fb0,Fco,ih];rfl
theorem I8{f g:Nat->Int}(h:∀t,t<n->f t=g t):il n f=il n g:=Fbt λt ht=>by rw[h t (Fbb.1 ht)]
theorem zyh{f g:Nat->Bool}(h:∀t,t<n->f t=g t):bl n f=bl n g:=Fbt λt ht=>by rw[h t (Fbb.1 ht)]
def gv(g:Gnd)(f:Nat->Int)(x y:Int):Int:=if onG g x y then f (tl g x y)else 0
def jy(g:Gnd)(f:Nat->Int)(x y:Int)(v:Int)(ws:List (Int×Int)):Int:=ws.foldl (λv d=>min v (gv g f (x+d.1) (y+d.2)+1)) v
theorem fy(hg:zp g){f:Nat->Int}(hf:∀t,t<g.T.length->0<=f t/\f t<=128)(x y:Int):0<=gv g f x y/\gv g f x y<=128:=by
 unfold gv
 split
 ·rename_i h;exact hf _ (Bi hg h).2.1
 ·omega
theorem Pr(hg:zp g){f:Nat->Int}(hf:∀t,t<g.T.length->0<=f t/\f t<=128)(x y:Int):∀(ws:List (Int×Int)) (v:Int),0<=v/\v<=128->0<=jy g f x y v ws/\jy g f x y v ws<=128
 |[],v,hv=>hv
 |d::r,v,hv=>by
  have:=fy hg hf (x+d.1) (y+d.2)
  exact Pr hg hf x y r (min v (gv g f (x+d.1) (y+d.2)+1)) (by omega)
theorem zqt(g:Gnd)(f:Nat->Int)(x y v:Int)(ws:List (Int×Int)){i:Nat}(hi:i<ws.length):jy g f x y v (ws.take (i+1))=min (jy g f x y v (ws.take i)) (gv g f (x+ws[i].1) (y+ws[i].2)+1):=by
 unfold jy
 rw[Fac hi,List.foldl_append]
 rfl
theorem zm3{f:Nat->Int}(hf:∀t,t<n->0<=f t/\f t<=128){v:Int}(hv:0<=v/\v<=128):∀s,s<n->0<=setI f t v s/\setI f t v s<=128:=λs hs=>by
 unfold setI
 split
 ·exact hv
 ·exact hf s hs
theorem ztu(hg:zp g)(f:Nat->Int)(v:Int){dx dy:Int}(hd:dx≠0\/dy≠0):gv g (setI f t v) ((t:Int)%g.W+dx) ((t:Int)/g.W+dy)=gv g f ((t:Int)%g.W+dx) ((t:Int)/g.W+dy):=by
 unfold gv
 split
 ·rename_i h
  obtain⟨_,_,h3,h4⟩:=Bi hg h
  refine Gx f v λe=>?_
  rw[e]at h3 h4
  omega
 ·rfl
def Hi:List (Int×Int):=[(-1,0),(-1,-1),(0,-1),(1,-1)]
def Ga:List (Int×Int):=[(1,0),(1,1),(0,1),(-1,1)]
def D2(d:Int×Int):List AV:=[int d.1,int d.2]
def Gq(g:Gnd)(f:Nat->Int)(ws:List (Int×Int))(t:Nat):Nat->Int:=setI f t (jy g f ((t:Int)%g.W) ((t:Int)/g.W) (f t) ws)
def ju(g:Gnd)(f:Nat->Int):Nat->Nat->Int
 |0=>f
 |i+1=>Gq g (ju g f i) Hi i
def vl(g:Gnd)(f:Nat->Int)(n:Nat):Nat->Nat->Int
 |0=>f
 |j+1=>Gq g (vl g f n j) Ga (n-1-j)
theorem Wf(hg:zp g){f:Nat->Int}(hf:∀t,t<g.T.length->0<=f t/\f t<=128){ws:List (Int×Int)}(ht:t<g.T.length):∀s,s<g.T.length->0<=Gq g f ws t s/\Gq g f ws t s<=128:=
 zm3 hf (Pr hg hf _ _ _ _ (hf t ht))
theorem Oy(hg:zp g){f:Nat->Int}(hf:∀t,t<g.T.length->0<=f t/\f t<=128):∀i,i<=g.T.length->∀s,s<g.T.length->0<=ju g f i s/\ju g f i s<=128
 |0,_=>hf
 |i+1,hi=>Wf hg (Oy hg hf i (by omega)) (by omega)
theorem Wh(hg:zp g){f:Nat->Int}(hf:∀t,t<g.T.length->0<=f t/\f t<=128):∀i,i<=g.T.length->∀s,s<g.T.length->0<=vl g f g.T.length i s/\vl g f g.T.length i s<=128
 |0,_=>hf
 |i+1,hi=>Wf hg (Wh hg hf i (by omega)) (by omega)
theorem Wi(g:Gnd)(f:Nat->Int):∀i s,i<=s->ju g f i s=f s
 |0,_,_=>rfl
 |i+1,s,h=>by
  show setI _ i _ s=_
  rw[Gx _ _ (by omega),Wi g f i s (by omega)]
theorem Ld(g:Gnd)(f:Nat->Int):∀i s,s<i->ju g f i s=ju g f (s+1) s
 |0,_,h=>absurd h (Fbh _)
 |i+1,s,h=>by
  by_cases e:s=i
  ·subst e;rfl
  ·show setI _ i _ s=_
   rw[Gx _ _ e,Ld g f i s (by omega)]
theorem Wg(g:Gnd)(f:Nat->Int)(n:Nat):∀j s,s+j<n->vl g f n j s=f s
 |0,_,_=>rfl
 |j+1,s,h=>by
  show setI _ (n-1-j) _ s=_
  rw[Gx _ _ (by omega),Wg g f n j s (by omega)]
theorem Lc(g:Gnd)(f:Nat->Int)(n:Nat):∀j s,s<n->j<=n->n<=s+j->vl g f n j s=vl g f n (n-1-s+1) s
 |0,s,h,_,h2=>absurd h2 (by omega)
 |j+1,s,h,h1,h2=>by
  by_cases e:s=n-1-j
  ·have:j+1=n-1-s+1:=by omega
   rw[this]
  ·show setI _ (n-1-j) _ s=_
   rw[Gx _ _ e,Lc g f n j s h (by omega) (by omega)]
theorem zqv(g:Gnd)(f:Nat->Int)(x y v:Int):jy g f x y v Hi=m5 v (gv g f (x-1) y) (gv g f (x-1) (y-1)) (gv g f x (y-1)) (gv g f (x+1) (y-1)):=by
 unfold jy Hi m5
 simp only[Fce,List.foldl_nil,Fb4,<-Fdg]
theorem zqu(g:Gnd)(f:Nat->Int)(x y v:Int):jy g f x y v Ga=m5 v (gv g f (x+1) y) (gv g f (x+1) (y+1)) (gv g f x (y+1)) (gv g f (x-1) (y+1)):=by
 unfold jy Ga m5
 simp only[Fce,List.foldl_nil,Fb4,<-Fdg]
def Am(g:Gnd)(o:Nat->Bool):Nat->Int:=vl g (ju g (λt=>if o t then 128 else 0) g.T.length) g.T.length g.T.length
theorem zpr(hg:zp g)(o:Nat->Bool)(ht:t<g.T.length)(s:Nat)(hs:s<=127):(s:Int)<Am g o t↔sqP g o s ((t:Int)%g.W) ((t:Int)/g.W):=by
 have hW:1<=g.W:=hg.1.1
 obtain⟨ho,he⟩:=zq9 hg ht
 have key:=zxr (g:=g) (f:=o) (A:=gv g (ju g (λt=>if o t then 128 else 0) g.T.length)) (B:=gv g (Am g o))
  (λx y h=>if_neg h) (λx y h=>if_neg h) (λx y h=>?_) (λx y h=>?_) ho s hs
 ·rw[<-key]
  unfold gv
  rw[if_pos ho,he]
 ·obtain⟨e1,e2,e3,e4⟩:=Bi hg h
  have nb:∀dx dy:Int,(dy=-1\/dy=0/\dx=-1)->dx<=1->gv g (ju g (λt=>if o t then 128 else 0) (tl g x y)) (x+dx) (y+dy)=gv g (ju g (λt=>if o t then 128 else 0) g.T.length) (x+dx) (y+dy):=λdx dy hd hx=>by
   unfold gv
   split
   ·rename_i h2
    obtain⟨f1,f2,f3,f4⟩:=Bi hg h2
    have hlt:tl g (x+dx) (y+dy)<tl g x y:=by
     have hb:=h.1
     have hb2:=h2.1
     rcases hd with rfl|⟨rfl,rfl⟩
     ·have:g.W*(y+-1)=g.W*y-g.W:=by rw[Int.mul_add];omega
      rw[this]at f1
      have hne:(tl g (x+dx) (y+-1):Int)≠tl g x y:=λe=>by
       rw[e,e4]at f4
       omega
      omega
     ·rw[Fb4]at f1⊢
      omega
    rw[Ld g _ _ _ hlt,Ld g _ _ _ f2]
   ·rfl
  have h1:gv g (ju g (λt=>if o t then 128 else 0) g.T.length) x y=jy g (ju g (λt=>if o t then 128 else 0) (tl g x y)) x y (if o (tl g x y)then 128 else 0) Hi:=by
   unfold gv
   rw[if_pos h,Ld g _ _ _ e2]
   show setI _ _ _ _=_
   rw[Il,e3,e4,Wi g _ _ _ (Fak _)]
  rw[h1,zqv]
  have n1:=nb (-1) 0 (by omega) (by decide)
  have n2:=nb (-1) (-1) (by omega) (by decide)
  have n3:=nb 0 (-1) (by omega) (by decide)
  have n4:=nb 1 (-1) (by omega) (by decide)
  rw[Fb4]at n1 n3
  rw[<-Fdg]at n1 n2 n3 n4
  rw[<-Fdg]at n2
  rw[n1,n2,n3,n4]
 ·obtain⟨e1,e2,e3,e4⟩:=Bi hg h
  have hj:g.T.length-1-(g.T.length-1-tl g x y)=tl g x y:=by omega
  unfold Am
  generalize hF:ju g (λt=>if o t then 128 else 0) g.T.length=F
  have nb:∀dx dy:Int,(dy=1\/dy=0/\dx=1)->-1<=dx->gv g (vl g F g.T.length (g.T.length-1-tl g x y)) (x+dx) (y+dy)=gv g (vl g F g.T.length g.T.length) (x+dx) (y+dy):=λdx dy hd hx=>by
   unfold gv
   split
   ·rename_i h2
    obtain⟨f1,f2,f3,f4⟩:=Bi hg h2
    have hlt:tl g x y<tl g (x+dx) (y+dy):=by
     have hb:=h.1
     have hb2:=h2.1
     rcases hd with rfl|⟨rfl,rfl⟩
     ·have:g.W*(y+1)=g.W*y+g.W:=by rw[Int.mul_add];omega
      rw[this]at f1
      have hne:(tl g (x+dx) (y+1):Int)≠tl g x y:=λe=>by
       rw[e,e4]at f4
       omega
      omega
     ·rw[Fb4]at f1⊢
      omega
    rw[Lc g _ _ _ _ f2 (by omega) (by omega),Lc g _ _ _ _ f2 (Fak _) (by omega)]
   ·rfl
  have h1:gv g (vl g F g.T.length g.T.length) x y=jy g (vl g F g.T.length (g.T.length-1-tl g x y)) x y (gv g F x y) Ga:=by
   unfold gv
   rw[if_pos h,if_pos h,Lc g _ _ _ _ e2 (Fak _) (by omega)]
   show setI _ _ _ _=_
   rw[hj,Il,e3,e4,Wg g _ _ _ _ (by omega)]
  rw[h1,zqu]
  have n1:=nb 1 0 (by omega) (by decide)
  have n2:=nb 1 1 (by omega) (by decide)
  have n3:=nb 0 1 (by omega) (by decide)
  have n4:=nb (-1) 1 (by omega) (by decide)
  rw[Fb4]at n1 n3
  rw[<-Fdg]at n4
  rw[n1,n2,n3,n4]
def sqB(g:Gnd)(f:Nat->Bool)(s:Nat)(x y:Int):Bool:=(List.range (2*s+1)).all λa=>(List.range (2*s+1)).all λb=>decide (onG g (x-s+a) (y-s+b))&&f (tl g (x-s+a) (y-s+b))
theorem zmi{f:Nat->Bool}{s:Nat}{x y:Int}:sqB g f s x y=true↔sqP g f s x y:=by
 unfold sqB
 rw[Fbz]
 constructor
 ·intro h a b h1 h2 h3 h4
  have h5:=h (a+s).toNat (Fbb.2 (by omega))
  rw[Fbz]at h5
  have h6:=h5 (b+s).toNat (Fbb.2 (by omega))
  rw[show x-s+((a+s).toNat:Int)=x+a by omega,show y-s+((b+s).toNat:Int)=y+b by omega,Bool.and_eq_true_iff]at h6
  exact⟨of_decide_eq_true h6.1,h6.2⟩
 ·intro h a ha
  have ha:=Fbb.1 ha
  rw[Fbz]
  intro b hb
  have hb:=Fbb.1 hb
  have:=h (a-s) (b-s) (by omega) (by omega) (by omega) (by omega)
  rw[show x-s+(a:Int)=x+(a-s) by omega,show y-s+(b:Int)=y+(b-s) by omega,Bool.and_eq_true_iff]
  exact⟨decide_eq_true this.1,this.2⟩
def zt(g:Gnd)(l:List Bld)(c s:Int)(t:Nat):Bool:=sqB g (ye g l c) s.toNat ((t:Int)%g.W) ((t:Int)/g.W)
theorem zt3(hg:zp g)(l:List Bld)(c:Int){s:Int}(hs:0<=s/\s<=3)(ht:t<g.T.length):decide (s<Am g (ye g l c) t)=zt g l c s t:=by
 rw[Fb5,decide_eq_true_iff]
 unfold zt
 rw[zmi,<-zpr hg _ ht _ (by omega)]
 omega
def f8(g:Gnd)(l:List Bld)(c s:Int):AV:=lst 1 vy (blL g.T.length (zt g l c s))
end
def dirL:List (Int×Int):=[(0,-1),(1,0),(0,1),(-1,0),(1,-1),(1,1),(-1,1),(-1,-1)]
def Fm(g:Gnd)(x y:Int)(d:Int×Int):Int:=if onG g (x+d.1) (y+d.2)then x+d.1+g.W*(y+d.2)else -1
def Bp(g:Gnd)(t:Nat):List Int:=dirL.map (Fm g ((t:Int)%g.W) ((t:Int)/g.W))
theorem L7(g:Gnd)(t:Nat):(Bp g t).length=8:=by simp[Bp,dirL]
theorem zrp{g:Gnd}(hg:zp g)(x y:Int)(d:Int×Int):Fm g x y d=-1/\¬onG g (x+d.1) (y+d.2)\/onG g (x+d.1) (y+d.2)/\Fm g x y d=(tl g (x+d.1) (y+d.2):Nat)/\tl g (x+d.1) (y+d.2)<g.T.length:=by
 unfold Fm
 split
 ·rename_i h
  exact .inr ⟨h,(Bi hg h).1.symm,(Bi hg h).2.1⟩
 ·rename_i h
  exact .inl ⟨rfl,h⟩
theorem zro{g:Gnd}(hg:zp g){t:Nat}{u:Int}(h:u∈Bp g t):u=-1\/∃m:Nat,u=m/\m<g.T.length:=by
 unfold Bp at h
 obtain⟨d,_,rfl⟩:=Fad.1 h
 rcases zrp hg ((t:Int)%g.W) ((t:Int)/g.W) d with⟨q1,_⟩|⟨_,q2,q3⟩
 ·exact .inl q1
 ·exact .inr ⟨_,q2,q3⟩
section
variable {g:Gnd} {c:Int} {t way goal:Nat}
def zz(g:Gnd)(t way:Nat):Int:=(Bp g t).getD way (-1)
def Bb(g:Gnd)(c:Int)(t:Nat):Int:=wu c (g.T.getD t 5).toNat
def jf(ok:Nat->Bool)(u:Int):Bool:=decide (0<=u)&&ok u.toNat
def Fc(way:Nat):Nat:=way-4
def Fb(way:Nat):Nat:=(way-3)%4
def qa(g:Gnd)(ok:Nat->Bool)(c:Int)(t way:Nat):Int:=
 if jf ok (zz g t way)then
  (if way<4 then 5*(Bb g c t+Bb g c (zz g t way).toNat)
   else if jf ok (zz g t (Fc way))/\jf ok (zz g t (Fb way))then 7*(Bb g c t+Bb g c (zz g t way).toNat)else 0)
 else 0
def ku(g:Gnd)(ok:Nat->Bool)(c:Int)(t u:Nat)(k:Int):Prop:=ok t=true/\t<g.T.length/\∃way,way<8/\zz g t way=(u:Int)/\ok u=true/\k=qa g ok c t way/\0<k
theorem M7{ok:Nat->Bool}:∀t u k,ku g ok c t u k->0<k:=λt u k h=>by
 obtain⟨_,_,w,_,_,_,_,h⟩:=h
 exact h
theorem Nm(hg:zp g)(hw:way<8):zz g t way=-1\/∃u:Nat,zz g t way=u/\u<g.T.length:=by
 unfold zz
 have h8:way<(Bp g t).length:=by rw[L7];exact hw
 rw[Fa6,Faa h8]
 exact zro hg (Fab h8)
theorem R1{ok:Nat->Bool}{u:Int}(h:jf ok u=true):0<=u/\ok u.toNat=true:=by
 unfold jf at h
 simpa using h
theorem O3{ok:Nat->Bool}(h:qa g ok c t way≠0):jf ok (zz g t way)=true:=by
 unfold qa at h
 split at h
 ·assumption
 ·exact absurd rfl h
theorem zv3{ok:Nat->Bool}(ht:ok t=true)(htl:t<g.T.length)(hw:way<8)(h:0<qa g ok c t way):ku g ok c t (zz g t way).toNat (qa g ok c t way):=by
 obtain⟨h1,h2⟩:=R1 (O3 (g:=g) (ok:=ok) (c:=c) (t:=t) (way:=way) (by omega))
 exact⟨ht,htl,way,hw,by omega,h2,rfl,h⟩
theorem Lz(c:Int)(t:Nat):0<=wu c t/\wu c t<=6:=by
 have h:∀l∈[[2,1,3,5,0,0],[2,1,6,0,0,0],[2,1,0,3,2,0]],∀t:Nat,0<=(l:List Int).getD t 0/\(l:List Int).getD t 0<=6:=by
  intro l hl t
  simp only[Fas,Fbr,or_false]at hl
  by_cases h6:t<6
  ·have:t=0\/t=1\/t=2\/t=3\/t=4\/t=5:=by omega
   rcases hl with rfl|rfl|rfl<;>rcases this with rfl|rfl|rfl|rfl|rfl|rfl<;>decide
  ·rcases hl with rfl|rfl|rfl<;>(rw[Fa6,Fbi (by simp;omega)];decide)
 unfold wu
 split
 ·exact h _ (by simp) t
 ·split
  ·exact h _ (by simp) t
  ·exact h _ (by simp) t
theorem Wo(g:Gnd)(ok:Nat->Bool)(c:Int)(t way:Nat):0<=qa g ok c t way/\qa g ok c t way<=84:=by
 have h1:=Lz c (g.T.getD t 5).toNat
 have h2:=Lz c (g.T.getD (zz g t way).toNat 5).toNat
 unfold qa Bb
 split
 ·split
  ·omega
  ·split<;>omega
 ·omega
open Classical in
noncomputable def jm(g:Gnd)(ok:Nat->Bool)(c:Int)(goal:Nat):Nat->Int:=
 if ok goal=true then(if h:∃d,FarOK (ku g ok c) goal d then h.choose else λ_=>-1)else λ_=>-1
theorem zvq{ok:Nat->Bool}(hok:ok goal=true){d:Nat->Int}(h:FarOK (ku g ok c) goal d):jm g ok c goal=d:=by
 unfold jm
 rw[if_pos hok]
 have hx:∃d,FarOK (ku g ok c) goal d:=⟨d,h⟩
 rw[dif_pos hx]
 exact zvo M7 hx.choose_spec h
theorem zvp{ok:Nat->Bool}(hok:ok goal=false):jm g ok c goal=λ_=>-1:=by
 unfold jm
 rw[if_neg (by simp[hok])]
noncomputable def qq(g:Gnd)(ok:Nat->Bool)(c:Int)(d:Nat->Int)(t:Nat):Int:=
 if d t<=0 then -1 else match(List.range 8).find? λway=>decide (0<qa g ok c t way/\0<=d (zz g t way).toNat/\qa g ok c t way+d (zz g t way).toNat=d t)with
  |some way=>(way:Int)
  |none=>-1
end
theorem fw{F N S:Store}(hd:zh F N):((F.un N).un S).Has (F.un S):=by
 refine⟨λb y h=>?_,λb x h=>?_⟩
 ·rcases Ol h with h1|⟨h1,h2⟩
  ·exact zd h1
  ·have h3:(F.un N).obj b=some y:=yn hd h2
   show(match S.obj b with|some y=>some y|none=>(F.un N).obj b)=some y
   rw[h1];exact h3
 ·rcases Ok h with h1|⟨h1,h2⟩
  ·exact Cz h1
  ·have h3:(F.un N).tok b=some x:=H8 hd h2
   show(match S.tok b with|some y=>some y|none=>(F.un N).tok b)=some x
   rw[h1];exact h3
theorem Bj{l:List Unt}(hr:yh l){a b:Nat}(hab:a<b)(hb:b<l.length):(l[a]'(by omega)).id<l[b].id:=by
 induction b with
 |zero=>omega
 |succ b ih=>
  have h3:=hr (b+1) hb (by omega)
  simp only[Fdd]at h3
  by_cases e:a=b
  ·subst e;exact h3
  ·have:=ih (by omega) (by omega)
   omega
theorem Fe{l:List Unt}(hr:yh l){u v:Unt}(hu:u∈l)(hv:v∈l)(h:u.id=v.id):u=v:=by
 obtain⟨a,ha,rfl⟩:=Fan hu
 obtain⟨b,hb,rfl⟩:=Fan hv
 rcases Fd5 a b with q|q|q
 ·have:=Bj hr q hb;omega
 ·subst q;rfl
 ·have:=Bj hr q ha;omega
def wz(w:Wld)(L:List Ent):Prop:=∀e,e∈L↔∃u∈w.U,u.inn=0/\e=(u.id,u.pos)
theorem Pw{w:Wld}{L:List Ent}(h:wz w L)(hn:∀u∈w.U,u.pos.ok):∀e∈L,e.2.ok:=λe he=>by
 obtain⟨u,hu,_,rfl⟩:=(h e).1 he
 exact hn u hu
def Fl(w:Wld)(p:Vc)(r:Int)(us:List Unt):Prop:=∀u,u∈us↔(u∈w.U/\u.inn=0)/\near p u.pos r=true
theorem dp{w:Wld}{L:List Ent}(hr:yh w.U)(hL:wz w L){p:Vc}{r:Int}{ns:List Int}(hn:Ky L p r ns){us:List Unt}(h1:us.map (·.id)=ns)(h2:∀u∈us,u∈w.U/\u.inn=0):Fl w p r us:=by
 intro u
 constructor
 ·intro hu
  refine⟨h2 u hu,?_⟩
  have:u.id∈ns:=by rw[<-h1];exact Fad.2 ⟨u,hu,rfl⟩
  obtain⟨e,he,h3,h4⟩:=(hn.2 _).1 this
  obtain⟨v,hv,_,rfl⟩:=(hL e).1 he
  rw[Fe hr (h2 u hu).1 hv h3.symm]
  exact h4
 ·rintro⟨⟨h3,h4⟩,h5⟩
  have:u.id∈ns:=(hn.2 _).2 ⟨(u.id,u.pos),(hL _).2 ⟨u,h3,h4,rfl⟩,rfl,h5⟩
  rw[<-h1]at this
  obtain⟨v,hv,h6⟩:=Fad.1 this
  rw[Fe hr h3 (h2 v hv).1 h6.symm]
  exact hv
theorem Di(k:Int):0<zq k/\zq k<=81920:=by unfold zq;split<;>(try split)<;>omega
theorem Mf(k:Int):yx k=0\/yx k=1\/yx k=2:=by unfold yx;split<;>(try split)<;>(try split)<;>omega
theorem dm{a b:Vc}{r r':Int}(h:r<=r')(hn:near a b r=true):near a b r'=true:=by
 unfold near at*
 rw[decide_eq_true_iff]at*
 have:r*r<=r'*r':=Fbn h h (by omega) (by omega)
 omega
theorem ll{w:Wld}{id k:Int}{q:Vc}{us:List Unt}(hf:wj w.G w.B (yx k) q (zq k))(hus:Fl w q (zq k+81920) us):
  qv w id k q↔∀u∈us,u.id≠id->kb q (zq k) u.pos (zq u.kind)=true:=by
 constructor
 ·intro h u hu hne
  have:=(hus u).1 hu
  exact h.2 u this.1.1 this.1.2 hne
 ·intro h
  refine⟨hf,λu hu h0 hne=>?_⟩
  unfold kb
  cases hc:near q u.pos (zq k+zq u.kind)with
  |false=>rfl
  |true=>
   have h1:=dm (r':=zq k+81920) (by have:=Di u.kind;omega) hc
   have:=h u ((hus u).2 ⟨⟨hu,h0⟩,h1⟩) hne
   unfold kb at this
   rw[hc]at this
   exact this
end Go.V
namespace Go.V
def z8{α:Type}(f:α->AV)(e:Int×α):AV×AV:=(int e.1,f e.2)
def yc{α:Type}(cs:List (Int×α))(k:Int):Option α:=(cs.find? λe=>k==e.1).map (·.2)
def z6{α:Type}:List (Int×α)->Int->α->List (Int×α)
 |[],k,v=>[(k,v)]
 |e::l,k,v=>if k==e.1 then(k,v)::l else e::z6 l k v
theorem gr{α:Type}(f:α->AV)(cs:List (Int×α))(k:Int):(cs.map (z8 f)).find? (qA k)=(cs.find? λe=>k==e.1).map (z8 f):=by
 rw[List.find?_map];rfl
theorem Dg{α:Type}(f:α->AV)(cs:List (Int×α))(k:Int)(z:AV):Br false z ((cs.map (z8 f)).find? (qA k))=((yc cs k).map f).getD z:=by
 rw[gr]
 unfold yc
 cases cs.find? λe=>k==e.1 with
 |none=>rfl
 |some e=>rfl
theorem cn{α:Type}(f:α->AV)(k:Int)(v:α):∀cs:List (Int×α),
  (match(cs.map (z8 f)).findIdx? (qA k)with|some i=>(cs.map (z8 f)).set i (int k,f v)|none=>cs.map (z8 f)++[(int k,f v)])=(z6 cs k v).map (z8 f)
 |[]=>rfl
 |e::l=>by
  have ih:=cn f k v l
  rw[Fb0,Fdf]
  unfold z6
  by_cases h:k==e.1
  ·have h2:qA k (z8 f e)=true:=h
   rw[h2]
   simp only[h,if_true,List.set_cons_zero,Fb0]
   rfl
  ·have h:(k==e.1)=false:=by simpa using h
   have h2:qA k (z8 f e)=false:=h
   rw[h2]
   simp only[h,if_false,Fb0]
   cases hx:(l.map (z8 f)).findIdx? (qA k)with
   |none=>rw[hx]at ih;simp at ih⊢;exact ih
   |some i=>rw[hx]at ih;simp at ih⊢;exact ih
theorem Hd{α:Type}(f:α->AV)(cs:List (Int×α))(bs:List Nat)(clk:Nat)(k:Int)(v:α):∃bs' clk',jc (cs.map (z8 f)) bs clk (qA k) (int k) (f v)=.map ((z6 cs k v).map (z8 f)) bs' clk':=by
 have h:=cn f k v cs
 unfold jc
 cases hx:(cs.map (z8 f)).findIdx? (qA k)with
 |none=>rw[hx]at h;exact⟨_,_,by rw[<-h]⟩
 |some i=>rw[hx]at h;exact⟨_,_,by rw[<-h]⟩
theorem Af{α:Type}(k:Int)(v:α)(j:Int):∀cs:List (Int×α),yc (z6 cs k v) j=if j=k then some v else yc cs j
 |[]=>by
  unfold z6 yc
  by_cases h:j=k<;>simp[h]
 |e::l=>by
  have ih:=Af k v j l
  unfold yc at ih⊢
  by_cases h:k=e.1
  ·have h1:(k==e.1)=true:=by simpa using h
   rw[show z6 (e::l) k v=(k,v)::l by unfold z6;simp[h1]]
   by_cases h2:j=k
   ·simp[h2]
   ·have e1:(j==k)=false:=by simpa using h2
    have e2:(j==e.1)=false:=by rw[<-h];exact e1
    rw[Fc4,Fc4,if_neg h2]
    simp only[e1,e2]
  ·have h1:(k==e.1)=false:=by simpa using h
   rw[show z6 (e::l) k v=e::z6 l k v by rw[z6];simp[h1]]
   rw[Fc4,Fc4]
   by_cases h2:j=e.1
   ·have e1:(j==e.1)=true:=by simpa using h2
    simp only[e1]
    rw[if_neg (by omega)]
   ·have e1:(j==e.1)=false:=by simpa using h2
    simp only[e1]
    exact ih
end Go.V
namespace Go.V
theorem I7{l:List Unt}{i:Nat}(hi:i<l.length)(id:Int):((z7 (l.take (i+1)) id).length:Int)=((z7 (l.take i) id).length:Int)+(if l[i].inn=id then 1 else 0):=by
 unfold z7
 rw[Fac hi,List.filter_append,Fbj,Faj]
 by_cases h:l[i].inn=id
 ·simp[h]
 ·simp[h]
theorem fk{l:List Unt}(i:Nat)(id:Int):(z7 (l.take i) id).length<=(z7 l id).length:=by
 have h:(z7 l id).length=(z7 (l.take i) id).length+(z7 (l.drop i) id).length:=by
  unfold z7
  rw[<-Faj,<-Fbj,<-List.filter_append,Fcd]
 omega
def Pf(w:Wld)(i:Nat):Prop:=
 (∀j,(h:j<w.U.length)->j<i->w.U[j].inn≠0->∃x∈w.U,x.id=w.U[j].inn/\(x.inn=0/\x.owner=w.U[j].owner)/\xn w.U[j].kind=0/\w.U[j].pos=(0,0)/\w.U[j].goal=-1/\w.U[j].state=0)∧
 ∀x∈w.U,x.id≠0->((z7 (w.U.take i) x.id).length:Int)<=xn x.kind
theorem zpx{w:Wld}(h:Pf w w.U.length):∀u∈w.U,u.inn≠0->Bk w u:=by
 intro u hu hne
 obtain⟨j,hj,rfl⟩:=Fan hu
 obtain⟨x,hx,h1,h2,h3,h4,h5,h6⟩:=h.1 j hj hj hne
 have:=h.2 x hx (by rw[h1];exact hne)
 rw[Fax,h1]at this
 exact⟨x,hx,h1,h2,this,h3,h4,h5,h6⟩
theorem Rn(k:Int):0<=xn k/\xn k<=4:=by unfold xn;split<;>(try split)<;>(try split)<;>omega
end Go.V
namespace Go.V
def D3(w:Wld)(i:Nat):Prop:=∀j,(h:j<w.U.length)->j<i->(xh w w.U[j]/\∀b∈w.B,b.id≠w.U[j].id)/\(0<j->(w.U[j-1]'(by omega)).id<w.U[j].id)
theorem pj{w:Wld}(h:D3 w w.U.length):H7 w:=by
 refine⟨λj hj h0=>(h j hj hj).2 h0,λu hu=>?_⟩
 obtain⟨j,hj,rfl⟩:=Fan hu
 exact(h j hj hj).1
theorem pi{w:Wld}(h:H7 w)(i:Nat):D3 w i:=λj hj _=>⟨h.2 _ (Fab hj),h.1 j hj⟩
end Go.V
namespace Go.V
def RowsO{α:Type}(k:Nat)(f:α->List AV)(st:Store)(v:AV)(l:List α):Prop:=
 (v=.s (.slice none 0 0)/\l=[])\/∃b cap L,v=.s (.slice (some ⟨b,0,none⟩) l.length cap)/\st.obj b=some (.cells ((rws f l).flatten++L))/\l.length<=cap/\cap*k<=l.length*k+L.length/\cap<=9223372036854775807
section
variable {α:Type} {f:α->List AV} {k:Nat}
theorem Cf(hf:∀x,(f x).length=k)(l:List α):(rws f l).flatten.length=l.length*k:=by
 induction l with
 |nil=>simp[rws]
 |cons a l ih=>
  show(f a++(rws f l).flatten).length=(l.length+1)*k
  rw[Faj,hf,ih,Fds];omega
theorem Ln(a b:List α):(rws f (a++b)).flatten=(rws f a).flatten++(rws f b).flatten:=by
 rw[<-zo6,Fdz]
theorem Lm{l:List α}{i:Nat}(hi:i<l.length):(rws f l).flatten=(rws f (l.take i)).flatten++(f l[i]++(rws f (l.drop (i+1))).flatten):=by
 have e:l=l.take i++(l[i]::l.drop (i+1)):=by
  rw[<-List.drop_eq_getElem_cons hi,Fcd]
 have e2:(rws f (l[i]::l.drop (i+1))).flatten=f l[i]++(rws f (l.drop (i+1))).flatten:=rfl
 rw[<-e2,<-Ln,<-e]
theorem zmj{X Y ys:List AV}{j:Nat}(h:j+ys.length<=X.length):zv (X++Y) j ys=zv X j ys++Y:=by
 unfold zv
 rw[Fb6 (by omega),List.drop_append_of_le_length (by omega)]
 simp only[Fa1]
theorem O5(hf:∀x,(f x).length=k){l:List α}{i j:Nat}(hi:i<l.length){x':α}{ys L:List AV}(hj:j+ys.length<=k)(hx:f x'=zv (f l[i]) j ys):
  zv ((rws f l).flatten++L) (i*k+j) ys=(rws f (l.set i x')).flatten++L:=by
 have h1:(rws f (l.take i)).flatten.length=i*k:=by rw[Cf hf,Fat,Nat.min_eq_left (by omega)]
 have hi2:i<(l.set i x').length:=by rw[Fa4];exact hi
 rw[Lm hi,Lm hi2,Fa1,Fa1,<-h1,Wu]
 have e1:(l.set i x').take i=l.take i:=by rw[List.take_set_of_le (Fak i)]
 have e2:(l.set i x').drop (i+1)=l.drop (i+1):=by rw[List.drop_set_of_lt (by omega)]
 rw[e1,e2,List.getElem_set_self,hx]
 have h3:=hf l[i]
 rw[Fa1,zmj (by omega)]
 simp only[Fa1]
theorem RowsO.un{a g:Store}{v:AV}{l:List α}(h:RowsO k f g v l):RowsO k f (a.un g) v l:=by
 rcases h with h|⟨b1,cap,L,h1,h2,h3⟩
 ·exact .inl h
 ·exact .inr ⟨b1,cap,L,h1,zd h2,h3⟩
theorem RowsO.unL{a g:Store}{v:AV}{l:List α}(h:RowsO k f a v l)(hd:zh a g):RowsO k f (a.un g) v l:=by
 rcases h with h|⟨b1,cap,L,h1,h2,h3⟩
 ·exact .inl h
 ·exact .inr ⟨b1,cap,L,h1,yn hd h2,h3⟩
theorem RowsO.at{st:Store}{v:AV}{l:List α}(h:RowsO k f st v l){i:Nat}(hi:i<l.length):
  ∃b cap L,v=.s (.slice (some ⟨b,0,none⟩) l.length cap)/\st.obj b=some (.cells ((rws f l).flatten++L))/\l.length<=cap/\cap*k<=l.length*k+L.length/\cap<=9223372036854775807:=by
 rcases h with⟨_,rfl⟩|h
 ·exact absurd hi (Fbh i)
 ·exact h
theorem RowsO.borrow{st:Store}{v:AV}{l:List α}(hf:∀x,(f x).length=k)(hs:∀x,∀y∈f x,∃u,y=AV.s u/\qc u=true)(hv:RowsO k f st v l){Oth M:Nat->Nat->Prop}{w:World}(sto:StoreOK st Oth M w){x:Value}(hx:VRel w (λb o=>M b o\/Oth b o) v x):
  VRel w (λb o=>(M b o\/Oth b o)/\st.obj b=none) (lst k f l) x:=by
 rcases hv with⟨rfl,rfl⟩|⟨b,cap,L,rfl,ho,h1,h2,h3⟩
 ·cases hx
  exact AV.le_nil k _ _ _ (.s _)
 ·cases hx
  exact zx8 (sto.obj b _ ho).1 (λo hT=>by rw[ho]at hT;exact absurd hT.2 (by simp)) (zr l) h1
   (λrow hr=>by obtain⟨n,_,rfl⟩:=Fad.1 hr;exact hf n) (λrow hr y hy=>by
    obtain⟨n,_,rfl⟩:=Fad.1 hr
    exact hs n y hy)
theorem mp{P:Program}{c:Cfg}{e:TypeId}{ie:TI}(hie:c.I e=some ie)(hf:∀x,(f x).length=ie.size)(hby:ie.bytes<=1000){st:Store}{v:AV}{l:List α}(hv:RowsO ie.size f st v l)(x:α){src:AV}(hsrc:ji ie.size (.av src)=some [f x])(hlen:l.length<=1000000000){K:Ja}
  (h:∀b cap L,(Fresh st b\/∃c0,v=.s (.slice (some ⟨b,0,none⟩) l.length c0))->(l++[x]).length<=cap->cap*ie.size<=(l++[x]).length*ie.size+L.length->cap<=9223372036854775807->
   K (.s (.slice (some ⟨b,0,none⟩) (l++[x]).length cap)) (st.sO b (.cells ((rws f (l++[x])).flatten++L)))):appendK P c st e (.av v) (.av src) K:=by
 refine⟨.inr ⟨v,_,rfl,rfl,?_⟩⟩
 have hl:(l++[x]).length=l.length+1:=by simp
 have hfl:=Cf hf l
 have hmul:(l.length+1)*ie.bytes<=1000000001*1000:=Fdp (by omega) hby
 have happ:(rws f (l++[x])).flatten=(rws f l).flatten++f x:=by
  rw[Ln]
  show _++(f x++[])=_
  rw[Fcf]
 rcases hv with⟨rfl,rfl⟩|⟨b,cap,L,rfl,ho,h1,h2,h3⟩
 ·refine mo hie hsrc ⟨by simp at hmul⊢;omega,by simp⟩ (by simp) (λb' cap' hb hc hc2=>?_)
  have:=h b' cap' (List.replicate ((cap'-[f x].length)*ie.size) .any) (.inl hb) (by simpa using hc) (by
   simp only[Fbg,Fcz,Fbp,<-Fbx]
   exact Fa3 _ (by omega)) hc2
  exact this
 ·refine S9 hie (cap:=cap) ho (by rw[Faj,hfl];exact h2) h1 hsrc ⟨by simp;omega,by simp;omega⟩ (λhc=>?_) (λhc b' cap' hb hc1 hc2=>?_)
  ·have hc:l.length+1<=cap:=hc
   have hcm:(l.length+1)*ie.size<=cap*ie.size:=Fa3 _ hc
   rw[Fds]at hcm
   have e1:zv ((rws f l).flatten++L) (l.length*ie.size) [f x].flatten=(rws f (l++[x])).flatten++L.drop ie.size:=by
    rw[Da hfl,happ]
    simp[hf x]
   have:=h b cap (L.drop ie.size) (.inr ⟨cap,rfl⟩) (by omega) (by rw[hl,Fds,Fdv];omega) h3
   rw[hl,<-e1]at this
   exact this
  ·have hc1:l.length+1<=cap':=hc1
   have e1:((rws f l).flatten++L).take (l.length*ie.size)++[f x].flatten++List.replicate ((cap'-(l.length+1))*ie.size) .any=(rws f (l++[x])).flatten++List.replicate ((cap'-(l.length+1))*ie.size) .any:=by
    rw[Fb6 (by omega),Fcq (by omega),happ]
    simp
   have:=h b' cap' (List.replicate ((cap'-(l.length+1))*ie.size) .any) (.inl hb) (by omega) (by
    rw[hl,Fbg,<-Fbx]
    exact Fa3 _ (by omega)) hc2
   rw[hl,<-e1]at this
   exact this
end
theorem Bg(u:Unt):(zj u).length=10:=rfl
theorem Oj(u:Unt):∀y∈zj u,∃x,y=AV.s x/\qc x=true:=by
 intro y hy
 simp[zj]at hy
 rcases hy with rfl|rfl|rfl|rfl|rfl|rfl|rfl|rfl|rfl|rfl<;>exact⟨_,rfl,rfl⟩
def qp(w:Wld)(v:AV):List AV:=[int w.tick,int w.players,int w.next,int w.G.W,int w.G.H,qk w.G.T,lst 6 zn w.B,v]
theorem Iq{l:List Unt}(hr:yh l){a b:Nat}(hab:a<b)(hb:b<l.length):(l[a]'(by omega)).id<l[b].id:=by
 induction b with
 |zero=>omega
 |succ b ih=>
  have h3:=hr (b+1) hb (by omega)
  simp only[Fdd]at h3
  by_cases e:a=b
  ·subst e;exact h3
  ·have:=ih (by omega) (by omega)
   omega
theorem kz{i:TI}{A:Fr}{st:Store}{b o:Nat}{v:AV}{xs l:List AV}{K:Fr->Store->Prop}(hc:cellsOf v=some xs)(h1:xs.all AV.one=true)(hi:i.size=xs.length)(ho:st.obj b=some (.cells l))(hl:o+xs.length<=l.length)
  (hk:K A (st.sO b (.cells (zv l o xs)))):Cd i A st (.av (.s (.pointer (some ⟨b,o,none⟩)))) v K:=by
 unfold Cd
 rw[hc]
 show(bif Nat.beq xs.length i.size&&(xs.all AV.one)then _ else False)
 rw[hi]
 simp only[h1,Fbk,Bool.and_self,cond_true]
 rw[ho]
 exact⟨hl,Fy hk⟩
theorem Ff(k:Int):24576<=zq k/\zq k<=81920:=by unfold zq;split<;>(try split)<;>omega
theorem Mu{g:Gnd}(hg:zp g){l:List Bld}{c:Int}{p:Vc}{k:Int}(h:wj g l c p (zq k)):(24576<=p.1/\p.1+24576<=g.W*65536)/\(24576<=p.2/\p.2+24576<=g.H*65536)/\(p.1<=8388608/\p.2<=8388608):=by
 have h1:=h.1
 have h2:=Ff k
 obtain⟨⟨_,h3⟩,⟨_,h4⟩,_⟩:=hg
 omega
def j8(g:Gnd)(p:Vc):Nat:=(p.1/65536+g.W*(p.2/65536)).toNat
theorem Wb{g:Gnd}(hg:zp g){p:Vc}(h:(0<=p.1/\p.1<g.W*65536)/\(0<=p.2/\p.2<g.H*65536)):
  ((j8 g p:Nat):Int)=p.1/65536+g.W*(p.2/65536)/\j8 g p<g.T.length/\((j8 g p:Nat):Int)%g.W=p.1/65536/\((j8 g p:Nat):Int)/g.W=p.2/65536:=by
 have hs:=Ig hg (x:=p.1/65536) (y:=p.2/65536) (by omega) (by omega)
 have ha:=qm hg
 unfold j8
 generalize p.1/65536=x at*
 generalize p.2/65536=y at*
 have e:((x+g.W*y).toNat:Int)=x+g.W*y:=by omega
 rw[e]
 exact⟨rfl,by omega,hs.2.2.1,hs.2.2.2⟩
theorem ACalls.frozen{P:Program}{f:FuncId}{xs:List AV}{Q:Ja}{R:AV->Prop}(h:ACalls P f xs Store.empty Q)
  (hQ:∀r S,Q r S->∃r2,R r2/\∀(Oth M:Nat->Nat->Prop) (w:World) (v:Value),StoreOK S Oth M w->VRel w (λb o=>M b o\/Oth b o) r v->VRel w (λb o=>(M b o\/Oth b o)/\S.obj b=none) r2 v):
  ACalls P f xs Store.empty λr _=>R r:=by
 refine⟨λOth M w vs sto hr=>?_⟩
 have h1:=h.out Oth M w vs sto hr
 have key:∀v w',yw Store.empty Q Oth M w v w'->yw Store.empty (λr _=>R r) Oth M w v w':=by
  rintro v w' ⟨r,S,M',hq,hv,hs,hc⟩
  obtain⟨r2,hr2,hk⟩:=hQ r S hq
  refine⟨r2,Store.empty,λb o=>M' b o/\S.obj b=none,hr2,(hk Oth M' w' v hs hv).mono λb o hT=>?_,?_,?_⟩
  ·rcases hT with⟨h1,h2⟩|h1
   ·exact⟨.inl h1,h2⟩
   ·refine⟨.inr h1,?_⟩
    cases hb:S.obj b with
    |none=>rfl
    |some y=>exact absurd ((hs.obj b y hb).2 o) (hs.dis b o h1)
  ·exact{obj:=λb x hx=>(by cases hx),tok:=λb x hx=>(by cases hx),mlt:=λb o hm=>hs.mlt b o hm.1,olt:=hs.olt,dis:=λb o ho hm=>hs.dis b o ho hm.1}
  ·exact{size:=hc.size,keep:=hc.keep,blk:=hc.blk,shp:=hc.shp,sub:=λb o hm hb=>hc.sub b o hm.1 hb,tape:=hc.tape,os:=hc.os,output:=hc.output}
 generalize(callFunc f vs).run P w=res at h1
 cases res with
 |ok n w'=>
  cases n with
  |enter g args=>exact Calls.mono h1 λe w'' ⟨v,he,hv⟩=>⟨v,he,key _ _ hv⟩
  |value v=>exact key _ _ h1
  |_=>exact h1
 |_=>exact h1
theorem ACalls.frozenTo{P:Program}{f:FuncId}{xs:List AV}{st0:Store}{Q:Ja}{R:Ja}(h:ACalls P f xs st0 Q)
    (hQ:∀r S,Q r S->∃r2 S2,R r2 S2/\(∀b x,S2.obj b=some x->S.obj b=some x)/\(∀b x,S2.tok b≠some x)∧
      ∀(Oth M:Nat->Nat->Prop) (w:World) (v:Value),StoreOK S Oth M w->VRel w (λb o=>M b o\/Oth b o) r v->VRel w (λb o=>(M b o\/Oth b o)/\(S.obj b=none\/S2.obj b≠none)) r2 v):
    ACalls P f xs st0 R:=by
  refine⟨λOth M w vs sto hr=>?_⟩
  have h1:=h.out Oth M w vs sto hr
  have key:∀v w',yw st0 Q Oth M w v w'->yw st0 R Oth M w v w':=by
    rintro v w' ⟨r,S,M',hq,hv,hs,hc⟩
    obtain⟨r2,S2,hr2,hsub,htok,hk⟩:=hQ r S hq
    have hT:∀b o,((M' b o/\(S.obj b=none\/S2.obj b≠none))\/Oth b o)->(M' b o\/Oth b o):=λb o h=>h.imp (·.1) id
    refine⟨r2,S2,λb o=>M' b o/\(S.obj b=none\/S2.obj b≠none),hr2,(hk Oth M' w' v hs hv).mono λb o hT=>?_,?_,?_⟩
    · rcases hT with⟨h1,h2⟩|h1
      · exact⟨.inl h1,h2⟩
      · refine⟨.inr h1,?_⟩
        cases hb:S.obj b with
        |none=>exact .inl rfl
        |some y=>exact absurd ((hs.obj b y hb).2 o) (hs.dis b o h1)
    · exact { obj:=λb x hx=>⟨(hs.obj b x (hsub b x hx)).1.mono hT,λo=>⟨(hs.obj b x (hsub b x hx)).2 o,.inr (by rw[hx];simp)⟩⟩
              tok:=λb x hx=>absurd hx (htok b x),mlt:=λb o hm=>hs.mlt b o hm.1,olt:=hs.olt,dis:=λb o ho hm=>hs.dis b o ho hm.1}
    · exact{size:=hc.size,keep:=hc.keep,blk:=hc.blk,shp:=hc.shp,sub:=λb o hm hb=>hc.sub b o hm.1 hb,tape:=hc.tape,os:=hc.os,output:=hc.output}
  generalize(callFunc f vs).run P w=res at h1
  cases res with
  | ok n w'=>
    cases n with
    |enter g args=>exact Calls.mono h1 λe w'' ⟨v,he,hv⟩=>⟨v,he,key _ _ hv⟩
    |value v=>exact key _ _ h1
    |_=>exact h1
  |_=>exact h1
def Gu(a:Option Addr):Prop:=∀x,a=some x->x.spot=none
section
variable {P:Program} {c:Cfg} {st:Store}
theorem mn{e:TypeId}{ie:TI}(hie:c.I e=some ie){a:Option Addr}{x:AV}{rows:List (List AV)}(hx:ji ie.size (.av x)=some rows)(hroom:room rows.length ie.bytes)(hne:0<rows.length){K:Ja}
  (h2:∀b' cap',Fresh st b'->rows.length<=cap'->cap'<=9223372036854775807->K (.s (.slice (some ⟨b',0,none⟩) rows.length cap')) (st.sO b' (.cells (rows.flatten++List.replicate ((cap'-rows.length)*ie.size) .any)))):
  AppX P c st e (.s (.slice a 0 0)) x K:=by
 refine⟨⟨ie,hie⟩,λie' hie' Oth M w sv xv argTypes ty args t sto hs hxv hat ht1 hu hti h0 h1'=>?_⟩
 rw[hie]at hie'
 cases hie'
 have hs:=VRel.eq_s hs
 subst hs
 have A:AppArgs P c argTypes args t e ie a 0 0 xv:=⟨hat,ht1,hu,hti,h0,h1'⟩
 obtain⟨hl1,hl2,new,hnew,hone,hnsz,hfc⟩:=Gt (P:=P) (β:=λ_=>0) (k:=ie.size) (x:=.av x) hxv hx
 obtain⟨newCap,rest,g1,g0,g2,g3⟩:=H2 (old:=#[]) ty A hl1 (hfc w.drew rfl) (by cases a<;>simp[Builtin.firstCells,loadCells,loadCellsFrom]) (by omega) (by simpa using hroom)
 have gd:Grow w w.drew:=Grow.drew w
 have sto1:=sto.grow gd
 obtain⟨f1,f2,f3⟩:=De sto1 (#[]++new++rest) e (l:=rows.flatten++List.replicate rest.size .any) (by
  rw[Fa8,Fa8]
  refine((show Reads w _ rows.flatten ([]++new.toList)from hnew).append ⟨by simp,λi x y hx hy=>?_⟩).keep (gd.keeps _)
  rw[Fb1]at hx
  split at hx
  ·cases hx;exact .any _
  ·cases hx)
 rw[g2]at f2
 simp only[Fbf]at g1 g3 f2
 exact⟨_,_,g3,_,_,_,h2 _ newCap f1 g1 g0,.s _,f2,(gd.chg M).trans f3⟩
theorem zy0{e:TypeId}{ie:TI}(hie:c.I e=some ie){x:AV}{rows:List (List AV)}(hx:ji ie.size (.av x)=some rows)(hroom:room rows.length ie.bytes){K:Ja}
  (h1:rows=[]->∀a,Gu a->K (.s (.slice a 0 0)) st)
  (h2:0<rows.length->∀b' cap',Fresh st b'->rows.length<=cap'->cap'<=9223372036854775807->K (.s (.slice (some ⟨b',0,none⟩) rows.length cap')) (st.sO b' (.cells (rows.flatten++List.replicate ((cap'-rows.length)*ie.size) .any)))):
  AppX P c st e .emp x K:=by
 refine⟨⟨ie,hie⟩,λie' hie' Oth M w sv xv argTypes ty args t sto hs hxv hat ht1 hu hti h0 h1'=>?_⟩
 cases hs with
 |emp a ha=>
  by_cases hr:0<rows.length
  ·exact(mn hie hx hroom hr (h2 hr)).out ie' hie' Oth M w _ xv argTypes ty args t sto (.s _) hxv hat ht1 hu hti h0 h1'
  ·rw[hie]at hie'
   cases hie'
   have hr0:rows=[]:=Fav (by omega)
   subst hr0
   have A:AppArgs P c argTypes args t e ie a 0 0 xv:=⟨hat,ht1,hu,hti,h0,h1'⟩
   obtain⟨hl1,hl2,new,hnew,hone,hnsz,hfc⟩:=Gt (P:=P) (β:=λ_=>0) (k:=ie.size) (x:=.av x) hxv hx
   have hn0:new.toList=[]:=by
    have:new.toList.length=0:=by rw[Fby,hnsz];simp
    exact Fav this
   have hrun:=Ku (w':=w) ty A hl1 (hfc w rfl) (by simp) (λb hb=>by rw[hn0];simp[storeCells]) (λ_=>rfl)
   exact⟨_,_,hrun,_,_,M,h1 rfl a ha,.s _,sto,Chg.refl M w⟩
end
def RowsQ{α:Type}(k:Nat)(f:α->List AV)(st:Store)(v:AV)(l:List α):Prop:=
 RowsO k f st v l\/∃a,Gu a/\v=.s (.slice a 0 0)/\l=[]
section
variable {α:Type} {f:α->List AV} {k:Nat}
theorem RowsO.q{st:Store}{v:AV}{l:List α}(h:RowsO k f st v l):RowsQ k f st v l:=.inl h
theorem RowsQ.un{a g:Store}{v:AV}{l:List α}(h:RowsQ k f g v l):RowsQ k f (a.un g) v l:=h.imp (·.un) id
theorem RowsQ.unL{a g:Store}{v:AV}{l:List α}(h:RowsQ k f a v l)(hd:zh a g):RowsQ k f (a.un g) v l:=h.imp (·.unL hd) id
theorem RowsQ.form{st:Store}{v:AV}{l:List α}(h:RowsQ k f st v l):∃oa cap,v=.s (.slice oa l.length cap)/\∀i,i<l.length->∃b L,oa=some ⟨b,0,none⟩/\st.obj b=some (.cells ((rws f l).flatten++L)):=by
 rcases h with(⟨rfl,rfl⟩|⟨b,cap,L,rfl,ho,_⟩)|⟨a,_,rfl,rfl⟩
 ·exact⟨none,0,rfl,λi hi=>absurd hi (Fbh i)⟩
 ·exact⟨_,cap,rfl,λi _=>⟨b,L,rfl,ho⟩⟩
 ·exact⟨a,0,rfl,λi hi=>absurd hi (Fbh i)⟩
theorem RowsQ.borrow{st:Store}{v:AV}{l:List α}(hf:∀x,(f x).length=k)(hs:∀x,∀y∈f x,∃u,y=AV.s u/\qc u=true)(hv:RowsQ k f st v l){Oth M:Nat->Nat->Prop}{w:World}(sto:StoreOK st Oth M w){x:Value}(hx:VRel w (λb o=>M b o\/Oth b o) v x):
  VRel w (λb o=>(M b o\/Oth b o)/\st.obj b=none) (lst k f l) x:=by
 rcases hv with hv|⟨a,ha,rfl,rfl⟩
 ·exact hv.borrow hf hs sto hx
 ·cases hx
  exact .nil k a
theorem RowsQ.sub{S S2:Store}{v:AV}{l:List α}(h:RowsQ k f S v l)(hk:∀b n c,v=.s (.slice (some ⟨b,0,none⟩) n c)->S2.obj b=S.obj b):RowsQ k f S2 v l:=by
 rcases h with(h|⟨b,cap,L,rfl,ho,h2⟩)|h
 ·exact .inl (.inl h)
 ·exact .inl (.inr ⟨b,cap,L,rfl,by rw[hk b _ _ rfl];exact ho,h2⟩)
 ·exact .inr h
theorem Np{P:Program}{c:Cfg}{e:TypeId}{ie:TI}(hie:c.I e=some ie)(hf:∀x,(f x).length=ie.size)(hby:ie.bytes<=1000){st:Store}{v:AV}{l:List α}(hv:RowsQ ie.size f st v l)(x:α){src:AV}(hsrc:ji ie.size (.av src)=some [f x])(hlen:l.length<=1000000000){K:Ja}
  (h:∀b cap L,(Fresh st b\/∃c0,0<c0/\v=.s (.slice (some ⟨b,0,none⟩) l.length c0))->(l++[x]).length<=cap->cap*ie.size<=(l++[x]).length*ie.size+L.length->cap<=9223372036854775807->
   K (.s (.slice (some ⟨b,0,none⟩) (l++[x]).length cap)) (st.sO b (.cells ((rws f (l++[x])).flatten++L)))):appendK P c st e (.av v) (.av src) K:=by
 refine⟨.inr ⟨v,_,rfl,rfl,?_⟩⟩
 have hl:(l++[x]).length=l.length+1:=by simp
 have hfl:=Cf hf l
 have hmul:(l.length+1)*ie.bytes<=1000000001*1000:=Fdp (by omega) hby
 have happ:(rws f (l++[x])).flatten=(rws f l).flatten++f x:=by
  rw[Ln]
  show _++(f x++[])=_
  rw[Fcf]
 have empty:∀a:Option Addr,l=[]->v=.s (.slice a 0 0)->AppX P c st e v src K:=λa hl0 hva=>by
  subst hl0 hva
  refine mn hie hsrc ⟨by simp;omega,by simp⟩ (by simp) (λb' cap' hb hc hc2=>?_)
  have:=h b' cap' (List.replicate ((cap'-[f x].length)*ie.size) .any) (.inl hb) (by simpa using hc) (by
   simp only[Fbg,Fcz,Fbp,<-Fbx]
   exact Fa3 _ (by omega)) hc2
  exact this
 rcases hv with(⟨hv,hl0⟩|⟨b,cap,L,rfl,ho,h1,h2,h3⟩)|⟨a,ha,hv,hl0⟩
 ·exact empty _ hl0 hv
 ·refine S9 hie (cap:=cap) ho (by rw[Faj,hfl];exact h2) h1 hsrc ⟨by simp;omega,by simp;omega⟩ (λhc=>?_) (λhc b' cap' hb hc1 hc2=>?_)
  ·have hc:l.length+1<=cap:=hc
   have hcm:(l.length+1)*ie.size<=cap*ie.size:=Fa3 _ hc
   rw[Fds]at hcm
   have e1:zv ((rws f l).flatten++L) (l.length*ie.size) [f x].flatten=(rws f (l++[x])).flatten++L.drop ie.size:=by
    rw[Da hfl,happ]
    simp[hf x]
   have:=h b cap (L.drop ie.size) (.inr ⟨cap,by omega,rfl⟩) (by omega) (by rw[hl,Fds,Fdv];omega) h3
   rw[hl,<-e1]at this
   exact this
  ·have hc1:l.length+1<=cap':=hc1
   have e1:((rws f l).flatten++L).take (l.length*ie.size)++[f x].flatten++List.replicate ((cap'-(l.length+1))*ie.size) .any=(rws f (l++[x])).flatten++List.replicate ((cap'-(l.length+1))*ie.size) .any:=by
    rw[Fb6 (by omega),Fcq (by omega),happ]
    simp
   have:=h b' cap' (List.replicate ((cap'-(l.length+1))*ie.size) .any) (.inl hb) (by omega) (by
    rw[hl,Fbg,<-Fbx]
    exact Fa3 _ (by omega)) hc2
   rw[hl,<-e1]at this
   exact this
 ·exact empty _ hl0 hv
theorem Va{P:Program}{c:Cfg}{e:TypeId}{ie:TI}(hie:c.I e=some ie)(hf:∀x,(f x).length=ie.size)(hby:ie.bytes<=1000){st:Store}{l:List α}(hlen:l.length<=1000000000){K:Ja}
  (h:∀v N,RowsQ ie.size f N v l->zh N st->K v (N.un st)):appendK P c st e (.av .emp) (.av (lst ie.size f l)) K:=by
 refine⟨.inr ⟨_,_,rfl,rfl,?_⟩⟩
 have hmul:l.length*ie.bytes<=1000000000*1000:=Fdp (by omega) hby
 refine zy0 hie (rows:=rws f l) (by simp[ji,lst]) ⟨by rw[zr];omega,by rw[zr];omega⟩ (λhr a ha=>?_) (λhr b cap hb hc hc2=>?_)
 ·have hl:l=[]:=by
   have:=congrArg List.length hr
   rw[zr]at this
   exact Fav this
  subst hl
  have:=h (.s (.slice a 0 0)) Store.empty (.inr ⟨a,ha,rfl,rfl⟩) (λb hb=>(hb.elim (λh=>h rfl) (λh=>h rfl):False).elim)
  rwa [vf]at this
 ·rw[zr]at hc⊢
  have:=h (.s (.slice (some ⟨b,0,none⟩) l.length cap)) (Store.empty.sO b (.cells ((rws f l).flatten++List.replicate ((cap-l.length)*ie.size) .any))) (.inl (.inr ⟨b,cap,_,rfl,zc _ _ _,hc,by
   simp only[Fbg,<-Fbx]
   exact Fa3 _ (by omega),hc2⟩)) (λi hi hs=>by
    have:i=b:=Decidable.byContradiction λhne=>by
     rcases hi with hi|hi
     ·rw[ze hne]at hi;exact hi rfl
     ·exact hi rfl
    subst this
    exact fresh_iff.1 hb hs)
  have e:(Store.empty.sO b (.cells ((rws f l).flatten++List.replicate ((cap-l.length)*ie.size) .any))).un st=st.sO b (.cells ((rws f l).flatten++List.replicate ((cap-l.length)*ie.size) .any)):=by
   rw[<-K6 (fresh_iff.1 hb),vf]
  rw[e]at this
  exact this
end
section
variable {w:Wld} {v:AV} {k p:Nat} {S:Store}
theorem nu{st:Store}(hv:RowsQ 10 zj st v w.U){Oth M:Nat->Nat->Prop}{W:World}(sto:StoreOK st Oth M W){x:Value}(hx:VRel W (λb o=>M b o\/Oth b o) (.agg (qp w v)) x):
  VRel W (λb o=>(M b o\/Oth b o)/\st.obj b=none) (.agg (zu w)) x:=by
 cases hx with
 |agg _ c hl hc=>
  refine .agg _ c hl λi x y hx hy=>?_
  match i with
  |0=>simp only[zu,Fal,Faf]at hx;subst hx;exact xk (hc 0 _ y rfl hy)
  |1=>simp only[zu,Fao,Fal,Faf]at hx;subst hx;exact xk (hc 1 _ y rfl hy)
  |2=>simp only[zu,Fao,Fal,Faf]at hx;subst hx;exact xk (hc 2 _ y rfl hy)
  |3=>simp only[zu,Fao,Fal,Faf]at hx;subst hx;exact xk (hc 3 _ y rfl hy)
  |4=>simp only[zu,Fao,Fal,Faf]at hx;subst hx;exact xk (hc 4 _ y rfl hy)
  |5=>simp only[zu,Fao,Fal,Faf]at hx;subst hx;exact xk (hc 5 _ y rfl hy)
  |6=>simp only[zu,Fao,Fal,Faf]at hx;subst hx;exact xk (hc 6 _ y rfl hy)
  |7=>simp only[zu,Fao,Fal,Faf]at hx;subst hx;exact hv.borrow Bg Oj sto (hc 7 _ y rfl hy)
  |i+8=>simp[zu]at hx
def w9(v:AV)(p:Nat):Prop:=∀b n c,v=.s (.slice (some ⟨b,0,none⟩) n c)->0<c->b≠p
theorem RowsQ.set{α:Type}{f:α->List AV}{l:List α}(h:RowsQ k f S v l)(hp:w9 v p)(x:AObj):RowsQ k f (S.sO p x) v l:=by
 rcases h with(h|⟨b,cap,L,rfl,ho,h2,h3⟩)|h
 ·exact .inl (.inl h)
 ·by_cases hc:0<cap
  ·exact .inl (.inr ⟨b,cap,L,rfl,by rw[ze (hp b _ _ rfl hc)];exact ho,h2,h3⟩)
  ·have h0:cap=0:=by omega
   subst h0
   have hl:l=[]:=Fav (by omega)
   subst hl
   exact .inr ⟨_,λx hx=>by cases hx;rfl,rfl,rfl⟩
 ·exact .inr h
theorem Px{α:Type}{f:α->List AV}{l:List α}(h:RowsQ k f S v l)(hp:S.obj p=none):w9 v p:=by
 rcases h with(⟨rfl,rfl⟩|⟨b,cap,L,rfl,ho,h2⟩)|⟨a,ha,rfl,rfl⟩
 ·intro b n c e
  simp at e
 ·intro b' n c e _
  simp only[AV.s.injEq,Value.slice.injEq,Faf,Addr.mk.injEq]at e
  obtain⟨⟨rfl,_⟩,_⟩:=e
  intro e2
  subst e2
  rw[hp]at ho
  cases ho
 ·intro b n c e hc
  simp only[AV.s.injEq,Value.slice.injEq]at e
  omega
def spU(w:Wld)(c:Cmd):Unt:=⟨w.next,c.P,c.N,(c.X,c.Y),-1,-1,0,0,0⟩
def spW(w:Wld)(c:Cmd):Wld:={w with U:=w.U++[spU w c],next:=w.next+1}
def Ke(w:Wld):Prop:=4096<=w.U.length\/1099511627776<=w.next
open Classical in
noncomputable def spE(w:Wld)(c:Cmd):Int:=if Ke w then 4 else if qv w 0 c.N (c.X,c.Y)then 0 else 5
open Classical in
noncomputable def doE(E:Wld->Cmd->Int)(w:Wld)(c:Cmd):Int:=if¬zw w\/¬Ct c\/w.players<c.P then 1 else E w c
open Classical in
noncomputable def doW(E:Wld->Cmd->Int)(W:Wld->Cmd->Wld)(w:Wld)(c:Cmd):Wld:=if doE E w c=0 then W w c else w
theorem zwe{E:Wld->Cmd->Int}{c:Cmd}(h:¬zw w\/¬Ct c\/w.players<c.P):doE E w c=1:=by unfold doE;rw[if_pos h]
theorem zwd{E:Wld->Cmd->Int}{c:Cmd}(h1:zw w)(h2:Ct c)(h3:c.P<=w.players):doE E w c=E w c:=by
 unfold doE
 rw[if_neg]
 rintro(h|h|h)
 ·exact h h1
 ·exact h h2
 ·omega
theorem zwb{E:Wld->Cmd->Int}{W:Wld->Cmd->Wld}{c:Cmd}(h:doE E w c=0):doW E W w c=W w c:=by unfold doW;rw[if_pos h]
theorem zwc{E:Wld->Cmd->Int}{W:Wld->Cmd->Wld}{c:Cmd}(h:doE E w c≠0):doW E W w c=w:=by unfold doW;rw[if_neg h]
end
structure Scr where
 W:Wld
 L:List Cmd
def O9(s:Scr):List AV:=[int s.W.tick,int s.W.players,int s.W.next,int s.W.G.W,int s.W.G.H,qk s.W.G.T,lst 6 zn s.W.B,lst 10 zj s.W.U,lst 10 vg s.L]
end Go.V
namespace Go.V
section
variable {id P:Int} {i:Nat} {w:Wld}
def Ca(f:Int->Int):List Int->Int
 |[]=>0
 |a::l=>if f a=0 then Ca f l else f a
theorem Nv{f:Int->Int}:∀{l:List Int},Ca f l=0->∀a∈l,f a=0
 |[],_,a,ha=>by cases ha
 |b::l,h,a,ha=>by
  unfold Ca at h
  by_cases hb:f b=0
  ·rw[if_pos hb]at h
   rcases Fas.1 ha with rfl|ha
   ·exact hb
   ·exact Nv h a ha
  ·rw[if_neg hb]at h
   exact absurd h hb
def qj(l:List Unt)(id:Int):Option Nat:=l.findIdx? λu=>decide (u.id=id)
def unt0:Unt:=⟨0,0,0,(0,0),0,0,0,0,0⟩
theorem Kj{l:List Unt}(h:qj l id=some i):∃hi:i<l.length,l[i].id=id:=by
 unfold qj at h
 rw[Fbq]at h
 obtain⟨h1,h2,_⟩:=h
 exact⟨h1,of_decide_eq_true h2⟩
theorem zvn{l:List Unt}(h:qj l id=none):∀u∈l,u.id≠id:=by
 unfold qj at h
 rw[Fbu]at h
 exact λu hu=>of_decide_eq_false (h u hu)
theorem gu{l:List Unt}(hr:yh l)(hi:i<l.length)(e:l[i].id=id):qj l id=some i:=by
 cases h:qj l id with
 |none=>exact absurd e (zvn h _ (Fab hi))
 |some k=>
  obtain⟨hk,e2⟩:=Kj h
  by_cases h1:k<i
  ·have:=Iq hr h1 hi;omega
  ·by_cases h2:i<k
   ·have:=Iq hr h2 hk;omega
   ·rw[show k=i by omega]
def uAt(w:Wld)(id:Int):Unt:=match qj w.U id with|none=>unt0|some i=>w.U.getD i unt0
def jr(w:Wld)(P id:Int):Int:=match qj w.U id with|none=>3|some i=>if(w.U.getD i unt0).owner=P then(if(w.U.getD i unt0).inn=0 then 0 else 9)else 6
theorem V4(h:qj w.U id=some i):∃hi:i<w.U.length,w.U[i].id=id/\uAt w id=w.U[i]:=by
 obtain⟨hi,e⟩:=Kj h
 refine⟨hi,e,?_⟩
 unfold uAt
 rw[h]
 simp[Fa6,hi]
theorem zyw(h:qj w.U id=none):jr w P id=3/\uAt w id=unt0:=by
 unfold jr uAt
 rw[h]
 exact⟨rfl,rfl⟩
theorem zyv(h:qj w.U id=some i)(hi:i<w.U.length):jr w P id=if w.U[i].owner=P then(if w.U[i].inn=0 then 0 else 9)else 6:=by
 unfold jr
 rw[h]
 simp[Fa6,hi]
theorem S0(h:jr w P id=0):∃i,∃hi:i<w.U.length,qj w.U id=some i/\w.U[i].id=id/\uAt w id=w.U[i]/\w.U[i].owner=P/\w.U[i].inn=0:=by
 cases hf:qj w.U id with
 |none=>rw[(zyw (P:=P) hf).1]at h;cases h
 |some i=>
  obtain⟨hi,e,e2⟩:=V4 hf
  rw[zyv hf hi]at h
  refine⟨i,hi,rfl,e,e2,?_⟩
  split at h
  ·split at h
   ·exact⟨‹_›,‹_›⟩
   ·cases h
  ·cases h
def Pc(u:Unt):Unt:={u with goal:=-1,next:=-1,stuck:=0,state:=0}
def qw(l:List Int)(g:Unt->Unt)(U:List Unt):List Unt:=U.map λu=>if u.id∈l then g u else u
theorem Gv(l:List Int)(g:Unt->Unt)(U:List Unt):(qw l g U).length=U.length:=by unfold qw;rw[Fa5]
theorem W6{l:List Int}{g:Unt->Unt}{U:List Unt}(hi:i<U.length):(qw l g U)[i]'(by rw[Gv];exact hi)=if U[i].id∈l then g U[i]else U[i]:=by unfold qw;rw[Fcj]
theorem W5{l:List Int}{g:Unt->Unt}(hg:∀u,(g u).id=u.id){U:List Unt}(hi:i<U.length):((qw l g U)[i]'(by rw[Gv];exact hi)).id=U[i].id:=by
 rw[W6 hi]
 split
 ·exact hg _
 ·rfl
theorem zmz{l:List Int}{g:Unt->Unt}(hg:∀u,(g u).id=u.id){U:List Unt}(hr:yh U):yh (qw l g U):=by
 intro i hi h0
 have hi2:i<U.length:=by rw[Gv]at hi;exact hi
 rw[W5 hg hi2,W5 hg (show i-1<U.length by omega)]
 exact hr i hi2 h0
def stW(w:Wld)(c:Cmd):Wld:={w with U:=qw c.U Pc w.U}
def stE(w:Wld)(c:Cmd):Int:=Ca (jr w c.P) c.U
theorem zpd{α:Type}{f:α->List AV}{k:Nat}(hf:∀x,(f x).length=k){U:List α}(hi:i<U.length)(x:α)(J:List AV):zv ((rws f U).flatten++J) (i*k) (f x)=(rws f (U.set i x)).flatten++J:=by
 have:=O5 (j:=0) (ys:=f x) (L:=J) (x':=x) hf hi (by rw[hf];omega) (by
  unfold zv
  rw[hf x,Fdq,Fcz,Fbf,Fdl (by rw[hf];exact Fak _),Fcf])
 rw[Nat.add_zero]at this
 exact this
end
section
variable {P:Program} {c:Cfg} {st:Store}
structure SrcOK(P:Program)(st:Store)(k m:Nat)(x:AV)(xs:List AV):Prop where
  out:∀(Oth M:Nat->Nat->Prop) (w:World) (xv:Value),StoreOK st Oth M w->VRel w (λb o=>M b o\/Oth b o) x xv->
    (Builtin.lenOf xv).run P w=.ok m w/\∃new:Array Value,Reads w (λb o=>M b o\/Oth b o) xs new.toList/\(∀v∈new.toList,qc v=true)/\new.size=m*k/\∀w',w'.heap=w.heap->(Builtin.firstCells k m xv).run P w'=.ok new w'
theorem SrcOK.obj{k m o b cp:Nat}{l:List AV}(ho:st.obj b=some (.cells l))(hl:o+m*k<=l.length)(h1:∀y∈(l.drop o).take (m*k),y.one=true):SrcOK P st k m (.s (.slice (some ⟨b,o,none⟩) m cp)) ((l.drop o).take (m*k)):=by
  refine⟨λOth M w xv sto hxv=>?_⟩
  have hxv:=VRel.eq_s hxv
  subst hxv
  obtain⟨cs,e,fr,hb,_,hlen,hrel⟩:=(sto.obj b _ ho).1
  have hreads:Reads w (λb o=>M b o\/Oth b o) ((l.drop o).take (m*k)) ((List.range' 0 (m*k)).map λi=>cs.getD (o+i) undef):=by
    refine⟨by simp;omega,λi x y hx hy=>?_⟩
    have hi:i<m*k:=by
      have:=(Fae.1 hx).1
      simp at this;omega
    rw[Fbw hi,Fca]at hx
    simp[hi]at hy
    subst hy
    refine hrel (o+i) x _ hx ?_
    rw[Fa0 (by omega)]
    simp[show o+i<cs.size by omega]
  refine⟨by simp[Builtin.lenOf],((List.range' 0 (m*k)).map λi=>cs.getD (o+i) undef).toArray,by simpa using hreads,by simpa using dc hreads h1,by simp,λw' hw=>?_⟩
  have:=Gz (P:=P) ⟨b,o,none⟩ w' (λi=>cs.getD (o+i) undef) (m*k) 0 #[] (λp hp0 hp=>by
    rw[j3,Rt hw]
    simp only[World.cell?,hb]
    have:o+p<cs.size:=by omega
    simp[this])
  simp only[Builtin.firstCells,loadCells]
  simpa using this
end
section
variable {P:Program} {c:Cfg} {st:Store}
theorem zyy{e:TypeId}{ie:TI}(hie:c.I e=some ie){a:Option Addr}{x:AV}{m:Nat}{xs:List AV}(hx:SrcOK P st ie.size m x xs)(hroom:room m ie.bytes)(hne:0<m){K:Ja}
    (h2:∀b' cap',Fresh st b'->m<=cap'->cap'<=9223372036854775807->K (.s (.slice (some ⟨b',0,none⟩) m cap')) (st.sO b' (.cells (xs++List.replicate ((cap'-m)*ie.size) .any)))):
    AppX P c st e (.s (.slice a 0 0)) x K:=by
  refine⟨⟨ie,hie⟩,λie' hie' Oth M w sv xv argTypes ty args t sto hs hxv hat ht1 hu hti h0 h1'=>?_⟩
  rw[hie]at hie'
  cases hie'
  have hs:=VRel.eq_s hs
  subst hs
  have A:AppArgs P c argTypes args t e ie a 0 0 xv:=⟨hat,ht1,hu,hti,h0,h1'⟩
  obtain⟨hl1,new,hnew,hone,hnsz,hfc⟩:=hx.out Oth M w xv sto hxv
  obtain⟨newCap,rest,g1,g0,g2,g3⟩:=H2 (old:=#[]) ty A hl1 (hfc w.drew rfl) (by cases a<;>simp[Builtin.firstCells,loadCells,loadCellsFrom]) (by omega) (by simpa using hroom)
  have gd:Grow w w.drew:=Grow.drew w
  have sto1:=sto.grow gd
  obtain⟨f1,f2,f3⟩:=De sto1 (#[]++new++rest) e (l:=xs++List.replicate rest.size .any) (by
    rw[Fa8,Fa8]
    refine((show Reads w _ xs ([]++new.toList)from hnew).append ⟨by simp,λi x y hx hy=>?_⟩).keep (gd.keeps _)
    rw[Fb1]at hx
    split at hx
    · cases hx;exact .any _
    · cases hx)
  rw[g2]at f2
  simp only[Fbf]at g1 g3 f2
  exact⟨_,_,g3,_,_,_,h2 _ newCap f1 g1 g0,.s _,f2,(gd.chg M).trans f3⟩
end
section
variable {α:Type} {f:α->List AV} {k:Nat}
end
instance(a b:Bld):Decidable (At a b):=inferInstanceAs (Decidable (_/\_))
def bdB(w:Wld)(c:Cmd):Bld:=⟨w.next,c.P,c.T.tmod w.G.W,c.T.tdiv w.G.W,c.W,c.H⟩
open Classical in
noncomputable def Lx(g:Gnd)(l:List Bld)(b:Bld):Int:=if¬onP g b then 3 else if∃x∈l,At x b then 12 else if¬Cr g b then 5 else if 256<=l.length then 4 else 0
def d0(w:Wld)(b:Bld):Prop:=∃t:Nat,((t:Int)<w.G.W*w.G.H/\wi w.G b t)/\∃u∈w.U,u.inn=0/\ve w.G t u.pos (zq u.kind)
open Classical in
noncomputable def bdE(w:Wld)(c:Cmd):Int:=if¬(0<=c.T/\c.T<w.G.W*w.G.H)then 3 else if 1099511627776<=w.next then 4 else if Lx w.G w.B (bdB w c)=0 then(if d0 w (bdB w c)then 5 else 0)else Lx w.G w.B (bdB w c)
def bdW(w:Wld)(c:Cmd):Wld:={w with B:=w.B++[bdB w c],next:=w.next+1}
def zye:Bld:=⟨0,0,0,0,0,0⟩
def Hq(l:List Bld)(id:Int):Option Nat:=l.findIdx? λb=>decide (b.id=id)
def drE(w:Wld)(c:Cmd):Int:=match Hq w.B c.N with|none=>3|some i=>if(w.B.getD i zye).owner=c.P then 0 else 6
def drW(w:Wld)(c:Cmd):Wld:=match Hq w.B c.N with|none=>w|some i=>{w with B:=w.B.eraseIdx i}
end Go.V
namespace Go.V
section
variable {r P N:Int} {w:Wld} {k:Nat}
def Cm(m r:Int):Prop:=0<=r/\r<=9223372036854775807/\r*r<=m/\(r=9223372036854775807\/m<(r+1)*(r+1))
theorem zs0{m r':Int}(h:Cm m r)(h':Cm m r'):r=r':=by
 obtain⟨h0,h1,h2,h3⟩:=h
 obtain⟨g0,g1,g2,g3⟩:=h'
 have a:¬r<r':=λhlt=>by
  rcases h3 with h3|h3
  ·omega
  ·have:=Fbn (show r+1<=r' by omega) (show r+1<=r' by omega) (by omega) g0
   omega
 have b:¬r'<r:=λhlt=>by
  rcases g3 with h3|h3
  ·omega
  ·have:=Fbn (show r'+1<=r by omega) (show r'+1<=r by omega) (by omega) h0
   omega
 omega
def R7(p q:Vc):Prop:=17180131329<=sqr (qf p q)
instance(p q:Vc):Decidable (R7 p q):=inferInstanceAs (Decidable (_<=_))
def F9(w:Wld)(P N:Int):Int:=if jr w P N=0 then(if xn (uAt w N).kind=0 then 7 else 0)else jr w P N
def P9(x u:Unt):Int:=if 0<xn u.kind then 7 else if R7 u.pos x.pos then 8 else 0
def ldA(w:Wld)(P N id:Int):Int:=if jr w P id=0 then P9 (uAt w N) (uAt w id)else jr w P id
def ldE(w:Wld)(c:Cmd):Int:=if F9 w c.P c.N=0 then(if Ca (ldA w c.P c.N) c.U=0 then(if xn (uAt w c.N).kind<((z7 w.U c.N).length:Int)+(c.U.length:Int)then 4 else 0)else Ca (ldA w c.P c.N) c.U)else F9 w c.P c.N
def ldU(n:Int)(u:Unt):Unt:={u with pos:=(0,0),goal:=-1,next:=-1,stuck:=0,inn:=n,state:=0}
def ldW(w:Wld)(c:Cmd):Wld:={w with U:=qw c.U (ldU c.N) w.U}
theorem zsr{id:Int}(h:ldA w P N id=0):jr w P id=0/\P9 (uAt w N) (uAt w id)=0:=by
 unfold ldA at h
 by_cases e:jr w P id=0
 ·rw[if_pos e]at h;exact⟨e,h⟩
 ·rw[if_neg e]at h;exact absurd h e
theorem zxy(h:F9 w P N=0):jr w P N=0/\xn (uAt w N).kind≠0:=by
 unfold F9 at h
 by_cases e:jr w P N=0
 ·rw[if_pos e]at h
  refine⟨e,λe2=>?_⟩
  rw[if_pos e2]at h
  cases h
 ·rw[if_neg e]at h;exact absurd h e
theorem zq0{n:Int}{q m:Nat}(h0:0<=n)(h1:n<2^m)(h2:n+q*2^m<18446744073709551616):vh .or .u64 (q*2^m) n=q*2^m+n:=by
 obtain⟨a,rfl⟩:=Fcn h0
 have e:((q:Int)*2^m)=((q*2^m:Nat):Int):=by simp
 have h1':a<2^m:=by exact_mod_cast h1
 rw[e]at h2⊢
 have h3:a+q*2^m<18446744073709551616:=by omega
 rw[(zyk (q*2^m) a (by omega) (by omega)).2,Nat.or_comm,zrq a q m h1',Cb (by omega) (by omega)]
 simp
 omega
theorem zmx(hk:k<=62):IntKind.u64.wrap (1*2^(min ((k:Int)).toNat IntKind.u64.bits))=2^k:=by
 have:(min ((k:Int)).toNat IntKind.u64.bits)=k:=by
  show min ((k:Int)).toNat 64=k
  omega
 rw[this,Int.one_mul]
 have h:(2:Int)^k<=2^62:=by exact_mod_cast Nat.pow_le_pow_right (by decide) hk
 have h0:(0:Int)<2^k:=Int.pow_pos (by decide)
 have h2:(2:Int)^62=4611686018427387904:=by decide
 exact Cb (by omega) (by omega)
def Dc(m r:Int)(k:Nat):Prop:=∃q:Nat,r=q*2^k/\r+2^k<=9223372036854775808/\r*r<=m/\(m<(r+2^k)*(r+2^k)\/r+2^k=9223372036854775808)
theorem zpl{m:Int}(hm:0<=m):Dc m 0 63:=⟨0,by simp,by decide,by simpa using hm,.inr (by decide)⟩
theorem zpn{m:Int}(h:Dc m r 0):Cm m r:=by
 obtain⟨q,e,h1,h2,h3⟩:=h
 have e1:(2:Int)^0=1:=rfl
 rw[e1]at h1 h3 e
 exact⟨by omega,by omega,h2,h3.symm.imp (λh=>by omega) id⟩
theorem zpo{m:Int}(h:Dc m r (k+1)):vh .or .u64 r (2^k)=r+2^k/\0<=r/\(0:Int)<2^k/\r+2^k<9223372036854775808:=by
 obtain⟨q,e,h1,h2,h3⟩:=h
 have h0:(0:Int)<2^k:=Int.pow_pos (by decide)
 have e2:(2:Int)^(k+1)=2*2^k:=by rw[Int.pow_succ,Fcv]
 have hr:0<=r:=by rw[e];exact Fa2 (by omega) (by omega)
 rw[e2]at h1
 refine⟨?_,hr,h0,by omega⟩
 rw[e]
 refine zq0 (by omega) (by rw[e2];omega) ?_
 rw[<-e];omega
theorem zpm{m:Int}(h:Dc m r (k+1))(hn:m<(r+2^k)*(r+2^k)):Dc m r k:=by
 obtain⟨q,e,h1,h2,h3⟩:=h
 have e2:(2:Int)^(k+1)=2*2^k:=by rw[Int.pow_succ,Fcv]
 have h0:(0:Int)<2^k:=Int.pow_pos (by decide)
 rw[e2]at h1
 refine⟨2*q,?_,by omega,h2,.inl hn⟩
 rw[e,e2]
 push_cast
 rw[<-Fc8,Fcv (q:Int) 2]
theorem zpk{m:Int}(h:Dc m r (k+1))(hn:(r+2^k)*(r+2^k)<=m):Dc m (r+2^k) k:=by
 obtain⟨q,e,h1,h2,h3⟩:=h
 have e2:(2:Int)^(k+1)=2*2^k:=by rw[Int.pow_succ,Fcv]
 have h0:(0:Int)<2^k:=Int.pow_pos (by decide)
 rw[e2]at h1 h3
 have e3:r+2^k+2^k=r+2*2^k:=by omega
 refine⟨2*q+1,?_,by omega,hn,by rw[e3];exact h3⟩
 rw[e,e2]
 push_cast
 rw[Feb,Int.one_mul,<-Fc8,Fcv (q:Int) 2]
end
end Go.V
